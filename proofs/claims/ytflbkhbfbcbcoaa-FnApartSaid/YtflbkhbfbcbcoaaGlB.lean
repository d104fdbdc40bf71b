import Derived.Laws.Cells
import Derived.Laws.Sem
import Derived.Laws.Tables
import Derived.Test.YtflbkhbfbcbcoaaGlA
/- GL, a small deterministic machine: its definitions, and that its calls are calls of the program. -/
set_option linter.unusedSimpArgs false
set_option linter.unusedVariables false
set_option linter.unnecessarySimpa false
namespace GL
open Go
variable {P : Program} {w : World}

theorem add_mk (g off i : Nat) : (⟨g, off, none⟩ : Addr).add i = ⟨g, off + i, none⟩ := by
  unfold Addr.add; split
  · simp [*]
  · rfl

def layA (arr : Array Value) (o : Nat) (vs : List Value) : Array Value := (arr.toList.take o ++ vs ++ arr.toList.drop (o + vs.length)).toArray

theorem layA_size {arr : Array Value} {o : Nat} {vs : List Value} (h : o + vs.length ≤ arr.size) : (layA arr o vs).size = arr.size := by
  simp [layA]; omega

theorem layA_nil {arr : Array Value} {o : Nat} : layA arr o [] = arr := by
  simp [layA]

theorem layA_cons {arr : Array Value} {o : Nat} {v : Value} {vs : List Value} (h : o + (v :: vs).length ≤ arr.size) :
    layA (arr.setIfInBounds o v) (o + 1) vs = layA arr o (v :: vs) := by
  have hl : o < arr.toList.length := by simp at h ⊢; omega
  simp only [layA, Array.toList_setIfInBounds]
  congr 1
  rw [List.take_set, List.drop_set_of_lt (by omega), List.take_succ_eq_append_getElem hl]
  rw [List.set_append_right _ _ (by simp; omega)]
  have : o - (arr.toList.take o).length = 0 := by simp; omega
  rw [this]
  simp [Nat.add_comm, Nat.add_left_comm]

theorem layA_get {arr : Array Value} {o : Nat} {vs : List Value} (h : o + vs.length ≤ arr.size) (i : Nat) :
    (layA arr o vs)[i]? = if i < o then arr[i]? else if i < o + vs.length then vs[i - o]? else arr[i]? := by
  simp only [layA, List.getElem?_toArray]
  have ho : (arr.toList.take o).length = o := by simp; omega
  split
  · rename_i h1
    rw [List.append_assoc, List.getElem?_append_left (by omega), List.getElem?_take, if_pos h1]; simp
  · split
    · rename_i h1 h2
      rw [List.append_assoc, List.getElem?_append_right (by omega), ho, List.getElem?_append_left (by omega)]
    · rename_i h1 h2
      rw [List.getElem?_append_right (by simp; omega), List.getElem?_drop]
      simp only [List.length_append, ho]
      have : o + vs.length + (i - (o + vs.length)) = i := by omega
      rw [this]; simp

theorem setO_setO (w : World) (g : Nat) (a b : Obj) : setO (setO w g a) g b = setO w g b := by
  simp [setO, Array.setIfInBounds_setIfInBounds]

theorem lt_heap {w : World} {g : Nat} {o : Obj} (hg : w.heap[g]? = some o) : g < w.heap.size := by
  rcases Nat.lt_or_ge g w.heap.size with h | h
  · exact h
  · rw [Array.getElem?_eq_none h] at hg; cases hg

theorem setO_self {w : World} {g : Nat} {o : Obj} (hg : w.heap[g]? = some o) : setO w g o = w := by
  have h : w.heap.setIfInBounds g o = w.heap := by
    apply Array.ext_getElem?
    intro j
    rw [Array.getElem?_setIfInBounds]
    by_cases e : g = j
    · subst e; rw [if_pos rfl, if_pos (lt_heap hg), hg]
    · simp [e]
  simp only [setO, h]

theorem run_storeCells (vs : List Value) : ∀ (i : Nat) (w : World) (g off : Nat) (arr : Array Value) (T : TypeId), (∀ v ∈ vs, (∀ cs, v ≠ .agg cs) ∧ (∀ cs, v ≠ .tuple cs)) →
    w.heap[g]? = some (.cells arr T (0, 0)) → off + i + vs.length ≤ arr.size →
    (storeCells ⟨g, off, none⟩ vs i).run P w = .ok () (setO w g (.cells (layA arr (off + i) vs) T (0, 0))) := by
  induction vs with
  | nil => intro i w g off arr T _ hg _; simp [storeCells, layA_nil, setO_self hg]
  | cons v vs ih =>
    intro i w g off arr T hv hg hlen
    have hglt := lt_heap hg
    simp only [storeCells, Sem.run_bind, add_mk]
    have hst : (store ⟨g, off + i, none⟩ v).run P w = .ok () (setO w g (.cells (arr.setIfInBounds (off + i) v) T (0, 0))) := by
      have hc : w.cell? ⟨g, off + i, none⟩ = some (arr[off + i]'(by simp at hlen; omega)) := by
        rw [cell?_arr hg]; exact Array.getElem?_eq_getElem _
      have hf : w.frozen? ⟨g, off + i, none⟩ = false := by simp [World.frozen?, hg]
      have h1 := (hv v (List.mem_cons_self ..)).1
      have h2 := (hv v (List.mem_cons_self ..)).2
      have hw : w.setCell ⟨g, off + i, none⟩ v = setO w g (.cells (arr.setIfInBounds (off + i) v) T (0, 0)) := by
        simp only [World.setCell, setO]
        congr 1
        apply Array.ext_getElem?
        intro j
        rw [Array.getElem?_modify, Array.getElem?_setIfInBounds]
        by_cases e : g = j
        · subst e
          rw [if_pos rfl, if_pos rfl, if_pos hglt, hg]; rfl
        · simp [e]
      unfold store
      cases v <;> first | exact absurd rfl (h1 _) | exact absurd rfl (h2 _) | simp [Sem.run, hc, hf, hw]
    rw [hst]
    simp only [Result.andThen_ok]
    rw [ih (i + 1) _ g off (arr.setIfInBounds (off + i) v) T (fun x hx => hv x (List.mem_cons_of_mem _ hx)) (setO_eq _ _ hglt) (by simp at hlen ⊢; omega)]
    rw [setO_setO, ← layA_cons (arr := arr) (o := off + i) (v := v) (vs := vs) hlen]; rfl

theorem run_loadCells (g off n : Nat) (cs : List Value) (hl : cs.length = n) (h : ∀ (j : Nat) (v : Value), cs[j]? = some v → w.cell? ⟨g, off + j, none⟩ = some v) :
    (loadCells ⟨g, off, none⟩ n).run P w = .ok cs.toArray w := by
  subst hl
  exact Go.run_loadCells_list _ _ cs (fun j v hj => by rw [add_mk]; exact h j v hj)

def sizeP (P : Program) (t : TypeId) : Option Nat := (P.info? t).map (·.size)
def aggP (P : Program) (t : TypeId) : Option Bool := (P.underlying t).map fun | .struct _ | .array .. => true | _ => false
def bytesP (P : Program) (t : TypeId) : Option Nat := (P.info? t).map (·.bytes)
def zeroP (P : Program) (t : TypeId) : Option Value := (P.info? t).bind (·.zero)

theorem run_sizeOf {t : TypeId} {n : Nat} (h : sizeP P t = some n) : (Go.sizeOf t).run P w = .ok n w := by
  unfold sizeP at h
  cases hi : P.info? t with
  | none => simp [hi] at h
  | some i => rw [hi] at h; simp at h; subst h; simp [Go.sizeOf, typeInfo, hi]

theorem run_isAgg {t : TypeId} {b : Bool} (h : aggP P t = some b) : (isAgg t).run P w = .ok b w := by
  unfold aggP at h
  cases hi : P.underlying t with
  | none => simp [hi] at h
  | some d => simp [hi] at h; subst h; cases d <;> simp [isAgg, underlying, hi]

theorem run_zeroValue {t : TypeId} {v : Value} (h : zeroP P t = some v) : (zeroValue t).run P w = .ok v w := by
  unfold zeroP at h
  cases hi : P.info? t with
  | none => simp [hi] at h
  | some i => simp [hi] at h; simp [zeroValue, typeInfo, hi, h]

theorem run_bytes {t : TypeId} {n : Nat} (h : bytesP P t = some n) : ∃ i, (typeInfo t).run P w = .ok i w ∧ i.bytes = n := by
  unfold bytesP at h
  cases hi : P.info? t with
  | none => simp [hi] at h
  | some i => simp [hi] at h; exact ⟨i, by simp [typeInfo, hi], h⟩

/-- the value out of cells, on the model's side -/
def mkW (agg : Bool) (cs : List Value) : Value := if agg then .agg cs.toArray else cs.headD undef

theorem run_loadVar {t : TypeId} {agg : Bool} {k g off : Nat} {cs : List Value} (ha : aggP P t = some agg) (hk : sizeP P t = some k) (hl : cs.length = k)
    (h1 : agg = false → k = 1) (h : ∀ (j : Nat) (v : Value), cs[j]? = some v → w.cell? ⟨g, off + j, none⟩ = some v) :
    (loadVar t ⟨g, off, none⟩).run P w = .ok (mkW agg cs) w := by
  unfold loadVar
  simp only [Sem.run_bind, run_isAgg ha, Result.andThen_ok]
  cases agg with
  | true => simp [run_sizeOf hk, run_loadCells g off k cs hl h, mkW]
  | false =>
    have hk1 := h1 rfl
    subst hk1
    match cs, hl with
    | [v], _ =>
      have := h 0 v rfl
      simp only [Nat.add_zero] at this
      simp [mkW, this]

theorem run_storeVar {t : TypeId} {k g off : Nat} {x : Value} {arr : Array Value} {T : TypeId} (hk : sizeP P t = some k) (hx : x.cells.size = k)
    (hc : ∀ v ∈ x.cells.toList, (∀ cs, v ≠ .agg cs) ∧ (∀ cs, v ≠ .tuple cs)) (hg : w.heap[g]? = some (.cells arr T (0, 0))) (hlen : off + k ≤ arr.size) :
    (storeVar t ⟨g, off, none⟩ x).run P w = .ok () (setO w g (.cells (layA arr off x.cells.toList) T (0, 0))) := by
  unfold storeVar
  simp only [Sem.run_bind, run_sizeOf hk, Result.andThen_ok, hx, ne_eq, not_true_eq_false, if_false, Sem.run_pure]
  have := run_storeCells (P := P) x.cells.toList 0 w g off arr T hc hg (by simp [hx]; omega)
  simpa using this
end GL
namespace GL
open Go
variable {P : Program} {w : World} {fid : Nat → FuncId} {ρ : Rho} {lam : Nat → Nat → Nat} {L : Nat → Nat × List V}

def cMt : V → Value → Bool
  | .int k n, .int k' n' => k == k' && n == n'
  | .bool b, .bool b' => b == b'
  | .nilp, .pointer none => true
  | .nils, .slice none 0 0 => true
  | .tup [], .tuple vs => vs.size == 0
  | _, _ => false

theorem cMt_sound {x : V} {v : Value} (h : cMt x v = true) : RV fid ρ x v := by
  unfold cMt at h
  split at h
  · simp at h; obtain ⟨rfl, rfl⟩ := h; exact .int _ _
  · simp at h; subst h; exact .bool _
  · exact .nilp
  · exact .nils
  · simp at h
    obtain rfl : _ = #[] := by simpa using h
    exact .tup .nil
  · cases h

def csMt : List V → List Value → Bool
  | [], [] => true
  | x :: xs, y :: ys => cMt x y && csMt xs ys
  | _, _ => false

theorem csMt_sound : ∀ {xs : List V} {ys : List Value}, csMt xs ys = true → RVs fid ρ xs ys
  | [], [], _ => .nil
  | x :: xs, y :: ys, h => by
    simp [csMt] at h; exact .cons (cMt_sound h.1) (csMt_sound h.2)
  | [], _ :: _, h => by simp [csMt] at h
  | _ :: _, [], h => by simp [csMt] at h

def opdMt (fid : Nat → FuncId) : Operand → Opd → Bool
  | .tmp t, .t n => t == n
  | .const v, .c x => cMt x v
  | .func f, .f n => fid n == f
  | _, _ => false

def argsMt (fid : Nat → FuncId) : List Operand → List Opd → Bool
  | [], [] => true
  | x :: xs, y :: ys => opdMt fid x y && argsMt fid xs ys
  | _, _ => false

inductive RTs (fid : Nat → FuncId) (ρ : Rho) (lam : Nat → Nat → Nat) (L : Nat → Nat × List V) : List T → List Value → Prop
  | nil : RTs fid ρ lam L [] []
  | cons {x : T} {y : Value} {xs : List T} {ys : List Value} : RT fid ρ lam L x y → RTs fid ρ lam L xs ys → RTs fid ρ lam L (x :: xs) (y :: ys)

theorem opd_sound {s : S} {a : Act} (ht : ∀ i, RT fid ρ lam s.L (s.σ i) (a.tmps.getD i undef)) {x : Operand} {o : Opd} (h : opdMt fid x o = true) :
    RT fid ρ lam s.L (s.ev o) (a.eval x) := by
  unfold opdMt at h
  split at h
  · simp at h; subst h; exact ht _
  · exact cMt_sound h
  · simp at h; subst h; exact .fn .nil
  · cases h

theorem args_sound {s : S} {a : Act} (ht : ∀ i, RT fid ρ lam s.L (s.σ i) (a.tmps.getD i undef)) : ∀ {xs : List Operand} {os : List Opd}, argsMt fid xs os = true →
    RTs fid ρ lam s.L (os.map s.ev) (xs.map a.eval)
  | [], [], _ => .nil
  | x :: xs, o :: os, h => by
    simp [argsMt] at h; exact .cons (opd_sound ht h.1) (args_sound ht h.2)
  | [], _ :: _, h => by simp [argsMt] at h
  | _ :: _, [], h => by simp [argsMt] at h

theorem vals_sound : ∀ {ts : List T} {ys : List Value} {xs : List V}, RTs fid ρ lam L ts ys → vals ts = some xs → RVs fid ρ xs ys
  | [], _, xs, h, hv => by cases h; simp [vals] at hv; subst hv; exact .nil
  | .v x :: ts, _, xs, h, hv => by
    cases h with
    | cons h1 h2 =>
      simp only [vals, Option.bind_eq_some_iff] at hv
      obtain ⟨xs', hx, he⟩ := hv
      cases he
      exact .cons h1 (vals_sound h2 hx)
  | .lp .. :: ts, _, xs, h, hv => by simp [vals] at hv

/-- a scalar, on the model's side -/
def cvS : V → Value
  | .int k n => .int k n
  | .bool b => .bool b
  | _ => undef

theorem run_binI {op : BinOp} {k : IntKind} {a b : Int} {x : V} (hsh : ¬ (op = .shl ∨ op = .shr)) (h : binI op k a b = some x) (t : TypeId) :
    (binOp op t (.int k a) (.int k b)).run P w = .ok (cvS x) w ∧ RV fid ρ x (cvS x) := by
  cases op <;> simp [binI] at h hsh <;>
    first
      | (subst h; exact ⟨by simp [binOp, Op.intArith, Op.intBits, Op.intCmp, cvS] <;> rfl, by constructor⟩)
      | (obtain ⟨h0, rfl⟩ := h; exact ⟨by simp [binOp, Op.intDiv, h0, cvS], by constructor⟩)

theorem run_shI {op : BinOp} {k k' : IntKind} {a b : Int} {x : V} (hsh : op = .shl ∨ op = .shr) (h : shI op k a b = some x) (t : TypeId) :
    (binOp op t (.int k a) (.int k' b)).run P w = .ok (cvS x) w ∧ RV fid ρ x (cvS x) := by
  unfold shI at h
  split at h
  · cases h
  · rename_i hb
    rcases hsh with rfl | rfl <;> simp at h <;> subst h <;> exact ⟨by simp [binOp, Op.shift, hb, cvS], by constructor⟩
end GL
