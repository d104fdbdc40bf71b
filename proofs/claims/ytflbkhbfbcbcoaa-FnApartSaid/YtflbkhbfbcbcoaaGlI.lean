import Derived.Below
import Derived.Laws.AppendOwn
import Derived.Lib.BitFns
import Derived.Test.YtflbkhbfbcbcoaaGlH
/- GL, a small deterministic machine: its definitions, and that its calls are calls of the program. -/
set_option linter.unusedSimpArgs false
set_option linter.unusedVariables false
set_option linter.unnecessarySimpa false
/-! GL: functions of Go's library that are taken by the shelf's contracts. -/
namespace GL
open Go

/-- how many bits a number has -/
def lenE : List V → Heap → Option (V × Heap)
  | [.int .u64 n], h => if 0 ≤ n ∧ n ≤ 18446744073709551615 then some (.int .i64 (Lib.bitLen n.toNat), h) else none
  | _, _ => none
theorem lenE_some {args : List V} {h : Heap} {r : V × Heap} (hr : lenE args h = some r) : ∃ n : Int, args = [.int .u64 n] ∧ (0 ≤ n ∧ n ≤ 18446744073709551615) ∧ r = (.int .i64 (Lib.bitLen n.toNat), h) := by
  unfold lenE at hr
  split at hr
  · rename_i n
    split at hr
    · rename_i hn
      injection hr with hr
      exact ⟨n, rfl, hn, hr.symm⟩
    · cases hr
  · cases hr
theorem lenE_ok {P : Program} {fid : Nat → FuncId} {f : Nat} (hf : ∃ F, P.funcs[fid f]? = some F ∧ (F.name == "runtime.NumGoroutine") = false ∧ F.body.isNone = false)
    (hc : ∀ (x : Int) (w : World), 0 ≤ x → x ≤ 18446744073709551615 → Calls P (fid f) #[.int .u64 x] w fun e w' => e = .returned (.int .i64 (Lib.bitLen x.toNat)) ∧ w' = w) :
    CallOK P fid fun g args h => if g = f then lenE args h else none := by
  refine ⟨fun g args h v h' ρ w as hx hm ha => ?_, fun g args h v h' q blk hx hd => ?_, fun g args h v h' hx => ?_⟩
  · split at hx
    case isFalse => cases hx
    rename_i e
    subst e
    obtain ⟨n, rfl, hn, e⟩ := lenE_some hx
    injection e with e1 e2
    subst e1; subst e2
    cases ha with
    | cons h1 h2 =>
      cases h2
      cases h1
      refine ⟨hf, (hc n w hn.1 hn.2).mono ?_⟩
      rintro e w' ⟨rfl, rfl⟩
      exact ⟨_, rfl, HS.same hm (.int _ _)⟩
  · split at hx
    case isFalse => cases hx
    rename_i e
    subst e
    obtain ⟨n, rfl, hn, e⟩ := lenE_some hx
    injection e with e1 e2
    subst e1; subst e2
    exact ⟨hd, by simp [lenE, hn]⟩
  · split at hx
    case isFalse => cases hx
    obtain ⟨n, rfl, hn, e⟩ := lenE_some hx
    injection e with e1 e2
    subst e2
    exact Nat.le_refl _
/-- slices.Values: what it hands on is a function over a box that holds the slice -/
def valuesE : List V → Heap → Option (V × Heap)
  | [.nils], h => some (.fn 427 [.ptr h.length 0], h ++ [⟨.own, [.nils]⟩])
  | [.slice b o n c], h => some (.fn 427 [.ptr h.length 0], h ++ [⟨.own, [.slice b o n c]⟩])
  | _, _ => none
theorem valuesE_some {args : List V} {h : Heap} {r : V × Heap} (hr : valuesE args h = some r) : ∃ v : V, args = [v] ∧ (v = .nils ∨ ∃ b o n c, v = .slice b o n c) ∧ r = (.fn 427 [.ptr h.length 0], h ++ [⟨.own, [v]⟩]) := by
  unfold valuesE at hr
  split at hr
  · injection hr with hr; exact ⟨_, rfl, .inl rfl, hr.symm⟩
  · injection hr with hr; exact ⟨_, rfl, .inr ⟨_, _, _, _, rfl⟩, hr.symm⟩
  · cases hr
theorem valuesE_eq {v : V} (h : Heap) (hv : v = .nils ∨ ∃ b o n c, v = .slice b o n c) : valuesE [v] h = some (.fn 427 [.ptr h.length 0], h ++ [⟨.own, [v]⟩]) := by
  rcases hv with rfl | ⟨b, o, n, c, rfl⟩ <;> rfl
theorem set_app {h : Heap} {p : Nat} (blk nb : Blk) (hd : isDead h p = true) : (h ++ [nb]).set p blk = h.set p blk ++ [nb] := by
  have := isDead_lt hd
  rw [List.set_append, if_pos this]
theorem valuesE_ok {P : Program} {fid : Nat → FuncId} {f : Nat} {T : TypeId} (hf : ∃ F, P.funcs[fid f]? = some F ∧ (F.name == "runtime.NumGoroutine") = false ∧ F.body.isNone = false)
    (hc : ∀ (a : Option Addr) (len cap : Nat) (w : World), Calls P (fid f) #[.slice a len cap] w fun e w' => e = .returned (.func (.func (fid 427)) #[] #[.pointer (some ⟨w.heap.size, 0, none⟩)]) ∧ w' = w.alloc (.cells #[.slice a len cap] T)) :
    CallOK P fid fun g args h => if g = f then valuesE args h else none := by
  refine ⟨fun g args h v h' ρ w as hx hm ha => ?_, fun g args h v h' q blk hx hd => ?_, fun g args h v h' hx => ?_⟩
  · split at hx
    case isFalse => cases hx
    rename_i e
    subst e
    obtain ⟨v0, rfl, hs, e⟩ := valuesE_some hx
    injection e with e1 e2
    subst e1; subst e2
    cases ha with
    | cons h1 h2 =>
      cases h2
      have : ∃ (a : Option Addr) (len cap : Nat), ∃ y, h1 = h1 ∧ RV fid ρ v0 y ∧ y = .slice a len cap := by
        rcases hs with rfl | ⟨b, o, n, c, rfl⟩
        · exact ⟨none, 0, 0, _, rfl, .nils, rfl⟩
        · cases h1 with
          | slice q1 q2 q3 q4 q5 => exact ⟨_, _, _, _, rfl, .slice q1 q2 q3 q4 q5, rfl⟩
      rename_i y0
      have hy : ∃ (a : Option Addr) (len cap : Nat), y0 = .slice a len cap := by
        rcases hs with rfl | ⟨b, o, n, c, rfl⟩
        · cases h1; exact ⟨_, _, _, rfl⟩
        · cases h1; exact ⟨_, _, _, rfl⟩
      have hcell : v0.cell = true := by
        rcases hs with rfl | ⟨b, o, n, c, rfl⟩ <;> rfl
      obtain ⟨a, len, cap, rfl⟩ := hy
      refine ⟨hf, (hc a len cap w).mono ?_⟩
      rintro e w' ⟨rfl, rfl⟩
      refine ⟨_, rfl, hs_new (arr := #[.slice a len cap]) (mk := fun b => .fn 427 [.ptr b 0]) hm ⟨⟨w.drawn, T, rfl⟩, rfl, by simp [allCell, hcell], by simp, fun i v hi => ?_, fun b ρ' hE hb => ?_⟩⟩
      · cases i with
        | zero => simp at hi; subst hi; exact ⟨_, by simp, h1⟩
        | succ i => simp at hi
      · exact .fn (.cons (by have := RV.ptr (fid := fid) (off := 0) hb; simpa using this) .nil)
  · split at hx
    case isFalse => cases hx
    rename_i e
    subst e
    obtain ⟨v0, rfl, hs, e⟩ := valuesE_some hx
    injection e with e1 e2
    subst e1; subst e2
    refine ⟨isDead_app hd, ?_⟩
    rw [if_pos rfl, valuesE_eq _ hs, set_app _ _ hd]
    simp
  · split at hx
    case isFalse => cases hx
    obtain ⟨v0, rfl, hs, e⟩ := valuesE_some hx
    injection e with e1 e2
    subst e2
    simp

def intV : V → Option Int
  | .int .i64 n => some n
  | _ => none
def intsV : List V → Option (List Int)
  | [] => some []
  | x :: xs => (intV x).bind fun n => (intsV xs).bind fun ns => some (n :: ns)
theorem intsV_some : ∀ {xs : List V} {zs : List Int}, intsV xs = some zs → xs = zs.map (V.int .i64)
  | [], zs, h => by simp [intsV] at h; subst h; rfl
  | x :: xs, zs, h => by
    simp only [intsV, Option.bind_eq_some_iff] at h
    obtain ⟨n, hn, ns, hns, h⟩ := h
    injection h with h
    subst h
    have : x = .int .i64 n := by
      unfold intV at hn; split at hn
      · injection hn with hn; subst hn; rfl
      · cases hn
    simp [this, intsV_some hns]
theorem intsV_eq : ∀ zs : List Int, intsV (zs.map (V.int .i64)) = some zs
  | [] => rfl
  | z :: zs => by simp [intsV, intV, intsV_eq zs]
def srtI (zs : List Int) : List Int := zs.mergeSort fun x y => decide (x ≤ y)
/-- the slice that a sort hands on -/
def sortedR (zs : List Int) (h : Heap) : V × Heap := if zs = [] then (.nils, h) else (.slice h.length 0 zs.length (.o 1), h ++ [⟨.own, (srtI zs).map (V.int .i64)⟩])
/-- slices.Sorted of slices.Values -/
def sortedE : List V → Heap → Option (V × Heap)
  | [.fn 427 [.ptr b o]], h => (rdH h b o 1).bind fun cs => match cs with
    | [x] => (lenV x).bind fun n => if n ≤ 1099511627776 then (rdS h 1 x n).bind fun vs => (intsV vs).bind fun zs => some (sortedR zs h) else none
    | _ => none
  | _, _ => none
theorem sortedE_some {args : List V} {h : Heap} {r : V × Heap} (hr : sortedE args h = some r) : ∃ b o x n zs, args = [.fn 427 [.ptr b o]] ∧ rdH h b o 1 = some [x] ∧ lenV x = some n ∧ n ≤ 1099511627776 ∧ rdS h 1 x n = some (zs.map (V.int .i64)) ∧ r = sortedR zs h := by
  unfold sortedE at hr
  split at hr
  case h_2 => cases hr
  simp only [Option.bind_eq_some_iff] at hr
  obtain ⟨cs, hcs, hr⟩ := hr
  split at hr
  case h_2 => cases hr
  simp only [Option.bind_eq_some_iff] at hr
  obtain ⟨n, hn, hr⟩ := hr
  split at hr
  case isFalse => cases hr
  simp only [Option.bind_eq_some_iff] at hr
  obtain ⟨vs, hvs, zs, hzs, hr⟩ := hr
  injection hr with hr
  exact ⟨_, _, _, n, zs, rfl, hcs, hn, by assumption, by rw [hvs, intsV_some hzs], hr.symm⟩
theorem sortedE_eq {b o n : Nat} {x : V} {h : Heap} {zs : List Int} (h1 : rdH h b o 1 = some [x]) (h2 : lenV x = some n) (h3 : n ≤ 1099511627776) (h4 : rdS h 1 x n = some (zs.map (V.int .i64))) : sortedE [.fn 427 [.ptr b o]] h = some (sortedR zs h) := by
  simp [sortedE, h1, h2, h3, h4, intsV_eq]

/-- a new block that lies anywhere beyond what stood -/
theorem RM.push' {fid : Nat → FuncId} {ρ : Rho} {h : Heap} {w W : World} (hm : RM fid ρ h w) (hB : Go.RowKit.Below w.heap.size w W) {g : Nat} (hg : w.heap.size ≤ g) {cells : List V} {arr : Array Value} {T : TypeId} (hW : W.heap[g]? = some (.cells arr T (0, 0))) (hq : allCell cells = true) (hs : cells.length ≤ arr.size)
    (hc : ∀ (i : Nat) (v : V), cells[i]? = some v → ∃ x, arr[i]? = some x ∧ RV fid (pushR ρ h.length ⟨g, 0, arr.size⟩) v x) :
    RM fid (pushR ρ h.length ⟨g, 0, arr.size⟩) (h ++ [⟨.own, cells⟩]) W where
  out := fun b hb => by
    simp at hb
    unfold pushR; rw [if_neg (by omega)]; exact hm.out b (by omega)
  has := fun b blk hb hl => by
    rcases get_append hb with ⟨hb, hlt⟩ | ⟨rfl, rfl⟩
    · obtain ⟨a, ha⟩ := hm.has b blk hb hl
      exact ⟨a, by unfold pushR; rw [if_neg (by omega)]; exact ha⟩
    · exact ⟨_, pushR_self _ _ _⟩
  bd := fun b blk a hb ha hl => by
    rcases get_append hb with ⟨hb, hlt⟩ | ⟨rfl, rfl⟩ <;> rcases at_push ha with ⟨h1, ha⟩ | ⟨h1, rfl⟩ <;> first | omega | skip
    · exact Nat.lt_of_lt_of_le (hm.bd b blk a hb ha hl) hB.size
    · exact (Array.getElem?_eq_some_iff.1 hW).1
  cell := fun b blk a i v hb ha hl hv => by
    have e := Ext.push (hm.out h.length (Nat.le_refl _)) (⟨g, 0, arr.size⟩ : At)
    rcases get_append hb with ⟨hb, hlt⟩ | ⟨rfl, rfl⟩
    · rcases at_push ha with ⟨_, ha⟩ | ⟨h1, rfl⟩
      · obtain ⟨x, hx, hr⟩ := hm.cell b blk a i v hb ha hl hv
        exact ⟨x, by rw [cell?_block (hB.block _ (hm.bd b blk a hb ha hl))]; exact hx, hr.ext e⟩
      · omega
    · rcases at_push ha with ⟨h1, _⟩ | ⟨_, rfl⟩
      · exact absurd rfl h1
      · obtain ⟨x, hx, hr⟩ := hc i v hv
        exact ⟨x, by rw [cell?_arr hW]; simpa using hx, hr⟩
  cel := fun b blk hb hl => by
    rcases get_append hb with ⟨hb, hlt⟩ | ⟨rfl, rfl⟩
    · exact hm.cel b blk hb hl
    · exact hq
  own := fun b blk a hb ha hl => by
    rcases get_append hb with ⟨hb, hlt⟩ | ⟨rfl, rfl⟩
    · rcases at_push ha with ⟨_, ha⟩ | ⟨h1, rfl⟩
      · obtain ⟨h2, arr', T', h3, h4⟩ := hm.own b blk a hb ha hl
        exact ⟨h2, arr', T', by rw [hB.block _ (hm.bd b blk a hb ha (by rw [hl]; decide))]; exact h3, h4⟩
      · omega
    · rcases at_push ha with ⟨h1, _⟩ | ⟨_, rfl⟩
      · exact absurd rfl h1
      · exact ⟨hs, arr, T, hW, by simp⟩
  sep := fun b b' blk blk' a a' hne hb hb' ha ha' ho hl => by
    rcases get_append hb with ⟨hb, hlt⟩ | ⟨rfl, rfl⟩ <;> rcases get_append hb' with ⟨hb', hlt'⟩ | ⟨rfl, rfl⟩ <;>
      rcases at_push ha with ⟨h1, ha⟩ | ⟨e1, e1'⟩ <;> rcases at_push ha' with ⟨h2, ha'⟩ | ⟨e2, e2'⟩ <;> first | omega | skip
    · exact hm.sep b b' blk blk' a a' hne hb hb' ha ha' ho hl
    · subst e2'; exact Nat.ne_of_lt (Nat.lt_of_lt_of_le (hm.bd b blk a hb ha (by rw [ho]; decide)) hg)
    · subst e1'; exact Nat.ne_of_gt (Nat.lt_of_lt_of_le (hm.bd b' blk' a' hb' ha' hl) hg)
theorem RM.below {fid : Nat → FuncId} {ρ : Rho} {h : Heap} {w W : World} (hm : RM fid ρ h w) (hB : Go.RowKit.Below w.heap.size w W) : RM fid ρ h W where
  out := hm.out
  has := hm.has
  bd := fun b blk a hb ha hl => Nat.lt_of_lt_of_le (hm.bd b blk a hb ha hl) hB.size
  cell := fun b blk a i v hb ha hl hv => by
    obtain ⟨x, hx, hr⟩ := hm.cell b blk a i v hb ha hl hv
    exact ⟨x, by rw [cell?_block (hB.block _ (hm.bd b blk a hb ha hl))]; exact hx, hr⟩
  cel := hm.cel
  own := fun b blk a hb ha hl => by
    obtain ⟨h2, arr', T', h3, h4⟩ := hm.own b blk a hb ha hl
    exact ⟨h2, arr', T', by rw [hB.block _ (hm.bd b blk a hb ha (by rw [hl]; decide))]; exact h3, h4⟩
  sep := hm.sep
theorem Fr.below {o : Nat → Prop} {w W : World} (hB : Go.RowKit.Below w.heap.size w W) : Fr o w W := ⟨hB.os, hB.tape, hB.output, hB.size, fun cb hc _ => hB.block cb hc⟩
theorem HS.below {fid : Nat → FuncId} {ρ : Rho} {h : Heap} {w W : World} (hm : RM fid ρ h w) (hB : Go.RowKit.Below w.heap.size w W) {v : V} {y : Value} (hv : RV fid ρ v y) : HS fid ρ h w v h y W := ⟨ρ, hm.below hB, Keep.refl _ _, Fr.below hB, OI.refl _ _ _, hv⟩
theorem HS.push' {fid : Nat → FuncId} {ρ : Rho} {h : Heap} {w W : World} (hm : RM fid ρ h w) (hB : Go.RowKit.Below w.heap.size w W) {g : Nat} (hg : w.heap.size ≤ g) {cells : List V} {arr : Array Value} {T : TypeId} (hW : W.heap[g]? = some (.cells arr T (0, 0))) (hq : allCell cells = true) (hs : cells.length ≤ arr.size)
    (hc : ∀ (i : Nat) (v : V), cells[i]? = some v → ∃ x, arr[i]? = some x ∧ RV fid ρ v x) {v : V} {y : Value} (hv : ∀ ρ', Ext ρ ρ' → ρ' h.length = some ⟨g, 0, arr.size⟩ → RV fid ρ' v y) : HS fid ρ h w v (h ++ [⟨.own, cells⟩]) y W := by
  have e := Ext.push (hm.out h.length (Nat.le_refl _)) (⟨g, 0, arr.size⟩ : At)
  refine ⟨pushR ρ h.length ⟨g, 0, arr.size⟩, RM.push' hm hB hg hW hq hs fun i v hi => ?_, Keep.push _ _ _, Fr.below hB, OI.push _ _ hg, hv _ e (pushR_self _ _ _)⟩
  obtain ⟨x, hx, hr⟩ := hc i v hi
  exact ⟨x, hx, hr.ext e⟩
theorem srtI_length (zs : List Int) : (srtI zs).length = zs.length := by simp [srtI]
theorem sX {fid : Nat → FuncId} {ρ : Rho} {w : World} {h : Heap} {b o : Nat} {x : V} {at' : At} (hm : RM fid ρ h w) (hr : rdH h b o 1 = some [x]) (hb : ρ b = some at') : ∃ y, w.cell? ⟨at'.cb, at'.co + o, none⟩ = some y ∧ RV fid ρ x y := by
  obtain ⟨vs, h1, h2, h3⟩ := rdH_sound hm hr hb
  cases h2 with
  | cons h4 h5 =>
    cases h5
    exact ⟨_, by simpa using h3 0 _ rfl, h4⟩
theorem bdX {fid : Nat → FuncId} {ρ : Rho} {w : World} {h : Heap} {b o n : Nat} {xs : List V} {at' : At} (hm : RM fid ρ h w) (hr : rdH h b o n = some xs) (hb : ρ b = some at') : at'.cb < w.heap.size := by
  unfold rdH at hr
  split at hr
  case h_2 => cases hr
  rename_i blk hblk
  split at hr
  case isTrue => cases hr
  rename_i hl
  exact hm.bd _ _ _ hblk hb hl
theorem sI {fid : Nat → FuncId} {ρ : Rho} {w : World} {h : Heap} {x : V} {y : Value} {zs : List Int} (hm : RM fid ρ h w) (hx : RV fid ρ x y) (hn : lenV x = some zs.length) (hz : rdS h 1 x zs.length = some (zs.map (V.int .i64))) :
    (∃ A cap, y = .slice A 0 cap ∧ zs = []) ∨ ∃ b off cap, y = .slice (some ⟨b, off, none⟩) zs.length cap ∧ b < w.heap.size ∧ ∀ j, j < zs.length → w.cell? ⟨b, off + j, none⟩ = some (.int .i64 (zs[j]?.getD 0)) := by
  by_cases h0 : zs = []
  · subst h0
    left
    cases hx with
    | nils => exact ⟨none, 0, rfl, rfl⟩
    | slice g1 g2 g3 g4 g5 =>
      simp only [lenV] at hn
      injection hn with hn
      simp at hn
      subst hn
      exact ⟨_, _, rfl, rfl⟩
    | _ => simp [lenV] at hn
  · right
    have hpos : zs.length ≠ 0 := fun e => h0 (List.eq_nil_of_length_eq_zero e)
    cases hx with
    | nils => simp [lenV] at hn; exact absurd hn.symm (by simpa using h0)
    | slice g1 g2 g3 g4 g5 =>
      simp only [lenV] at hn
      injection hn with hn
      subst hn
      rw [rdS] at hz
      rw [if_pos (Nat.le_refl _), if_neg (by omega)] at hz
      have hA := g5 (by omega)
      subst hA
      obtain ⟨vs, q1, q2, q3⟩ := rdH_sound hm hz g1
      refine ⟨_, _, _, rfl, bdX hm hz g1, fun j hj => ?_⟩
      obtain ⟨v, hv, hr⟩ := q2.get (i := j) (x := .int .i64 (zs[j]?.getD 0)) (by simp [hj])
      cases hr
      exact q3 j _ hv
    | _ => simp [lenV] at hn
theorem sortedE_ok {P : Program} {fid : Nat → FuncId} {f : Nat} {T : TypeId} (hf : ∃ F, P.funcs[fid f]? = some F ∧ (F.name == "runtime.NumGoroutine") = false ∧ F.body.isNone = false)
    (hc : ∀ (Bs Bo : Nat) (sv : Value) (zs : List Int) (w : World), zs.length ≤ 1099511627776 → Bs < w.heap.size → w.cell? ⟨Bs, Bo, none⟩ = some sv →
      ((∃ A cap, sv = .slice A 0 cap ∧ zs = []) ∨ ∃ b off cap, sv = .slice (some ⟨b, off, none⟩) zs.length cap ∧ b < w.heap.size ∧ ∀ j, j < zs.length → w.cell? ⟨b, off + j, none⟩ = some (.int .i64 (zs[j]?.getD 0))) →
      Calls P (fid f) #[.func (.func (fid 427)) #[] #[.pointer (some ⟨Bs, Bo, none⟩)]] w fun e W' => ∃ v, e = .returned v ∧ W'.ownsRow w.heap.size T 1 v zs.length ((zs.mergeSort fun x y => decide (x ≤ y)).map (Value.int .i64)) ∧ (v = .slice none 0 0 ↔ zs = []) ∧ Go.RowKit.Below w.heap.size w W') :
    CallOK P fid fun g args h => if g = f then sortedE args h else none := by
  refine ⟨fun g args h v h' ρ w as hx hm ha => ?_, fun g args h v h' q blk hx hd => ?_, fun g args h v h' hx => ?_⟩
  · split at hx
    case isFalse => cases hx
    rename_i e
    subst e
    obtain ⟨b, o, x, n, zs, rfl, hb, hn, hle, hz, e⟩ := sortedE_some hx
    cases ha with
    | cons h1 h2 =>
    cases h2
    cases h1 with
    | fn h1 =>
    cases h1 with
    | cons h1 h2 =>
    cases h2
    cases h1 with
    | ptr hρ =>
    rename_i at'
    obtain ⟨y, hy, hry⟩ := sX hm hb hρ
    have hlen : n = zs.length := by
      have := rdS_len hz
      simpa using this.symm
    subst hlen
    refine ⟨hf, (hc at'.cb (at'.co + o) y zs w hle (bdX hm hb hρ) hy (sI hm hry hn hz)).mono ?_⟩
    rintro e' W' ⟨v', rfl, hrow, hnil, hB⟩
    refine ⟨_, rfl, ?_⟩
    unfold sortedR at e
    rcases hrow.2 with ⟨rfl, h0⟩ | ⟨g0, cap, cur, rfl, hbase, hgb, r1, r2, r3, r4⟩
    · have : zs = [] := hnil.1 rfl
      rw [if_pos this] at e
      injection e with e1 e2
      subst e1; subst e2
      exact HS.below hm hB .nils
    · have hne : ¬ zs = [] := fun h0 => by have := hnil.2 h0; injection this with a; cases a
      rw [if_neg hne] at e
      injection e with e1 e2
      subst e1; subst e2
      refine HS.push' hm hB hbase hgb (by simp [allCell, V.cell]) (by simp [srtI_length]; omega) (fun i v hi => ?_) (fun ρ' hE hb => ?_)
      · rw [List.getElem?_map] at hi
        rw [Option.map_eq_some_iff] at hi
        obtain ⟨z, hz1, rfl⟩ := hi
        have hil : i < zs.length := by
          have := (List.getElem?_eq_some_iff.1 hz1).1
          simpa [srtI_length] using this
        have : (cur.toList.take (zs.length * 1))[i]? = some (.int .i64 z) := by
          rw [r4, List.getElem?_map]
          unfold srtI at hz1
          rw [hz1]; rfl
        rw [List.getElem?_take, if_pos (by omega)] at this
        exact ⟨_, by simpa using this, .int _ _⟩
      · exact .slice (a := ⟨g0, 0, cur.size⟩) hb r1 (fun c0 h => by cases h) (fun k' h => by cases h; exact ⟨by omega, by simp; omega⟩) (fun _ => by simp)
  · split at hx
    case isFalse => cases hx
    rename_i e
    subst e
    obtain ⟨b, o, x, n, zs, rfl, hb, hn, hle, hz, e⟩ := sortedE_some hx
    rw [if_pos rfl, sortedE_eq (rdH_fill hd hb) hn hle (rdS_fill hd hz)]
    unfold sortedR at e ⊢
    by_cases h0 : zs = []
    · rw [if_pos h0] at e ⊢
      injection e with e1 e2
      subst e1; subst e2
      exact ⟨hd, rfl⟩
    · rw [if_neg h0] at e ⊢
      injection e with e1 e2
      subst e1; subst e2
      exact ⟨isDead_app hd, by rw [set_app _ _ hd]; simp⟩
  · split at hx
    case isFalse => cases hx
    obtain ⟨b, o, x, n, zs, rfl, hb, hn, hle, hz, e⟩ := sortedE_some hx
    unfold sortedR at e
    split at e <;> (injection e with e1 e2; subst e2; simp)

theorem bif_some {α : Type} {i n : Nat} {a b : Option α} {e : α} (h : (bif Nat.beq i n then a else b) = some e) : (i = n ∧ a = some e) ∨ (i ≠ n ∧ b = some e) := by
  cases hb : Nat.beq i n
  · rw [hb] at h; exact .inr ⟨fun e => by subst e; simp at hb, h⟩
  · rw [hb] at h; exact .inl ⟨Nat.eq_of_beq_eq_true hb, h⟩
end GL
/-! GL: the last Write of an item (a range over a function), by a contract. -/
namespace GL
open Go

abbrev Act3 := Int × Int × Bool
def actV (a : Act3) : List V := [.int .i64 a.1, .int .i64 a.2.1, .bool a.2.2]
def actsV : List V → Option (List Act3)
  | [] => some []
  | .int .i64 a :: .int .i64 b :: .bool c :: r => (actsV r).map ((a, b, c) :: ·)
  | _ => none
theorem actsV_some : ∀ {vs : List V} {zs : List Act3}, actsV vs = some zs → vs = zs.flatMap actV
  | [], zs, h => by simp [actsV] at h; subst h; rfl
  | .int .i64 a :: .int .i64 b :: .bool c :: r, zs, h => by
    simp only [actsV, Option.map_eq_some_iff] at h
    obtain ⟨ws, hw, rfl⟩ := h
    rw [actsV_some hw]; rfl
theorem actsV_eq : ∀ (zs : List Act3), actsV (zs.flatMap actV) = some zs
  | [] => rfl
  | (a, b, c) :: zs => by
    have := actsV_eq zs
    simp only [List.flatMap_cons, actV, List.cons_append, List.nil_append, actsV] at this ⊢
    rw [this]; rfl
def isWr (a : Act3) (x : Int) : Bool := a.2.2 && decide (a.2.1 = x)
def lastN (zs : List Act3) (x : Int) : Nat → Int
  | 0 => -1
  | n + 1 => if isWr (zs.getD n (0, 0, false)) x = true then n else lastN zs x n
def lastT (zs : List Act3) (x : Int) : Int := lastN zs x zs.length
def lastE : List V → Heap → Option (V × Heap)
  | [v, .int .i64 x], h => (lenV v).bind fun n => if n ≤ 1099511627776 then (rdS h 3 v n).bind fun vs => (actsV vs).bind fun zs => some (.int .i64 (lastT zs x), h) else none
  | _, _ => none
theorem lastE_some {args : List V} {h : Heap} {r : V × Heap} (hr : lastE args h = some r) : ∃ v x n zs, args = [v, .int .i64 x] ∧ lenV v = some n ∧ n ≤ 1099511627776 ∧ rdS h 3 v n = some (zs.flatMap actV) ∧ r = (.int .i64 (lastT zs x), h) := by
  unfold lastE at hr
  split at hr
  case h_2 => cases hr
  simp only [Option.bind_eq_some_iff] at hr
  obtain ⟨n, hn, hr⟩ := hr
  split at hr
  case isFalse => cases hr
  simp only [Option.bind_eq_some_iff] at hr
  obtain ⟨vs, hvs, zs, hzs, hr⟩ := hr
  injection hr with hr
  exact ⟨_, _, n, zs, rfl, hn, by assumption, by rw [hvs, actsV_some hzs], hr.symm⟩
theorem lastE_eq {v : V} {x : Int} {n : Nat} {h : Heap} {zs : List Act3} (h2 : lenV v = some n) (h3 : n ≤ 1099511627776) (h4 : rdS h 3 v n = some (zs.flatMap actV)) : lastE [v, .int .i64 x] h = some (.int .i64 (lastT zs x), h) := by
  simp [lastE, h2, h3, h4, actsV_eq]
theorem actsV_length (zs : List Act3) : (zs.flatMap actV).length = zs.length * 3 := by
  induction zs with
  | nil => rfl
  | cons a zs ih => simp only [List.flatMap_cons, List.length_append, ih, List.length_cons, actV]; simp; omega
theorem actsV_get {zs : List Act3} {j : Nat} (hj : j < zs.length) (i : Nat) (hi : i < 3) : (zs.flatMap actV)[j * 3 + i]? = (actV zs[j])[i]? := by
  induction zs generalizing j with
  | nil => simp at hj
  | cons a zs ih =>
    rw [List.flatMap_cons]
    cases j with
    | zero => rw [List.getElem?_append_left (by simp [actV]; omega)]; simp
    | succ j =>
      have hj' : j < zs.length := by simpa using hj
      rw [List.getElem?_append_right (by simp [actV]; omega)]
      have : (j + 1) * 3 + i - (actV a).length = j * 3 + i := by simp [actV]; omega
      rw [this, ih hj']; simp
/-- the cells of acts in the world -/
def actAt (zs : List Act3) (j : Nat) : Act3 := zs[j]?.getD (0, 0, false)
def ActCells (w : World) (b off : Nat) (zs : List Act3) : Prop := ∀ j, j < zs.length → w.cell? ⟨b, off + j * 3, none⟩ = some (.int .i64 (actAt zs j).1) ∧ w.cell? ⟨b, off + j * 3 + 1, none⟩ = some (.int .i64 (actAt zs j).2.1) ∧ w.cell? ⟨b, off + j * 3 + 2, none⟩ = some (.bool (actAt zs j).2.2)
def LastIs (zs : List Act3) (x r : Int) : Prop := (r = -1 ∧ ∀ q, q < zs.length → isWr (actAt zs q) x = false) ∨ ∃ k : Nat, k < zs.length ∧ r = k ∧ isWr (actAt zs k) x = true ∧ ∀ q, k < q → q < zs.length → isWr (actAt zs q) x = false
theorem actAt_getD (zs : List Act3) (j : Nat) : zs.getD j (0, 0, false) = actAt zs j := by simp [actAt]
theorem lastN_skip {zs : List Act3} {x : Int} {m : Nat} : ∀ {n : Nat}, m ≤ n → (∀ q, m ≤ q → q < n → isWr (actAt zs q) x = false) → lastN zs x n = lastN zs x m
  | 0, h, _ => by rw [Nat.le_zero.1 h]
  | n + 1, h, hw => by
    by_cases e : m = n + 1
    · rw [e]
    · have h0 := hw n (by omega) (by omega)
      rw [lastN, actAt_getD, h0]
      simp only [Bool.false_eq_true, if_false]
      exact lastN_skip (by omega) fun q h1 h2 => hw q h1 (by omega)
theorem LastIs.eq {zs : List Act3} {x r : Int} (h : LastIs zs x r) : r = lastT zs x := by
  rcases h with ⟨rfl, h⟩ | ⟨k, hk, rfl, h1, h2⟩
  · rw [lastT, lastN_skip (m := 0) (Nat.zero_le _) fun q _ hq => h q hq]; rfl
  · rw [lastT, lastN_skip (m := k + 1) hk fun q hq hl => h2 q (by omega) hl, lastN, actAt_getD, h1]; rfl
theorem sActs {fid : Nat → FuncId} {ρ : Rho} {w : World} {h : Heap} {x : V} {y : Value} {zs : List Act3} (hm : RM fid ρ h w) (hx : RV fid ρ x y) (hn : lenV x = some zs.length) (hz : rdS h 3 x zs.length = some (zs.flatMap actV)) :
    (∃ A cap, y = .slice A 0 cap ∧ zs = []) ∨ ∃ b off cap, y = .slice (some ⟨b, off, none⟩) zs.length cap ∧ b < w.heap.size ∧ ActCells w b off zs := by
  by_cases h0 : zs = []
  · subst h0
    left
    cases hx with
    | nils => exact ⟨none, 0, rfl, rfl⟩
    | slice g1 g2 g3 g4 g5 =>
      simp only [lenV] at hn
      injection hn with hn
      simp at hn
      subst hn
      exact ⟨_, _, rfl, rfl⟩
    | _ => simp [lenV] at hn
  · right
    have hpos : zs.length ≠ 0 := fun e => h0 (List.eq_nil_of_length_eq_zero e)
    cases hx with
    | nils => simp [lenV] at hn; exact absurd hn.symm (by simpa using h0)
    | slice g1 g2 g3 g4 g5 =>
      simp only [lenV] at hn
      injection hn with hn
      subst hn
      rw [rdS] at hz
      rw [if_pos (Nat.le_refl _), if_neg (by omega)] at hz
      have hA := g5 (by omega)
      subst hA
      obtain ⟨vs, q1, q2, q3⟩ := rdH_sound hm hz g1
      refine ⟨_, _, _, rfl, bdX hm hz g1, fun j hj => ?_⟩
      have get : ∀ (i : Nat) (v : V), i < 3 → (actV zs[j])[i]? = some v → ∃ z, w.cell? ⟨_, _ + (j * 3 + i), none⟩ = some z ∧ RV fid ρ v z := fun i v hi hv => by
        obtain ⟨z, hz1, hz2⟩ := q2.get (i := j * 3 + i) (x := v) (by rw [actsV_get hj i hi]; exact hv)
        exact ⟨z, q3 _ _ hz1, hz2⟩
      obtain ⟨z0, c0, r0⟩ := get 0 _ (by decide) rfl
      obtain ⟨z1, c1, r1⟩ := get 1 _ (by decide) rfl
      obtain ⟨z2, c2, r2⟩ := get 2 _ (by decide) rfl
      cases r0; cases r1; cases r2
      simp only [Nat.add_zero, ← Nat.add_assoc] at c0 c1 c2
      have ea : actAt zs j = zs[j] := by simp [actAt, hj]
      rw [ea]; exact ⟨c0, c1, c2⟩
    | _ => simp [lenV] at hn
theorem lastE_ok {P : Program} {fid : Nat → FuncId} {f : Nat} (hf : ∃ F, P.funcs[fid f]? = some F ∧ (F.name == "runtime.NumGoroutine") = false ∧ F.body.isNone = false)
    (hc : ∀ (sv : Value) (zs : List Act3) (x : Int) (w : World), zs.length ≤ 1099511627776 →
      ((∃ A cap, sv = .slice A 0 cap ∧ zs = []) ∨ ∃ b off cap, sv = .slice (some ⟨b, off, none⟩) zs.length cap ∧ b < w.heap.size ∧ ActCells w b off zs) →
      Calls P (fid f) #[sv, .int .i64 x] w fun e W' => (∃ r, e = .returned (.int .i64 r) ∧ LastIs zs x r) ∧ Go.RowKit.Below w.heap.size w W') :
    CallOK P fid fun g args h => if g = f then lastE args h else none := by
  refine ⟨fun g args h v h' ρ w as hx hm ha => ?_, fun g args h v h' q blk hx hd => ?_, fun g args h v h' hx => ?_⟩
  · split at hx
    case isFalse => cases hx
    rename_i e
    subst e
    obtain ⟨u, x, n, zs, rfl, hn, hle, hz, e⟩ := lastE_some hx
    cases ha with
    | cons h1 h2 =>
    cases h2 with
    | cons h3 h4 =>
    cases h4
    cases h3
    have hlen : n = zs.length := by
      have := rdS_len hz
      rw [actsV_length] at this
      omega
    subst hlen
    refine ⟨hf, (hc _ zs x w hle (sActs hm h1 hn hz)).mono ?_⟩
    rintro e' W' ⟨⟨r, rfl, hr⟩, hB⟩
    refine ⟨_, rfl, ?_⟩
    rw [hr.eq]
    injection e with e1 e2
    subst e1; subst e2
    exact HS.below hm hB (.int _ _)
  · split at hx
    case isFalse => cases hx
    rename_i e
    subst e
    obtain ⟨u, x, n, zs, rfl, hn, hle, hz, e⟩ := lastE_some hx
    injection e with e1 e2
    subst e1; subst e2
    rw [if_pos rfl, lastE_eq hn hle (rdS_fill hd hz)]
    exact ⟨hd, rfl⟩
  · split at hx
    case isFalse => cases hx
    obtain ⟨u, x, n, zs, rfl, hn, hle, hz, e⟩ := lastE_some hx
    injection e with e1 e2
    subst e2; exact Nat.le_refl _
end GL
