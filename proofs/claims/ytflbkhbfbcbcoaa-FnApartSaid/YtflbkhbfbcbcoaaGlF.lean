import Derived.Laws.StructEq
import Derived.Test.YtflbkhbfbcbcoaaGlE
/- GL, a small deterministic machine: its definitions, and that its calls are calls of the program. -/
set_option linter.unusedSimpArgs false
set_option linter.unusedVariables false
set_option linter.unnecessarySimpa false
namespace GL
open Go
variable {P : Program}

mutual
/-- the cells of a type whose '==' compares bools and numbers alone -/
def eqSh (P : Program) : Nat → TypeId → Option (List (Option IntKind))
  | 0, _ => none
  | d + 1, t => match P.underlying t with
    | some .bool => some [none]
    | some (.int k) => some [some k]
    | some (.struct fs) => if P.stoodInHeld t then none else eqFs P d 0 fs.toList
    | _ => none
def eqFs (P : Program) : Nat → Nat → List Field → Option (List (Option IntKind))
  | _, _, [] => some []
  | 0, _, _ :: _ => none
  | d + 1, off, f :: fs => if f.name == "_" || f.offset != off then none else
    match eqSh P d f.type, sizeP P f.type, aggP P f.type with
    | some sh, some n, some agg => if sh.length = n ∧ 0 < n ∧ (agg = true ∨ n = 1) then (eqFs P d (off + n) fs).map (sh ++ ·) else none
    | _, _, _ => none
end

def eqTyMt (P : Program) (t : TypeId) (sh : List (Option IntKind)) : Bool :=
  !(P.eqGuardType P.depth t) && aggP P t == some true && eqSh P 40 t == some sh

theorem eqCells_append : ∀ {s1 s2 : List (Option IntKind)} {xs ys : List V} {r : Bool}, eqCells (s1 ++ s2) xs ys = some r →
    ∃ r1 r2, eqCells s1 (xs.take s1.length) (ys.take s1.length) = some r1 ∧ eqCells s2 (xs.drop s1.length) (ys.drop s1.length) = some r2 ∧ r = (r1 && r2)
  | [], s2, xs, ys, r, h => ⟨true, r, by simp [eqCells], by simpa using h, by simp⟩
  | none :: s1, s2, xs, ys, r, h => by
    cases xs with
    | nil => simp [eqCells] at h
    | cons x xs =>
      cases ys with
      | nil => cases x <;> simp [eqCells] at h
      | cons y ys =>
        cases x <;> cases y <;> simp only [List.cons_append, eqCells, reduceCtorEq] at h
        rename_i a b
        simp only [Option.bind_eq_some_iff] at h
        obtain ⟨q, hq, hr⟩ := h
        cases hr
        obtain ⟨r1, r2, h1, h2, rfl⟩ := eqCells_append hq
        exact ⟨a == b && r1, r2, by simp [eqCells, h1], by simpa using h2, by rw [Bool.and_assoc]⟩
  | some k :: s1, s2, xs, ys, r, h => by
    cases xs with
    | nil => simp [eqCells] at h
    | cons x xs =>
      cases ys with
      | nil => cases x <;> simp [eqCells] at h
      | cons y ys =>
        cases x <;> cases y <;> simp only [List.cons_append, eqCells, reduceCtorEq] at h
        rename_i k1 a k2 b
        split at h
        case isFalse => cases h
        rename_i hk
        simp only [Option.bind_eq_some_iff] at h
        obtain ⟨q, hq, hr⟩ := h
        cases hr
        obtain ⟨r1, r2, h1, h2, rfl⟩ := eqCells_append hq
        exact ⟨decide (a = b) && r1, r2, by simp [eqCells, h1, hk], by simpa using h2, by rw [Bool.and_assoc]⟩

theorem run_part {t : TypeId} {agg : Bool} {n off : Nat} {vs : Array Value} {w : World} (ha : aggP P t = some agg) (hn : sizeP P t = some n) (h1 : agg = true ∨ n = 1) (hle : off + n ≤ vs.size) :
    (part t vs off).run P w = .ok (mkW agg ((vs.toList.drop off).take n)) w := by
  unfold part
  simp only [Sem.run_bind, run_isAgg ha, Result.andThen_ok]
  cases agg with
  | true =>
    simp only [if_true, Sem.run_bind, run_sizeOf hn, Result.andThen_ok, Sem.run_pure, mkW]
    congr 2
    apply Array.toList_inj.1
    simp [List.extract_eq_take_drop]
  | false =>
    have hn1 : n = 1 := by simpa using h1
    subst hn1
    have hlt : off < vs.size := by omega
    simp only [Bool.false_eq_true, if_false, Array.getElem?_eq_getElem hlt, Sem.run_pure, mkW]
    congr 1
    rw [List.drop_eq_getElem_cons (by simpa using hlt)]
    simp

theorem eqCells_len : ∀ {sh : List (Option IntKind)} {xs ys : List V} {r : Bool}, eqCells sh xs ys = some r → xs.length = sh.length ∧ ys.length = sh.length
  | [], xs, ys, r, h => by
    cases xs <;> cases ys <;> simp [eqCells] at h
    simp
  | none :: sh, xs, ys, r, h => by
    cases xs with
    | nil => simp [eqCells] at h
    | cons x xs =>
      cases ys with
      | nil => cases x <;> simp [eqCells] at h
      | cons y ys =>
        cases x <;> cases y <;> simp only [eqCells, reduceCtorEq] at h
        simp only [Option.bind_eq_some_iff] at h
        obtain ⟨q, hq, _⟩ := h
        have := eqCells_len hq
        simp; exact this
  | some k :: sh, xs, ys, r, h => by
    cases xs with
    | nil => simp [eqCells] at h
    | cons x xs =>
      cases ys with
      | nil => cases x <;> simp [eqCells] at h
      | cons y ys =>
        cases x <;> cases y <;> simp only [eqCells, reduceCtorEq] at h
        split at h
        case isFalse => cases h
        simp only [Option.bind_eq_some_iff] at h
        obtain ⟨q, hq, _⟩ := h
        have := eqCells_len hq
        simp; exact this

theorem eq_sound (fid : Nat → FuncId) (ρ : Rho) (w : World) : ∀ (d : Nat),
    (∀ (t : TypeId) (sh : List (Option IntKind)) (agg : Bool), eqSh P d t = some sh → aggP P t = some agg → ∀ (e : Nat), d ≤ e → ∀ (xs ys : List V) (vs us : List Value) (r : Bool), eqCells sh xs ys = some r → RVs fid ρ xs vs → RVs fid ρ ys us →
      (Op.equalIn e t (mkW agg vs) (mkW agg us)).run P w = .ok r w) ∧
    (∀ (fs : List Field) (off : Nat) (sh : List (Option IntKind)), eqFs P d off fs = some sh → ∀ (e : Nat), d ≤ e → ∀ (xs ys : List V) (vs us : Array Value) (r : Bool), eqCells sh (xs.drop off) (ys.drop off) = some r → RVs fid ρ xs vs.toList → RVs fid ρ ys us.toList →
      (Op.eqFields e vs us fs).run P w = .ok r w) := by
  intro d
  induction d with
  | zero =>
    refine ⟨fun t sh agg h => by simp [eqSh] at h, fun fs off sh h e _ xs ys vs us r hr hx hy => ?_⟩
    cases fs with
    | nil =>
      simp [eqFs] at h
      subst h
      have := eqCells_len hr
      cases hxs : xs.drop off <;> cases hys : ys.drop off <;> rw [hxs, hys] at hr <;> simp [eqCells] at hr
      subst hr
      simp [Op.eqFields]
    | cons f fs => simp [eqFs] at h
  | succ d ih =>
    refine ⟨fun t sh agg h ha e he xs ys vs us r hr hx hy => ?_, fun fs off sh h e he xs ys vs us r hr hx hy => ?_⟩
    · obtain ⟨e, rfl⟩ : ∃ e', e = e' + 1 := ⟨e - 1, by omega⟩
      simp only [eqSh] at h
      split at h
      · rename_i hu
        cases h
        have hagg : agg = false := by simp [aggP, hu] at ha; exact ha
        subst hagg
        cases hx with
        | nil => simp [eqCells] at hr
        | cons hx1 hx2 =>
          cases hy with
          | nil => cases hx1 <;> simp [eqCells] at hr
          | cons hy1 hy2 =>
            cases hx1 <;> cases hy1 <;> simp only [eqCells, reduceCtorEq] at hr
            rename_i a b
            cases hx2 <;> cases hy2 <;> simp [eqCells] at hr
            subst hr
            simp only [mkW, Bool.false_eq_true, if_false, List.headD_cons]
            rw [run_equalIn_bool' w e t a b hu]
      · rename_i k hu
        cases h
        have hagg : agg = false := by simp [aggP, hu] at ha; exact ha
        subst hagg
        cases hx with
        | nil => simp [eqCells] at hr
        | cons hx1 hx2 =>
          cases hy with
          | nil => cases hx1 <;> simp [eqCells] at hr
          | cons hy1 hy2 =>
            cases hx1 <;> cases hy1 <;> simp only [eqCells, reduceCtorEq] at hr
            rename_i k1 a k2 b
            split at hr
            case isFalse => cases hr
            rename_i hk
            obtain ⟨rfl, rfl⟩ := hk
            cases hx2 <;> cases hy2 <;> simp [eqCells] at hr
            subst hr
            simp only [mkW, Bool.false_eq_true, if_false, List.headD_cons]
            rw [run_equalIn_int w e t _ _ a b hu]
            rfl
      · rename_i fs hu
        split at h
        case isTrue => cases h
        rename_i hst
        have hagg : agg = true := by simp [aggP, hu] at ha; exact ha
        subst hagg
        have hf : P.fieldsOf t = fs := by simp [Program.fieldsOf, hu]
        simp only [mkW, if_true]
        rw [run_equalIn_struct w e t _ _ (by rw [hf]; exact hu) (by simpa using hst), hf]
        exact ih.2 fs.toList 0 sh h e (by omega) xs ys _ _ r (by simpa using hr) (by simpa using hx) (by simpa using hy)
      · cases h
    · cases fs with
      | nil =>
        simp [eqFs] at h
        subst h
        cases hxs : xs.drop off <;> cases hys : ys.drop off <;> rw [hxs, hys] at hr <;> simp [eqCells] at hr
        subst hr
        simp [Op.eqFields]
      | cons f fs =>
        simp only [eqFs] at h
        split at h
        case isTrue => cases h
        rename_i hfo
        simp only [Bool.or_eq_true, beq_iff_eq, bne_iff_ne, ne_eq, not_or, Decidable.not_not] at hfo
        obtain ⟨hname, hoff⟩ := hfo
        split at h
        case h_2 => cases h
        rename_i sh1 n agg h1 h2 h3
        split at h
        case isFalse => cases h
        rename_i hc
        obtain ⟨hlen, hpos, hag⟩ := hc
        simp only [Option.map_eq_some_iff] at h
        obtain ⟨sh2, h4, rfl⟩ := h
        obtain ⟨r1, r2, q1, q2, rfl⟩ := eqCells_append hr
        rw [hlen] at q1 q2
        have hl1 := (eqCells_len q1)
        have hbx : off + n ≤ vs.size := by
          have := hx.length
          have h5 := hl1.1
          simp at h5 this; omega
        have hby : off + n ≤ us.size := by
          have := hy.length
          have h5 := hl1.2
          simp at h5 this; omega
        have p1 := run_part (w := w) h3 h2 hag hbx
        have p2 := run_part (w := w) h3 h2 hag hby
        have e1 := ih.1 f.type sh1 agg h1 h3 e (by omega) _ _ _ _ r1 q1 ((hx.drop off).take n) ((hy.drop off).take n)
        have e2 := ih.2 fs (off + n) sh2 h4 e (by omega) xs ys vs us r2 (by rw [← List.drop_drop, ← List.drop_drop]; exact q2) hx hy
        simp only [Op.eqFields, hname, ne_eq, not_false_eq_true, if_true, Sem.run_bind, hoff, p1, p2, Result.andThen_ok, e1]
        cases r1
        · simp
        · simpa using e2

theorem eqTy_sound {t : TypeId} {sh : List (Option IntKind)} (h : eqTyMt P t sh = true) : EqOK P t sh := by
  simp only [eqTyMt, Bool.and_eq_true, Bool.not_eq_true', beq_iff_eq] at h
  obtain ⟨⟨h1, h2⟩, h3⟩ := h
  refine ⟨h1, fun xs ys vs us r w fid ρ hr hx hy => ?_⟩
  have := (eq_sound fid ρ w 40).1 t sh true h3 h2 Op.maxDepth (by decide) xs ys _ _ r hr hx hy
  simpa [mkW, Op.equal] using this

theorem eqs_sound {eqs : List (TypeId × List (Option IntKind))} (h : (eqs.all fun x => eqTyMt P x.1 x.2) = true) (t : TypeId) (sh : List (Option IntKind)) (hm : (t, sh) ∈ eqs) : EqOK P t sh :=
  eqTy_sound (List.all_eq_true.1 h _ hm)
end GL
/-! GL without fuel: what a call gives, and the equations that it obeys. -/
namespace GL
open Go

/-- the limit of a row of ever better tries -/
noncomputable def lim {α : Type} (f : Nat → Option α) : Option α := open Classical in if h : ∃ n x, f n = some x then some h.choose_spec.choose else none

def Up {α : Type} (f : Nat → Option α) : Prop := ∀ n x, f n = some x → f (n + 1) = some x

theorem Up.le {α : Type} {f : Nat → Option α} (h : Up f) {n m : Nat} (hl : n ≤ m) {x : α} (hx : f n = some x) : f m = some x := by
  induction hl with
  | refl => exact hx
  | step _ ih => exact h _ _ ih

theorem lim_eq {α : Type} {f : Nat → Option α} (h : Up f) {x : α} : lim f = some x ↔ ∃ n, f n = some x := by
  unfold lim
  by_cases he : ∃ n x, f n = some x
  · rw [dif_pos he]
    have hs := he.choose_spec.choose_spec
    constructor
    · intro e
      exact ⟨_, by rw [← e]; exact hs⟩
    · rintro ⟨n, hn⟩
      have h1 := h.le (Nat.le_max_left he.choose n) hs
      have h2 := h.le (Nat.le_max_right he.choose n) hn
      rw [h1] at h2
      exact h2
  · rw [dif_neg he]
    constructor
    · intro e; cases e
    · rintro ⟨n, hn⟩; exact absurd ⟨n, x, hn⟩ he

/-- the second way of calling knows all that the first one knows -/
def CallF.le (c d : CallF) : Prop := ∀ (f : Nat) (as : List V) (h : Heap) (r : V × Heap), c f as h = some r → d f as h = some r

theorem eop_le {c d : CallF} (h : c.le d) {o : EOp} {as : List T} {hp : Heap} {r : V × Heap} (hr : eop c o as hp = some r) : eop d o as hp = some r := by
  cases o with
  | call =>
    simp only [eop] at hr ⊢
    split at hr
    · simp only [Option.bind_eq_some_iff] at hr ⊢
      obtain ⟨xs, h1, h2⟩ := hr
      exact ⟨xs, h1, h _ _ _ _ h2⟩
    · cases hr
  | _ => exact hr

theorem xop_le {c d : CallF} (h : c.le d) {o : AOper} {s r : S} (hr : xop c o s = some r) : xop d o s = some r := by
  unfold xop at hr ⊢
  simp only [Option.bind_eq_some_iff] at hr ⊢
  obtain ⟨b, hw, hx⟩ := hr
  refine ⟨b, hw, ?_⟩
  split
  · rename_i hb
    simp only [hb, if_true] at hx
    unfold aop at hx ⊢
    split at hx
    · exact hx
    · exact hx
    · exact hx
    · simp only [Option.bind_eq_some_iff] at hx ⊢
      obtain ⟨q, h1, h2⟩ := hx
      exact ⟨q, eop_le h h1, h2⟩
    · exact hx
  · rename_i hb
    simpa [hb] using hx

theorem xops_le {c d : CallF} (h : c.le d) : ∀ {l : List AOper} {s r : S}, xops c l s = some r → xops d l s = some r
  | [], _, _, hr => hr
  | o :: l, s, r, hr => by
    simp only [xops, Option.bind_eq_some_iff] at hr ⊢
    obtain ⟨s1, h1, h2⟩ := hr
    exact ⟨s1, xop_le h h1, xops_le h h2⟩

theorem loopN_le {f g : S → Option (Ex × S)} (h : ∀ s r, f s = some r → g s = some r) : ∀ {n m : Nat} {s : S} {r : Ex × S}, n ≤ m → loopN f n s = some r → loopN g m s = some r
  | 0, _, _, _, _, hr => by simp [loopN] at hr
  | n + 1, 0, _, _, hl, _ => by omega
  | n + 1, m + 1, s, r, hl, hr => by
    simp only [loopN, Option.bind_eq_some_iff] at hr ⊢
    obtain ⟨⟨e, s1⟩, h1, h2⟩ := hr
    refine ⟨(e, s1), h _ _ h1, ?_⟩
    cases e with
    | norm => exact loopN_le h (by omega) h2
    | exit i => exact h2
    | ret => exact h2

theorem xC_le {c d : CallF} (h : c.le d) {n m : Nat} (hl : n ≤ m) : ∀ (k : Code) (s : S) (r : Ex × S), xC c n k s = some r → xC d m k s = some r
  | .skip, s, r, hr => hr
  | .reg _ _, s, r, hr => by
    simp only [xC, Option.bind_eq_some_iff] at hr ⊢
    obtain ⟨s1, h1, h2⟩ := hr
    exact ⟨s1, xops_le h h1, h2⟩
  | .seq a b, s, r, hr => by
    simp only [xC, Option.bind_eq_some_iff] at hr ⊢
    obtain ⟨⟨e, s1⟩, h1, h2⟩ := hr
    refine ⟨(e, s1), xC_le h hl a s _ h1, ?_⟩
    cases e with
    | norm => exact xC_le h hl b s1 r h2
    | exit i => exact h2
    | ret => exact h2
  | .cond _ a b, s, r, hr => by
    simp only [xC] at hr ⊢
    split at hr
    · exact xC_le h hl a s r hr
    · exact xC_le h hl b s r hr
    · cases hr
  | .block _ a, s, r, hr => by
    simp only [xC, Option.bind_eq_some_iff] at hr ⊢
    obtain ⟨q, h1, h2⟩ := hr
    exact ⟨q, xC_le h hl a s _ h1, h2⟩
  | .loop a, s, r, hr => by
    simp only [xC] at hr ⊢
    exact loopN_le (fun s r => xC_le h hl a s r) hl hr
  | .exit _, s, r, hr => hr
  | .ret, s, r, hr => hr
  | .bad, s, r, hr => by simp [xC] at hr

theorem callN_le (p : Prog) : ∀ n, (callN p n).le (callN p (n + 1))
  | 0 => fun _ _ _ _ h => by simp [callN] at h
  | n + 1 => fun f as h r hr => by
    have ih := callN_le p n
    rw [callN] at hr ⊢
    dsimp only at hr ⊢
    split at hr
    · exact hr
    · split at hr
      · simp only [Option.bind_eq_some_iff] at hr ⊢
        obtain ⟨q, h1, h2⟩ := hr
        exact ⟨q, xC_le ih (Nat.le_succ n) _ _ _ h1, h2⟩
      · cases hr

theorem callN_mono (p : Prog) {n m : Nat} (hl : n ≤ m) : (callN p n).le (callN p m) := by
  induction hl with
  | refl => exact fun _ _ _ _ h => h
  | step _ ih => exact fun f as h r hr => callN_le p _ f as h r (ih f as h r hr)

/-- what a call gives -/
noncomputable def call (p : Prog) : CallF := fun f as h => lim fun n => callN p n f as h

theorem call_up (p : Prog) (f : Nat) (as : List V) (h : Heap) : Up fun n => callN p n f as h := fun n r hr => callN_le p n f as h r hr

theorem call_iff {p : Prog} {f : Nat} {as : List V} {h : Heap} {r : V × Heap} : call p f as h = some r ↔ ∃ n, callN p n f as h = some r := lim_eq (call_up p f as h)

/-- what code does -/
noncomputable def den (p : Prog) : Code → S → Option (Ex × S)
  | .skip, s => some (.norm, s)
  | .reg rsv ops, s => (xops (call p) ops (s.begin rsv)).bind fun s' => some (.norm, s')
  | .seq a b, s => (den p a s).bind fun r => match r with
    | (.norm, s') => den p b s'
    | r => some r
  | .cond c a b, s => match s.ev c with
    | .v (.bool true) => den p a s
    | .v (.bool false) => den p b s
    | _ => none
  | .block id c, s => (den p c s).bind fun r => match r with
    | (.exit i, s') => if i = id then some (.norm, s') else some (.exit i, s')
    | r => some r
  | .loop c, s => lim fun n => loopN (den p c) n s
  | .exit id, s => some (.exit id, s)
  | .ret, s => some (.ret, s)
  | .bad, _ => none

theorem loop_up (f : S → Option (Ex × S)) (s : S) : Up fun n => loopN f n s := fun _ _ hr => loopN_le (fun _ _ h => h) (Nat.le_succ _) hr

theorem xop_lim {p : Prog} {o : AOper} {s r : S} (hr : xop (call p) o s = some r) : ∃ n, xop (callN p n) o s = some r := by
  unfold xop at hr
  simp only [Option.bind_eq_some_iff] at hr
  obtain ⟨b, hw, hx⟩ := hr
  cases b with
  | false => exact ⟨0, by unfold xop; rw [hw]; exact hx⟩
  | true =>
    simp only [if_true] at hx
    unfold aop at hx
    split at hx
    · exact ⟨0, by unfold xop aop; rw [hw]; simp only [Option.bind_some, if_true, *]⟩
    · exact ⟨0, by unfold xop aop; rw [hw]; simp only [Option.bind_some, if_true, *]⟩
    · exact ⟨0, by unfold xop aop; rw [hw]; simp only [Option.bind_some, if_true, *]⟩
    · rename_i eo chk sl heq
      simp only [Option.bind_eq_some_iff] at hx
      obtain ⟨q, h1, h2⟩ := hx
      have : ∃ n, eop (callN p n) eo (o.args.map s.ev) s.h = some q := by
        cases eo with
        | call =>
          simp only [eop] at h1
          split at h1
          · rename_i heq2
            simp only [Option.bind_eq_some_iff] at h1
            obtain ⟨xs, h3, h4⟩ := h1
            obtain ⟨n, hn⟩ := call_iff.1 h4
            exact ⟨n, by simp only [eop, heq2, h3, Option.bind_some]; exact hn⟩
          · cases h1
        | _ => exact ⟨0, h1⟩
      obtain ⟨n, hn⟩ := this
      exact ⟨n, by unfold xop aop; rw [hw]; simp only [Option.bind_some, if_true, heq, hn]; exact h2⟩
    · exact ⟨0, by unfold xop aop; rw [hw]; simp only [Option.bind_some, if_true, *]⟩

theorem xops_lim {p : Prog} : ∀ {l : List AOper} {s r : S}, xops (call p) l s = some r → ∃ n, xops (callN p n) l s = some r
  | [], s, r, hr => ⟨0, hr⟩
  | o :: l, s, r, hr => by
    simp only [xops, Option.bind_eq_some_iff] at hr
    obtain ⟨s1, h1, h2⟩ := hr
    obtain ⟨n, hn⟩ := xop_lim h1
    obtain ⟨m, hm⟩ := xops_lim h2
    refine ⟨max n m, ?_⟩
    simp only [xops, Option.bind_eq_some_iff]
    exact ⟨s1, xop_le (callN_mono p (Nat.le_max_left n m)) hn, xops_le (callN_mono p (Nat.le_max_right n m)) hm⟩

theorem callN_call (p : Prog) (n : Nat) : (callN p n).le (call p) := fun _ _ _ _ h => call_iff.2 ⟨n, h⟩

theorem xC_den {p : Prog} {n m : Nat} : ∀ (k : Code) (s : S) (r : Ex × S), xC (callN p n) m k s = some r → den p k s = some r
  | .skip, s, r, hr => hr
  | .reg _ _, s, r, hr => by
    simp only [xC, den, Option.bind_eq_some_iff] at hr ⊢
    obtain ⟨s1, h1, h2⟩ := hr
    exact ⟨s1, xops_le (callN_call p n) h1, h2⟩
  | .seq a b, s, r, hr => by
    simp only [xC, den, Option.bind_eq_some_iff] at hr ⊢
    obtain ⟨⟨e, s1⟩, h1, h2⟩ := hr
    refine ⟨(e, s1), xC_den a s _ h1, ?_⟩
    cases e with
    | norm => exact xC_den b s1 r h2
    | exit i => exact h2
    | ret => exact h2
  | .cond _ a b, s, r, hr => by
    simp only [xC, den] at hr ⊢
    split at hr
    · rename_i hb; rw [hb]; exact xC_den a s r hr
    · rename_i hb; rw [hb]; exact xC_den b s r hr
    · cases hr
  | .block _ a, s, r, hr => by
    simp only [xC, den, Option.bind_eq_some_iff] at hr ⊢
    obtain ⟨q, h1, h2⟩ := hr
    exact ⟨q, xC_den a s _ h1, h2⟩
  | .loop a, s, r, hr => by
    simp only [xC, den] at hr ⊢
    exact (lim_eq (loop_up _ s)).2 ⟨m, loopN_le (fun s r => xC_den a s r) (Nat.le_refl _) hr⟩
  | .exit _, s, r, hr => hr
  | .ret, s, r, hr => hr
  | .bad, s, r, hr => by simp [xC] at hr

theorem loopN_lim {p : Prog} {k : Code} (ih : ∀ (s : S) (r : Ex × S), den p k s = some r → ∃ n, xC (callN p n) n k s = some r) : ∀ (n : Nat) (s : S) (r : Ex × S), loopN (den p k) n s = some r →
    ∃ m, loopN (xC (callN p m) m k) m s = some r
  | 0, _, _, h => by simp [loopN] at h
  | n + 1, s, r, h => by
    simp only [loopN, Option.bind_eq_some_iff] at h
    obtain ⟨⟨e, s1⟩, h1, h2⟩ := h
    obtain ⟨m1, hm1⟩ := ih s _ h1
    cases e with
    | norm =>
      obtain ⟨m2, hm2⟩ := loopN_lim ih n s1 r h2
      refine ⟨max m1 m2 + 1, ?_⟩
      simp only [loopN, Option.bind_eq_some_iff]
      refine ⟨(.norm, s1), xC_le (callN_mono p (by omega)) (by omega) k s _ hm1, ?_⟩
      exact loopN_le (fun s r hr => xC_le (callN_mono p (by omega)) (by omega) k s r hr) (by omega) hm2
    | exit i =>
      refine ⟨m1 + 1, ?_⟩
      simp only [loopN, Option.bind_eq_some_iff]
      exact ⟨_, xC_le (callN_mono p (Nat.le_succ _)) (Nat.le_succ _) k s _ hm1, h2⟩
    | ret =>
      refine ⟨m1 + 1, ?_⟩
      simp only [loopN, Option.bind_eq_some_iff]
      exact ⟨_, xC_le (callN_mono p (Nat.le_succ _)) (Nat.le_succ _) k s _ hm1, h2⟩

theorem den_xC {p : Prog} : ∀ (k : Code) (s : S) (r : Ex × S), den p k s = some r → ∃ n, xC (callN p n) n k s = some r
  | .skip, s, r, hr => ⟨0, hr⟩
  | .reg _ _, s, r, hr => by
    simp only [xC, den, Option.bind_eq_some_iff] at hr ⊢
    obtain ⟨s1, h1, h2⟩ := hr
    obtain ⟨n, hn⟩ := xops_lim h1
    exact ⟨n, s1, hn, h2⟩
  | .seq a b, s, r, hr => by
    simp only [xC, den, Option.bind_eq_some_iff] at hr ⊢
    obtain ⟨⟨e, s1⟩, h1, h2⟩ := hr
    obtain ⟨n, hn⟩ := den_xC a s _ h1
    cases e with
    | norm =>
      obtain ⟨m, hm⟩ := den_xC b s1 r h2
      exact ⟨max n m, (.norm, s1), xC_le (callN_mono p (Nat.le_max_left n m)) (Nat.le_max_left n m) _ _ _ hn, xC_le (callN_mono p (Nat.le_max_right n m)) (Nat.le_max_right n m) _ _ _ hm⟩
    | exit i => exact ⟨n, _, hn, h2⟩
    | ret => exact ⟨n, _, hn, h2⟩
  | .cond _ a b, s, r, hr => by
    simp only [xC, den] at hr ⊢
    split at hr
    · rename_i hb; rw [hb]; exact den_xC a s r hr
    · rename_i hb; rw [hb]; exact den_xC b s r hr
    · cases hr
  | .block _ a, s, r, hr => by
    simp only [xC, den, Option.bind_eq_some_iff] at hr ⊢
    obtain ⟨q, h1, h2⟩ := hr
    obtain ⟨n, hn⟩ := den_xC a s _ h1
    exact ⟨n, q, hn, h2⟩
  | .loop a, s, r, hr => by
    simp only [xC, den] at hr ⊢
    obtain ⟨n, hn⟩ := (lim_eq (loop_up _ s)).1 hr
    exact loopN_lim (fun s r => den_xC a s r) n s r hn
  | .exit _, s, r, hr => ⟨0, hr⟩
  | .ret, s, r, hr => ⟨0, hr⟩
  | .bad, s, r, hr => by simp [den] at hr

theorem call_ext {p : Prog} {f : Nat} {e : List V → Heap → Option (V × Heap)} (he : p.ext f = some e) (as : List V) (h : Heap) : call p f as h = e as h := by
  apply Option.ext
  intro r
  rw [call_iff]
  constructor
  · rintro ⟨n, hn⟩
    cases n with
    | zero => simp [callN] at hn
    | succ n => simpa [callN, he] using hn
  · intro hr
    exact ⟨1, by simpa [callN, he] using hr⟩

theorem call_fn {p : Prog} {f : Nat} {fn : Fn} (he : p.ext f = none) (hf : p.fn f = some fn) (as : List V) (h : Heap) : call p f as h = (den p fn.body (init as h)).bind (finish fn.res) := by
  apply Option.ext
  intro r
  rw [call_iff]
  simp only [Option.bind_eq_some_iff]
  constructor
  · rintro ⟨n, hn⟩
    cases n with
    | zero => simp [callN] at hn
    | succ n =>
      simp only [callN, he, hf, Option.bind_eq_some_iff] at hn
      obtain ⟨q, h1, h2⟩ := hn
      exact ⟨q, xC_den _ _ _ h1, h2⟩
  · rintro ⟨q, h1, h2⟩
    obtain ⟨n, hn⟩ := den_xC _ _ _ h1
    exact ⟨n + 1, by simp only [callN, he, hf, Option.bind_eq_some_iff]; exact ⟨q, hn, h2⟩⟩

theorem den_loop {p : Prog} {c : Code} {s : S} {r : Ex × S} : den p (.loop c) s = some r ↔ ∃ n, loopN (den p c) n s = some r := by
  simp only [den]; exact lim_eq (loop_up _ s)
end GL
/-! GL: how a claim's proofs step through code: what must hold for code to end well. -/
namespace GL
open Go

/-- it gives something, and that is as asked -/
def W {α : Type} (m : Option α) (Q : α → Prop) : Prop := ∃ x, m = some x ∧ Q x

section
variable {α β : Type}
@[simp] theorem W_some (x : α) (Q : α → Prop) : W (some x) Q = Q x := by simp [W]
@[simp] theorem W_none (Q : α → Prop) : W none Q = False := by simp [W]
theorem W_bind (m : Option α) (f : α → Option β) (Q : β → Prop) : W (m.bind f) Q = W m fun x => W (f x) Q := by
  cases m <;> simp [W]
@[congr] theorem W_congr {m m' : Option α} {Q : α → Prop} (h : m = m') : W m Q = W m' Q := by rw [h]
theorem W_of {m : Option α} {Q R : α → Prop} (h : W m R) (k : ∀ x, R x → Q x) : W m Q := let ⟨x, hx, hr⟩ := h; ⟨x, hx, k x hr⟩
theorem W_eq {m : Option α} {x : α} (h : W m fun y => y = x) : m = some x := by obtain ⟨y, h1, h2⟩ := h; rw [h1, h2]
theorem W_ite (c : Prop) [Decidable c] (a b : Option α) (Q : α → Prop) : W (if c then a else b) Q = if c then W a Q else W b Q := by split <;> rfl
end

variable {p : Prog}

/-- code ends, and its end is as asked -/
def Wc (p : Prog) (c : Code) (s : S) (Q : Ex → S → Prop) : Prop := W (den p c s) fun r => Q r.1 r.2

def Wx (p : Prog) (l : List AOper) (s : S) (K : S → Prop) : Prop := W (xops (call p) l s) K

@[congr] theorem Wc_congr {c c' : Code} {s s' : S} {Q : Ex → S → Prop} (hc : c = c') (h : s = s') : Wc p c s Q = Wc p c' s' Q := by rw [hc, h]
@[congr] theorem Wx_congr {l : List AOper} {s s' : S} {K : S → Prop} (h : s = s') : Wx p l s K = Wx p l s' K := by rw [h]

def seqK (p : Prog) (b : Code) (Q : Ex → S → Prop) : Ex → S → Prop
  | .norm, s => Wc p b s Q
  | .exit i, s => Q (.exit i) s
  | .ret, s => Q .ret s

def blockK (id : Nat) (Q : Ex → S → Prop) : Ex → S → Prop
  | .norm, s => Q .norm s
  | .exit i, s => if i = id then Q .norm s else Q (.exit i) s
  | .ret, s => Q .ret s

def finK (res : List Res) (R : V × Heap → Prop) : Ex → S → Prop
  | .exit _, _ => False
  | .norm, s => W (resVs s res) fun xs => match xs with
    | [x] => R (x, s.h)
    | xs => R (.tup xs, s.h)
  | .ret, s => W (resVs s res) fun xs => match xs with
    | [x] => R (x, s.h)
    | xs => R (.tup xs, s.h)

section
variable {s : S} {Q : Ex → S → Prop} {K : S → Prop}
theorem Wc_skip : Wc p .skip s Q = Q .norm s := by simp [Wc, den]
theorem Wc_exit {i : Nat} : Wc p (.exit i) s Q = Q (.exit i) s := by simp [Wc, den]
theorem Wc_ret : Wc p .ret s Q = Q .ret s := by simp [Wc, den]
theorem Wc_reg {n : Nat} {l : List AOper} : Wc p (.reg n l) s Q = Wx p l (s.begin n) (Q .norm) := by simp [Wc, Wx, den, W_bind]
theorem Wc_seq {a b : Code} : Wc p (.seq a b) s Q = Wc p a s (seqK p b Q) := by
  simp only [Wc, den, W_bind]
  congr 1; funext ⟨e, s'⟩
  cases e <;> simp [seqK, Wc]
theorem Wc_block {id : Nat} {c : Code} : Wc p (.block id c) s Q = Wc p c s (blockK id Q) := by
  simp only [Wc, den, W_bind]
  congr 1; funext ⟨e, s'⟩
  cases e with
  | exit i => by_cases h : i = id <;> simp [blockK, h]
  | _ => simp [blockK]
theorem Wc_cond {c : Opd} {a b : Code} {t : Bool} (h : s.ev c = .v (.bool t)) : Wc p (.cond c a b) s Q = if t = true then Wc p a s Q else Wc p b s Q := by
  cases t <;> simp [Wc, den, h]

/-- a condition, by what it is of -/
def condK (p : Prog) (a b : Code) (Q : Ex → S → Prop) (s : S) : T → Prop
  | .v (.bool t) => if t = true then Wc p a s Q else Wc p b s Q
  | _ => False
theorem Wc_if {c : Opd} {a b : Code} : Wc p (.cond c a b) s Q = condK p a b Q s (s.ev c) := by
  unfold Wc; simp only [den]
  split
  · rename_i h; simp [condK, h, Wc]
  · rename_i h; simp [condK, h, Wc]
  · rename_i h1 h2
    unfold condK
    split
    · rename_i t h
      cases t
      · exact absurd h h2
      · exact absurd h h1
    · simp
@[congr] theorem condK_congr {a b : Code} {s s' : S} {x x' : T} (hs : s = s') (h : x = x') : condK p a b Q s x = condK p a b Q s' x' := by rw [hs, h]
theorem condK_bool {a b : Code} {t : Bool} : condK p a b Q s (.v (.bool t)) = if t = true then Wc p a s Q else Wc p b s Q := rfl

theorem Wx_nil : Wx p [] s K = K s := by simp [Wx, xops]
/-- what is left of a region, behind an operation's outcome -/
def Wo (p : Prog) (r : List AOper) (K : S → Prop) (m : Option S) : Prop := W m fun s' => Wx p r s' K
@[congr] theorem Wo_congr {r : List AOper} {m m' : Option S} (h : m = m') : Wo p r K m = Wo p r K m' := by rw [h]
theorem Wx_cons {o : AOper} {r : List AOper} : Wx p (o :: r) s K = Wo p r K (xop (call p) o s) := by simp only [Wx, xops, W_bind, Wo]
theorem Wo_some {r : List AOper} : Wo p r K (some s) = Wx p r s K := by simp [Wo]
theorem Wo_none {r : List AOper} : Wo p r K none = False := by simp [Wo]
theorem Wo_ite {r : List AOper} (c : Prop) [Decidable c] (a b : Option S) : Wo p r K (if c then a else b) = if c then Wo p r K a else Wo p r K b := by split <;> rfl

theorem seqK_norm {b : Code} : seqK p b Q .norm s = Wc p b s Q := rfl
theorem seqK_exit {b : Code} {i : Nat} : seqK p b Q (.exit i) s = Q (.exit i) s := rfl
theorem seqK_ret {b : Code} : seqK p b Q .ret s = Q .ret s := rfl
theorem blockK_norm {id : Nat} : blockK id Q .norm s = Q .norm s := rfl
theorem blockK_exit {id i : Nat} : blockK id Q (.exit i) s = if i = id then Q .norm s else Q (.exit i) s := rfl
theorem blockK_ret {id : Nat} : blockK id Q .ret s = Q .ret s := rfl
@[congr] theorem seqK_congr {b : Code} {e e' : Ex} {s s' : S} (h : e = e') (hs : s = s') : seqK p b Q e s = seqK p b Q e' s' := by rw [h, hs]
@[congr] theorem blockK_congr {id : Nat} {e e' : Ex} {s s' : S} (h : e = e') (hs : s = s') : blockK id Q e s = blockK id Q e' s' := by rw [h, hs]
end

theorem call_W {f : Nat} {fn : Fn} {as : List V} {h : Heap} {R : V × Heap → Prop} (he : p.ext f = none) (hf : p.fn f = some fn) (hw : Wc p fn.body (init as h) (finK fn.res R)) : W (call p f as h) R := by
  rw [call_fn he hf, W_bind]
  refine W_of hw fun ⟨e, s⟩ hq => ?_
  cases e with
  | exit i => exact hq.elim
  | norm =>
    simp only [finK] at hq
    simp only [finish, W_bind]
    refine W_of hq fun xs hx => ?_
    split at hx <;> simp_all
  | ret =>
    simp only [finK] at hq
    simp only [finish, W_bind]
    refine W_of hq fun xs hx => ?_
    split at hx <;> simp_all

/-- loops, by what stands at their head -/
theorem Wc_loop {c : Code} {s : S} {Q : Ex → S → Prop} (I : Nat → S → Prop) (k : Nat) (h0 : I k s)
    (hb : ∀ i s, I i s → Wc p c s fun e s' => match e with | .norm => ∃ j, j < i ∧ I j s' | .exit x => Q (.exit x) s' | .ret => Q .ret s') : Wc p (.loop c) s Q := by
  have key : ∀ n k s, k ≤ n → I k s → ∃ m r, loopN (den p c) m s = some r ∧ Q r.1 r.2 := by
    intro n
    induction n with
    | zero =>
      intro k s hk hI
      obtain ⟨⟨e, s'⟩, h1, h2⟩ := hb k s hI
      cases e with
      | norm => obtain ⟨j, hj, _⟩ := h2; omega
      | exit x => exact ⟨1, (.exit x, s'), by simp only [loopN, h1, Option.bind_some], h2⟩
      | ret => exact ⟨1, (.ret, s'), by simp only [loopN, h1, Option.bind_some], h2⟩
    | succ n ih =>
      intro k s hk hI
      obtain ⟨⟨e, s'⟩, h1, h2⟩ := hb k s hI
      cases e with
      | norm =>
        obtain ⟨j, hj, hI'⟩ := h2
        obtain ⟨m, r, h3, h4⟩ := ih j s' (by omega) hI'
        exact ⟨m + 1, r, by simp only [loopN, h1, Option.bind_some]; exact h3, h4⟩
      | exit x => exact ⟨1, (.exit x, s'), by simp only [loopN, h1, Option.bind_some], h2⟩
      | ret => exact ⟨1, (.ret, s'), by simp only [loopN, h1, Option.bind_some], h2⟩
  obtain ⟨m, r, h1, h2⟩ := key k k s (Nat.le_refl _) h0
  exact ⟨r, den_loop.2 ⟨m, h1⟩, h2⟩

def upK (I : Nat → S → Prop) (n i : Nat) (Q : Ex → S → Prop) : Ex → S → Prop
  | .norm, s => i < n ∧ I (i + 1) s
  | .exit x, s => Q (.exit x) s
  | .ret, s => Q .ret s

/-- loops that count up -/
theorem Wc_up {c : Code} {s : S} {Q : Ex → S → Prop} (n : Nat) (I : Nat → S → Prop) (i : Nat) (h0 : I i s) (hb : ∀ i s, I i s → Wc p c s (upK I n i Q)) : Wc p (.loop c) s Q := by
  refine Wc_loop (fun m s => ∃ i, m = n - i ∧ I i s) (n - i) ⟨i, rfl, h0⟩ fun m s ⟨i, hm, hI⟩ => ?_
  refine W_of (hb i s hI) fun ⟨e, s'⟩ hq => ?_
  cases e with
  | norm => exact ⟨n - (i + 1), by have := hq.1; omega, i + 1, rfl, hq.2⟩
  | exit x => exact hq
  | ret => exact hq

/-- the parameters of a call -/
def argσ (as : List V) : Nat → T := fun i => match as[i]? with | some x => .v x | none => .v (.tup [])
theorem init_eq (as : List V) (h : Heap) : init as h = ⟨argσ as, fun _ => (0, []), h, fun _ => none, fun _ => false, 0⟩ := rfl
theorem argσ_zero (x : V) (l : List V) : argσ (x :: l) 0 = .v x := rfl
theorem argσ_succ (x : V) (l : List V) (n : Nat) : argσ (x :: l) (n + 1) = argσ l n := rfl
theorem begin_zero (σ : Nat → T) (L : Nat → Nat × List V) (h : Heap) (wt : Nat → Option (ROp × List T × V)) (fl : Nat → Bool) (b : Nat) :
    S.begin ⟨σ, L, h, wt, fl, b⟩ 0 = ⟨σ, L, h, fun _ => none, fun _ => false, h.length⟩ := by simp [S.begin]
theorem begin_s (s : S) : s.begin 0 = ⟨s.σ, s.L, s.h, fun _ => none, fun _ => false, s.h.length⟩ := by simp [S.begin]

section ops
variable {σ : Nat → T} {L : Nat → Nat × List V} {h : Heap} {wt : Nat → Option (ROp × List T × V)} {fl : Nat → Bool} {b ix d : Nat} {as : List Opd} {c : CallF}
theorem ev_t (n : Nat) : S.ev ⟨σ, L, h, wt, fl, b⟩ (.t n) = σ n := rfl
theorem ev_c (x : V) : S.ev ⟨σ, L, h, wt, fl, b⟩ (.c x) = .v x := rfl
theorem ev_f (n : Nat) : S.ev ⟨σ, L, h, wt, fl, b⟩ (.f n) = .v (.fn n []) := rfl
theorem upd_eq {α : Type} (f : Nat → α) (i j : Nat) (x : α) : upd f i x j = if j = i then x else f j := rfl

theorem xop_p {o : POp} : xop c ⟨ix, some d, none, .p o, as⟩ ⟨σ, L, h, wt, fl, b⟩ = (pop o (as.map (S.ev ⟨σ, L, h, wt, fl, b⟩))).bind fun x => some ⟨upd σ d x, L, h, wt, fl, b⟩ := rfl
theorem xop_l {o : LOp} : xop c ⟨ix, some d, none, .l o, as⟩ ⟨σ, L, h, wt, fl, b⟩ = (lop o (as.map (S.ev ⟨σ, L, h, wt, fl, b⟩)) L).bind fun r => some ⟨upd σ d r.1, r.2, h, wt, fl, b⟩ := rfl
theorem xop_l0 {o : LOp} : xop c ⟨ix, none, none, .l o, as⟩ ⟨σ, L, h, wt, fl, b⟩ = (lop o (as.map (S.ev ⟨σ, L, h, wt, fl, b⟩)) L).bind fun r => some ⟨σ, r.2, h, wt, fl, b⟩ := rfl
theorem xop_r {o : ROp} : xop c ⟨ix, some d, none, .r o false, as⟩ ⟨σ, L, h, wt, fl, b⟩ = (rop o (as.map (S.ev ⟨σ, L, h, wt, fl, b⟩)) h).bind fun x => some ⟨upd σ d (.v x), L, h, wt, fl, b⟩ := rfl
theorem xop_rw {o : ROp} : xop c ⟨ix, some d, none, .r o true, as⟩ ⟨σ, L, h, wt, fl, b⟩ = (rop o (as.map (S.ev ⟨σ, L, h, wt, fl, b⟩)) h).bind fun x =>
    if wt ix = none then some ⟨upd σ d (.v x), L, h, upd wt ix (some (o, as.map (S.ev ⟨σ, L, h, wt, fl, b⟩), x)), fl, b⟩ else none := rfl
theorem allDead_nil : allDead h b fl [] = true := rfl
theorem xop_e {o : EOp} : xop c ⟨ix, some d, none, .e o [] [], as⟩ ⟨σ, L, h, wt, fl, b⟩ = (eop c o (as.map (S.ev ⟨σ, L, h, wt, fl, b⟩)) h).bind fun r => some ⟨upd σ d (.v r.1), L, r.2, wt, fl, b⟩ := by
  show (eop c o _ h).bind _ = _
  congr 1; funext r
  rw [if_pos ⟨rfl, trivial⟩]; rfl
theorem xop_e0 {o : EOp} : xop c ⟨ix, none, none, .e o [] [], as⟩ ⟨σ, L, h, wt, fl, b⟩ = (eop c o (as.map (S.ev ⟨σ, L, h, wt, fl, b⟩)) h).bind fun r => some ⟨σ, L, r.2, wt, fl, b⟩ := by
  show (eop c o _ h).bind _ = _
  congr 1; funext r
  rw [if_pos ⟨rfl, trivial⟩]; rfl
open Classical in
theorem xop_ec {o : EOp} {chk sl : List Nat} : xop c ⟨ix, some d, none, .e o chk sl, as⟩ ⟨σ, L, h, wt, fl, b⟩ = (eop c o (as.map (S.ev ⟨σ, L, h, wt, fl, b⟩)) h).bind fun r =>
    if allDead h b fl sl = true ∧ stable wt r.2 chk then some ⟨upd σ d (.v r.1), L, r.2, wt, fl, b⟩ else none := rfl
theorem xop_g {o : AOp} {g : Nat} {w : Bool} : xop c ⟨ix, some d, some (g, w), o, as⟩ ⟨σ, L, h, wt, fl, b⟩ =
    (S.wants ⟨σ, L, h, wt, fl, b⟩ (some (g, w))).bind fun t => if t = true then xop c ⟨ix, some d, none, o, as⟩ ⟨σ, L, h, wt, fl, b⟩ else some ⟨upd σ d (.v (.tup [])), L, h, wt, fl, b⟩ := by
  unfold xop; simp [S.wants, S.put]

def wantT (w : Bool) : T → Option Bool
  | .v (.bool b) => some (b == w)
  | .v (.tup []) => some false
  | _ => none
theorem wants_eq {g : Nat} {w : Bool} : S.wants ⟨σ, L, h, wt, fl, b⟩ (some (g, w)) = wantT w (σ g) := by
  simp only [S.wants, wantT]; rfl
theorem wantT_bool {w t : Bool} : wantT w (.v (.bool t)) = some (t == w) := rfl
theorem wantT_un {w : Bool} : wantT w (.v (.tup [])) = some false := rfl

theorem eop_call {f : Nat} {capt : List V} {as : List T} : eop c .call (.v (.fn f capt) :: as) h = (vals as).bind fun xs => c f (xs ++ capt) h := rfl
theorem vals_nil : vals [] = some [] := rfl
theorem vals_cons (x : V) (r : List T) : vals (.v x :: r) = (vals r).bind fun xs => some (x :: xs) := rfl
end ops
end GL
/-! GL: what simp takes for stepping. -/
namespace GL
open Go

theorem binV_int (op : BinOp) (k k' : IntKind) (a b : Int) : binV op (.int k a) (.int k' b) = if op = .shl ∨ op = .shr then shI op k a b else if k = k' then binI op k a b else none := rfl
theorem idxV_s (k b off n : Nat) (cap : Cap) (kd : IntKind) (i : Int) : idxV k (.slice b off n cap) (.int kd i) = if 0 ≤ i ∧ i < n then some (.ptr b (off + i.toNat * k)) else none := rfl
theorem eop_store (c : CallF) (k b off : Nat) (x : V) (h : Heap) : eop c (.store k) [.v (.ptr b off), .v x] h = if x.cells.length = k ∧ allCell x.cells = true then (wrH h b off x.cells).bind fun h' => some (.tup [], h') else none := rfl
theorem eop_new (c : CallF) (o : MOp) (as : List T) (h : Heap) : eop c (.new o) as h = (mop o as h).bind fun r => some (r.2 h.length, h ++ [r.1]) := rfl
theorem eop_append (c : CallF) (k bytes : Nat) (s x : V) (h : Heap) : eop c (.append k bytes) [.v s, .v x] h = (lenV x).bind fun n => (rdS h k x n).bind fun xs => appH k bytes s n xs h := rfl
theorem rop_load (agg : Bool) (k b off : Nat) (h : Heap) : rop (.load agg k) [.v (.ptr b off)] h = (rdH h b off k).bind fun cs => mkV agg cs := rfl
theorem mkV_agg (cs : List V) : mkV true cs = some (.agg cs) := rfl
theorem mkV_one (x : V) : mkV false [x] = some x := rfl
theorem resVs_nil (s : S) : resVs s [] = some [] := rfl
theorem resVs_cons (s : S) (r : Res) (rs : List Res) : resVs s (r :: rs) = (resV s r).bind fun x => (resVs s rs).bind fun xs => some (x :: xs) := rfl
def tV : T → Option V
  | .v x => some x
  | _ => none
theorem resV_tmp (s : S) (t : Nat) : resV s (.tmp t) = tV (s.σ t) := by
  simp only [resV]; cases s.σ t <;> rfl
theorem tV_v (x : V) : tV (.v x) = some x := rfl
theorem finK_ret {res : List Res} {R : V × Heap → Prop} {s : S} : finK res R .ret s = W (resVs s res) fun xs => match xs with
    | [x] => R (x, s.h)
    | xs => R (.tup xs, s.h) := rfl
theorem finK_norm {res : List Res} {R : V × Heap → Prop} {s : S} : finK res R .norm s = W (resVs s res) fun xs => match xs with
    | [x] => R (x, s.h)
    | xs => R (.tup xs, s.h) := rfl
theorem upK_norm {I : Nat → S → Prop} {n i : Nat} {Q : Ex → S → Prop} {s : S} : upK I n i Q .norm s = (i < n ∧ I (i + 1) s) := rfl
theorem upK_exit {I : Nat → S → Prop} {n i x : Nat} {Q : Ex → S → Prop} {s : S} : upK I n i Q (.exit x) s = Q (.exit x) s := rfl
theorem upK_ret {I : Nat → S → Prop} {n i : Nat} {Q : Ex → S → Prop} {s : S} : upK I n i Q .ret s = Q .ret s := rfl
@[congr] theorem upK_congr {I : Nat → S → Prop} {n i : Nat} {Q : Ex → S → Prop} {e e' : Ex} {s s' : S} (h : e = e') (hs : s = s') : upK I n i Q e s = upK I n i Q e' s' := by rw [h, hs]
@[congr] theorem finK_congr {res : List Res} {R : V × Heap → Prop} {e e' : Ex} {s s' : S} (h : e = e') (hs : s = s') : finK res R e s = finK res R e' s' := by rw [h, hs]

open Classical in
theorem xop_ec1 {σ : Nat → T} {L : Nat → Nat × List V} {h : Heap} {wt : Nat → Option (ROp × List T × V)} {fl : Nat → Bool} {b ix d : Nat} {as : List Opd} {c : CallF} {o : EOp} {i : Nat} {chk sl : List Nat} :
    xop c ⟨ix, some d, none, .e o (i :: chk) sl, as⟩ ⟨σ, L, h, wt, fl, b⟩ = (eop c o (as.map (S.ev ⟨σ, L, h, wt, fl, b⟩)) h).bind fun r =>
    if allDead h b fl sl = true ∧ stable wt r.2 (i :: chk) then some ⟨upd σ d (.v r.1), L, r.2, wt, fl, b⟩ else none := rfl
open Classical in
theorem xop_ec2 {σ : Nat → T} {L : Nat → Nat × List V} {h : Heap} {wt : Nat → Option (ROp × List T × V)} {fl : Nat → Bool} {b ix d : Nat} {as : List Opd} {c : CallF} {o : EOp} {i : Nat} {sl : List Nat} :
    xop c ⟨ix, some d, none, .e o [] (i :: sl), as⟩ ⟨σ, L, h, wt, fl, b⟩ = (eop c o (as.map (S.ev ⟨σ, L, h, wt, fl, b⟩)) h).bind fun r =>
    if allDead h b fl (i :: sl) = true ∧ stable wt r.2 [] then some ⟨upd σ d (.v r.1), L, r.2, wt, fl, b⟩ else none := rfl
theorem stable_nil {wt : Nat → Option (ROp × List T × V)} {h : Heap} : stable wt h [] = True := rfl

section
variable {x y : T} {a b : V} {ts : List T}
theorem pop_mov : pop .mov [x] = some x := rfl
theorem pop_pick (t : Bool) : pop .pick [.v (.bool t), x, y] = some (if t = true then x else y) := by cases t <;> rfl
theorem pop_nil_lp (t g o : Nat) : pop .nilCheck [.lp t g o] = some (.lp t g o) := rfl
theorem pop_nil_p (b o : Nat) : pop .nilCheck [.v (.ptr b o)] = some (.v (.ptr b o)) := rfl
theorem pop_nil_f (f : Nat) (cs : List V) : pop .nilCheck [.v (.fn f cs)] = some (.v (.fn f cs)) := rfl
theorem pop_bin (op : BinOp) : pop (.bin op) [.v a, .v b] = (binV op a b).bind fun r => some (.v r) := rfl
theorem pop_eqB (neg u v : Bool) : pop (.eqB neg) [.v (.bool u), .v (.bool v)] = some (.v (.bool (if neg = true then u != v else u == v))) := by cases neg <;> rfl
theorem pop_eqAgg (neg : Bool) (sh : List (Option IntKind)) (xs ys : List V) : pop (.eqAgg neg sh) [.v (.agg xs), .v (.agg ys)] = (eqCells sh xs ys).bind fun r => some (.v (.bool (if neg = true then !r else r))) := by cases neg <;> rfl
theorem pop_isNil_n (neg : Bool) : pop (.isNil neg) [.v .nils] = some (.v (.bool !neg)) := rfl
theorem pop_isNil_s (neg : Bool) (b o n : Nat) (c : Cap) : pop (.isNil neg) [.v (.slice b o n c)] = some (.v (.bool neg)) := rfl
theorem pop_un (op : UnOp) : pop (.un op) [.v a] = (unV op a).bind fun r => some (.v r) := rfl
theorem pop_conv (k k' : IntKind) (n : Int) : pop (.conv k) [.v (.int k' n)] = some (.v (.int k (k.wrap n))) := rfl
theorem pop_mkFn (f : Nat) : pop (.mkFn f) ts = (vals ts).bind fun cs => some (.v (.fn f cs)) := rfl
theorem pop_slice (k : Nat) (lo hi mx : Bool) : pop (.slice k lo hi mx) (.v a :: ts) = (bounds lo hi mx ts).bind fun b => (slcV k a b.1 b.2.1 b.2.2).bind fun r => some (.v r) := rfl
theorem pop_faddr_lp (off t g o : Nat) : pop (.faddr off) [.lp t g o] = some (.lp t g (o + off)) := rfl
theorem pop_faddr_p (off b o : Nat) : pop (.faddr off) [.v (.ptr b o)] = some (.v (.ptr b (o + off))) := rfl
theorem pop_field (agg : Bool) (off k : Nat) (cs : List V) : pop (.field agg off k) [.v (.agg cs)] = (cut cs off k).bind fun xs => (mkV agg xs).bind fun r => some (.v r) := rfl
theorem pop_idx (k : Nat) : pop (.idx k) [.v a, .v b] = (idxV k a b).bind fun r => some (.v r) := rfl
theorem pop_extract (i : Nat) (vs : List V) : pop (.extract i) [.v (.tup vs)] = (vs[i]?).bind fun r => some (.v r) := rfl
theorem pop_len : pop .len [.v a] = (lenV a).bind fun n => some (.v (.int .i64 n)) := rfl
theorem pop_cap_k (b o n c : Nat) : pop .cap [.v (.slice b o n (.k c))] = some (.v (.int .i64 c)) := rfl
theorem pop_cap_n : pop .cap [.v .nils] = some (.v (.int .i64 0)) := rfl
theorem pop_min (k : IntKind) (x y : Int) : pop .min2 [.v (.int k x), .v (.int k y)] = some (.v (.int k (if y < x then y else x))) := by simp [pop]
theorem pop_max (k : IntKind) (x y : Int) : pop .max2 [.v (.int k x), .v (.int k y)] = some (.v (.int k (if x < y then y else x))) := by simp [pop]
theorem pop_build (z : List V) (pl : List (Nat × Nat)) : pop (.build z pl) ts = (fillL z pl ts).bind fun cs => some (.v (.agg cs)) := rfl
theorem lenV_s (b o n : Nat) (c : Cap) : lenV (.slice b o n c) = some n := rfl
theorem lenV_n : lenV .nils = some 0 := rfl
theorem natV_i (k : IntKind) (i : Int) : natV (.int k i) = if 0 ≤ i then some i.toNat else none := rfl
theorem unV_neg (k : IntKind) (n : Int) : unV .neg (.int k n) = some (.int k (k.wrap (0 - n))) := rfl
theorem unV_not (b : Bool) : unV .not (.bool b) = some (.bool !b) := rfl
theorem cells_int (k : IntKind) (n : Int) : V.cells (.int k n) = [.int k n] := rfl
theorem cells_bool (b : Bool) : V.cells (.bool b) = [.bool b] := rfl
theorem cells_agg (cs : List V) : V.cells (.agg cs) = cs := rfl
theorem cells_slice (b o n : Nat) (c : Cap) : V.cells (.slice b o n c) = [.slice b o n c] := rfl
theorem cells_nils : V.cells .nils = [.nils] := rfl
theorem cells_ptr (b o : Nat) : V.cells (.ptr b o) = [.ptr b o] := rfl
theorem allCell_nil : allCell [] = true := rfl
theorem allCell_cons (x : V) (r : List V) : allCell (x :: r) = (x.cell && allCell r) := rfl
theorem cell_int (k : IntKind) (n : Int) : V.cell (.int k n) = true := rfl
theorem cell_bool (b : Bool) : V.cell (.bool b) = true := rfl
theorem cell_slice (b o n : Nat) (c : Cap) : V.cell (.slice b o n c) = true := rfl
theorem cell_nils : V.cell .nils = true := rfl
theorem cell_ptr (b o : Nat) : V.cell (.ptr b o) = true := rfl
end

/-- a function's call, by its code -/
theorem go {p : Prog} {f : Nat} {fn : Fn} {as : List V} {h : Heap} {Q : V → Heap → Prop} (he : p.ext f = none) (hf : p.fn f = some fn)
    (hw : ∀ R : V → Heap → Prop, (∀ v h', Q v h' → R v h') → Wc p fn.body (init as h) (finK fn.res fun r => R r.1 r.2)) :
    ∃ v h', call p f as h = some (v, h') ∧ Q v h' := by
  obtain ⟨⟨v, h'⟩, h1, h2⟩ := call_W he hf (hw Q fun _ _ h => h)
  exact ⟨v, h', h1, h2⟩

/-- a call whose end is known -/
theorem go_eq {p : Prog} {f : Nat} {fn : Fn} {as : List V} {h : Heap} {v : V} {h' : Heap} (he : p.ext f = none) (hf : p.fn f = some fn)
    (hw : ∀ R : V → Heap → Prop, R v h' → Wc p fn.body (init as h) (finK fn.res fun r => R r.1 r.2)) : call p f as h = some (v, h') := by
  obtain ⟨⟨v1, h1⟩, h2, h3⟩ := call_W he hf (hw (fun a b => a = v ∧ b = h') ⟨rfl, rfl⟩)
  rw [h2]; simp at h3; rw [h3.1, h3.2]

/-- reading and writing a block that is known -/
theorem rdH_at {h : Heap} {b off n : Nat} {blk : Blk} (hb : h[b]? = some blk) (hl : blk.st ≠ .dead) : rdH h b off n = cut blk.cells off n := by
  simp [rdH, hb, hl]
theorem wrH_at {h : Heap} {b off : Nat} {blk : Blk} {xs : List V} (hb : h[b]? = some blk) (hl : blk.st = .own) : wrH h b off xs = (lay blk.cells off xs).bind fun cs => some (h.set b ⟨.own, cs⟩) := by
  obtain ⟨st, cells⟩ := blk
  simp only at hl; subst hl
  simp [wrH, hb]
theorem rdH_set {h : Heap} {b off n : Nat} {cs : List V} (hb : b < h.length) : rdH (h.set b ⟨.own, cs⟩) b off n = cut cs off n := by
  simp [rdH, hb]
theorem wrH_set {h : Heap} {b off : Nat} {cs xs : List V} (hb : b < h.length) : wrH (h.set b ⟨.own, cs⟩) b off xs = (lay cs off xs).bind fun cs => some (h.set b ⟨.own, cs⟩) := by
  simp [wrH, hb]
theorem get_lt {h : Heap} {b : Nat} {blk : Blk} (hb : h[b]? = some blk) : b < h.length := by
  rcases Nat.lt_or_ge b h.length with h1 | h1
  · exact h1
  · rw [List.getElem?_eq_none h1] at hb; cases hb

/-- what a turn of a loop must reach -/
def stepK (J : S → Prop) (Q : Ex → S → Prop) : Ex → S → Prop
  | .norm, s => J s
  | .exit x, s => Q (.exit x) s
  | .ret, s => Q .ret s
theorem stepK_norm {J : S → Prop} {Q : Ex → S → Prop} {s : S} : stepK J Q .norm s = J s := rfl
theorem stepK_exit {J : S → Prop} {Q : Ex → S → Prop} {s : S} {x : Nat} : stepK J Q (.exit x) s = Q (.exit x) s := rfl
theorem stepK_ret {J : S → Prop} {Q : Ex → S → Prop} {s : S} : stepK J Q .ret s = Q .ret s := rfl
@[congr] theorem stepK_congr {J : S → Prop} {Q : Ex → S → Prop} {e e' : Ex} {s s' : S} (h : e = e') (hs : s = s') : stepK J Q e s = stepK J Q e' s' := by rw [h, hs]

/-- a loop that counts up to n -/
theorem Wc_upJ {p : Prog} {c : Code} {s : S} {Q : Ex → S → Prop} (n : Nat) (I : Nat → S → Prop) (i : Nat) (h0 : I i s)
    (hb : ∀ i s, I i s → ∀ J : S → Prop, (∀ s', i < n → I (i + 1) s' → J s') → Wc p c s (stepK J Q)) : Wc p (.loop c) s Q := by
  refine Wc_up n I i h0 fun i s hI => ?_
  refine W_of (hb i s hI (fun s' => i < n ∧ I (i + 1) s') fun s' h1 h2 => ⟨h1, h2⟩) fun ⟨e, s'⟩ hq => ?_
  cases e <;> exact hq

/-- a loop that goes down -/
theorem Wc_dnJ {p : Prog} {c : Code} {s : S} {Q : Ex → S → Prop} (I : Nat → S → Prop) (k : Nat) (h0 : I k s)
    (hb : ∀ k s, I k s → ∀ J : S → Prop, (∀ j s', j < k → I j s' → J s') → Wc p c s (stepK J Q)) : Wc p (.loop c) s Q := by
  refine Wc_loop I k h0 fun k s hI => ?_
  refine W_of (hb k s hI (fun s' => ∃ j, j < k ∧ I j s') fun j s' h1 h2 => ⟨j, h1, h2⟩) fun ⟨e, s'⟩ hq => ?_
  cases e <;> exact hq

attribute [simp] stepK_norm stepK_exit stepK_ret
attribute [simp] Wo_some Wo_none Wo_ite Option.bind_assoc
attribute [simp] Wc_skip Wc_exit Wc_ret Wc_reg Wc_seq Wc_block Wc_if condK_bool Wx_nil Wx_cons seqK_norm seqK_exit seqK_ret blockK_norm blockK_exit blockK_ret init_eq argσ_zero argσ_succ begin_zero begin_s
  ev_t ev_c ev_f upd_eq xop_p xop_l xop_l0 xop_r xop_rw xop_e xop_e0 xop_ec1 xop_ec2 xop_g stable_nil wants_eq wantT_bool wantT_un eop_call vals_nil vals_cons W_bind W_ite pop_mov pop_pick pop_nil_lp pop_nil_p pop_nil_f pop_bin pop_eqB pop_eqAgg pop_isNil_n pop_isNil_s pop_un pop_conv pop_mkFn pop_slice pop_faddr_lp pop_faddr_p pop_field pop_idx pop_extract pop_len pop_cap_k pop_cap_n pop_min pop_max pop_build lenV_s lenV_n natV_i unV_neg unV_not
  cells_int cells_bool cells_agg cells_slice cells_nils cells_ptr allCell_nil allCell_cons cell_int cell_bool cell_slice cell_nils cell_ptr binV_int idxV_s eop_store eop_new eop_append rop_load mkV_agg mkV_one
  resVs_nil resVs_cons resV_tmp tV_v finK_ret finK_norm upK_norm upK_exit upK_ret binI shI lop mop allDead_nil cut lay
end GL
