import Derived.Laws.Slices
import Derived.Test.YtflbkhbfbcbcoaaGlB
/- GL, a small deterministic machine: its definitions, and that its calls are calls of the program. -/
set_option linter.unusedSimpArgs false
set_option linter.unusedVariables false
set_option linter.unnecessarySimpa false
namespace GL
open Go
variable {P : Program} {w : World} {fid : Nat → FuncId} {ρ : Rho} {lam : Nat → Nat → Nat} {L : Nat → Nat × List V}

/-- what the model's '==' gives at a type whose cells are bools and numbers of the given kinds -/
structure EqOK (P : Program) (t : TypeId) (sh : List (Option IntKind)) : Prop where
  guard : P.eqGuardType P.depth t = false
  eq : ∀ (xs ys : List V) (vs us : Array Value) (r : Bool) (w : World) (fid : Nat → FuncId) (ρ : Rho), eqCells sh xs ys = some r → RVs fid ρ xs vs.toList → RVs fid ρ ys us.toList →
    (Op.equal t (.agg vs) (.agg us)).run P w = .ok r w

def elemP (P : Program) (t : TypeId) : Option TypeId := match P.underlying t with | some (.slice e) => some e | _ => none
def intP (P : Program) (t : TypeId) : Option IntKind := match P.underlying t with | some (.int k) => some k | _ => none
def boolP (P : Program) (t : TypeId) : Bool := match P.underlying t with | some .bool => true | _ => false
def fieldP (P : Program) (t : TypeId) (f : Nat) : Option Field := match P.underlying t with | some (.struct fs) => fs[f]? | _ => none

theorem elemP_eq {t e : TypeId} (h : elemP P t = some e) : P.underlying t = some (.slice e) := by
  unfold elemP at h; split at h
  · cases h; assumption
  · cases h
theorem intP_eq {t : TypeId} {k : IntKind} (h : intP P t = some k) : P.underlying t = some (.int k) := by
  unfold intP at h; split at h
  · cases h; assumption
  · cases h
theorem boolP_eq {t : TypeId} (h : boolP P t = true) : P.underlying t = some .bool := by
  unfold boolP at h; split at h
  · assumption
  · cases h
theorem fieldP_eq {t : TypeId} {f : Nat} {fl : Field} (h : fieldP P t f = some fl) : ∃ fs, P.underlying t = some (.struct fs) ∧ fs[f]? = some fl := by
  unfold fieldP at h; split at h
  · exact ⟨_, by assumption, h⟩
  · cases h

/-- the places of the parts of a struct -/
def placesMt (P : Program) (t : TypeId) : List (Nat × Operand) → List (Nat × Nat) → Bool
  | [], [] => true
  | (f, _) :: r, (off, n) :: pl => (match fieldP P t f with | some fl => fl.offset == off && sizeP P fl.type == some n | none => false) && placesMt P t r pl
  | _, _ => false

def allSized (P : Program) (t : TypeId) : Bool := match P.underlying t with | some (.struct fs) => fs.toList.all fun f => (sizeP P f.type).isSome | _ => false

def popMt (P : Program) (fid : Nat → FuncId) (eqs : List (TypeId × List (Option IntKind))) (op : Op) (o : POp) (args : List Opd) : Bool :=
  match o with
  | .mov => match op, args with
    | .move x, [a] | .assign x, [a] => opdMt fid x a
    | _, _ => false
  | .bad => true
  | .pick => match op, args with
    | .pick c x y, as => argsMt fid [c, x, y] as
    | _, _ => false
  | .nilCheck => match op, args with
    | .nilCheck x, as => argsMt fid [x] as
    | _, _ => false
  | .bin b => match op with
    | .binOp b' _ x y _ => b == b' && argsMt fid [x, y] args
    | _ => false
  | .eqB neg => match op with
    | .binOp b' t x y _ => b' == (if neg then .neq else .eql) && boolP P t && argsMt fid [x, y] args
    | _ => false
  | .eqAgg neg sh => match op with
    | .binOp b' t x y _ => b' == (if neg then .neq else .eql) && eqs.contains (t, sh) && argsMt fid [x, y] args
    | _ => false
  | .isNil neg => match op with
    | .binOp b' t x (.const (.slice none 0 0)) _ => b' == (if neg then .neq else .eql) && (elemP P t).isSome && argsMt fid [x] args
    | _ => false
  | .un u => match op with
    | .unOp u' _ x => u == u' && argsMt fid [x] args
    | _ => false
  | .conv k => match op with
    | .convert src dst x => (intP P src).isSome && intP P dst == some k && argsMt fid [x] args
    | _ => false
  | .mkFn f => match op with
    | .makeFunc (.func g) fst capt => fid f == g && fst.size == 0 && argsMt fid capt.toList args
    | _ => false
  | .slice k blo bhi bmx => match op with
    | .slice t x lo hi mx => (match elemP P t with | some e => sizeP P e == some k | none => false) && lo.isSome == blo && hi.isSome == bhi && mx.isSome == bmx &&
        argsMt fid (x :: (lo.toList ++ hi.toList ++ mx.toList)) args
    | _ => false
  | .faddr off => match op with
    | .fieldAddr t x f => (match fieldP P t f with | some fl => fl.offset == off && (match sizeP P fl.type with | some n => n != 0 | none => false) | none => false) && argsMt fid [x] args
    | _ => false
  | .field agg off k => match op with
    | .field t x f => (match fieldP P t f with | some fl => fl.offset == off && aggP P fl.type == some agg && sizeP P fl.type == some k && (agg || k == 1) | none => false) && argsMt fid [x] args
    | _ => false
  | .idx k => match op with
    | .indexAddr t x i => (match elemP P t with | some e => sizeP P e == some k | none => false) && argsMt fid [x, i] args
    | _ => false
  | .extract i => match op with
    | .extract x j => i == j && argsMt fid [x] args
    | _ => false
  | .len => match op with
    | .call { callee := .builtin .len, args := xs, argTypes := ts } => (match ts[0]? with | some t => (elemP P t).isSome | none => false) && argsMt fid xs.toList args
    | _ => false
  | .cap => match op with
    | .call { callee := .builtin .cap, args := xs, argTypes := ts } => (match ts[0]? with | some t => (elemP P t).isSome | none => false) && argsMt fid xs.toList args
    | _ => false
  | .min2 => match op with
    | .call { callee := .builtin .min, args := xs, .. } => argsMt fid xs.toList args
    | _ => false
  | .max2 => match op with
    | .call { callee := .builtin .max, args := xs, .. } => argsMt fid xs.toList args
    | _ => false
  | .build z pl => match op with
    | .build t parts => (match zeroP P t with | some (.agg zs) => csMt z zs.toList | _ => false) && allSized P t && placesMt P t parts.toList pl && argsMt fid (parts.toList.map (·.2)) args
    | _ => false

/-- an operation gives a value and leaves the world -/
def Gives (P : Program) (o : Oper) (a : Act) (w : World) (y : Value) : Prop := (execOp a.eval o).run P w = .ok (.value y) w

theorem gives_bind {o : Oper} {a : Act} {y : Value} {m : Sem Value} (he : execOp a.eval o = (do pure (.value (← m)) : Sem Next)) (hm : m.run P w = .ok y w) : Gives P o a w y := by
  unfold Gives; rw [he]; simp [hm]

theorem RTs.one {x : T} {ys : List Value} (h : RTs fid ρ lam L [x] ys) : ∃ y, ys = [y] ∧ RT fid ρ lam L x y := by
  cases h with | cons h t => cases t; exact ⟨_, rfl, h⟩
theorem RTs.two {x x' : T} {ys : List Value} (h : RTs fid ρ lam L [x, x'] ys) : ∃ y y', ys = [y, y'] ∧ RT fid ρ lam L x y ∧ RT fid ρ lam L x' y' := by
  cases h with | cons h t => obtain ⟨y', rfl, h'⟩ := t.one; exact ⟨_, _, rfl, h, h'⟩
theorem RTs.three {x x' x'' : T} {ys : List Value} (h : RTs fid ρ lam L [x, x', x''] ys) : ∃ y y' y'', ys = [y, y', y''] ∧ RT fid ρ lam L x y ∧ RT fid ρ lam L x' y' ∧ RT fid ρ lam L x'' y'' := by
  cases h with | cons h t => obtain ⟨y', y'', rfl, h'⟩ := t.two; exact ⟨_, _, _, rfl, h, h'⟩

section
variable {eqs : List (TypeId × List (Option IntKind))} {oper : Oper} {a : Act} {s : S} {x : T} {args : List Opd}

theorem sim_mov (h : popMt P fid eqs oper.op .mov args = true) (ht : ∀ i, RT fid ρ lam s.L (s.σ i) (a.tmps.getD i undef)) (hp : pop .mov (args.map s.ev) = some x) :
    ∃ y, Gives P oper a w y ∧ RT fid ρ lam s.L x y := by
  simp only [popMt] at h
  split at h
  all_goals first | (cases h; done) | skip
  all_goals
    rename_i x0 a0 hop
    have := opd_sound ht h
    simp [pop] at hp
    subst hp
    exact ⟨_, by unfold Gives; rw [execOp]; simp [hop], this⟩

theorem sim_pick (h : popMt P fid eqs oper.op .pick args = true) (ht : ∀ i, RT fid ρ lam s.L (s.σ i) (a.tmps.getD i undef)) (hp : pop .pick (args.map s.ev) = some x) :
    ∃ y, Gives P oper a w y ∧ RT fid ρ lam s.L x y := by
  simp only [popMt] at h
  split at h
  all_goals first | (cases h; done) | skip
  rename_i c x1 x2 hop
  have hs := args_sound ht h
  simp only [pop] at hp
  split at hp
  case h_2 => cases hp
  rename_i b _ _ heq
  rw [heq] at hs
  obtain ⟨y1, y2, y3, he, h1, h2, h3⟩ := hs.three
  simp at he
  obtain ⟨e1, e2, e3⟩ := he
  cases h1
  cases hp
  refine ⟨if b then y2 else y3, ?_, ?_⟩
  · unfold Gives; rw [execOp]; simp [hop, e1, e2, e3, asBool]
  · cases b <;> simp <;> assumption
end
end GL
namespace GL
open Go
variable {P : Program} {w : World} {fid : Nat → FuncId} {ρ : Rho} {lam : Nat → Nat → Nat} {L : Nat → Nat × List V}
variable {eqs : List (TypeId × List (Option IntKind))} {oper : Oper} {a : Act} {s : S} {x : T} {args : List Opd}

theorem sim_nilCheck (h : popMt P fid eqs oper.op .nilCheck args = true) (ht : ∀ i, RT fid ρ lam s.L (s.σ i) (a.tmps.getD i undef)) (hp : pop .nilCheck (args.map s.ev) = some x) :
    ∃ y, Gives P oper a w y ∧ RT fid ρ lam s.L x y := by
  simp only [popMt] at h
  split at h
  case h_2 => cases h
  rename_i x1 hop
  have hs := args_sound ht h
  simp only [pop] at hp
  split at hp
  case h_4 => cases hp
  all_goals
    rename_i heq
    rw [heq] at hs
    obtain ⟨y1, he, h1⟩ := hs.one
    simp at he
    cases hp
  · obtain ⟨g1, g2, rfl⟩ := h1
    exact ⟨_, by unfold Gives; rw [execOp]; simp [hop, he], g1, g2, rfl⟩
  · cases h1 with
    | ptr hb => exact ⟨_, by unfold Gives; rw [execOp]; simp [hop, he], .ptr hb⟩
  · cases h1 with
    | fn hb => exact ⟨_, by unfold Gives; rw [execOp]; simp [hop, he], .fn hb⟩

theorem eqGuard_int (op : BinOp) (t : TypeId) (x y : Operand) (k k' : IntKind) (n m : Int) : (eqGuard op t x y (.int k n) (.int k' m)).run P w = .ok () w := by
  unfold eqGuard; split <;> rfl
theorem eqGuard_bool (op : BinOp) (t : TypeId) (x y : Operand) (n m : Bool) : (eqGuard op t x y (.bool n) (.bool m)).run P w = .ok () w := by
  unfold eqGuard; split <;> rfl

theorem sim_bin {b : BinOp} (h : popMt P fid eqs oper.op (.bin b) args = true) (ht : ∀ i, RT fid ρ lam s.L (s.σ i) (a.tmps.getD i undef)) (hp : pop (.bin b) (args.map s.ev) = some x) :
    ∃ y, Gives P oper a w y ∧ RT fid ρ lam s.L x y := by
  simp only [popMt] at h
  split at h
  case h_2 => cases h
  rename_i b' t x1 x2 ty hop
  simp only [Bool.and_eq_true, beq_iff_eq] at h
  obtain ⟨rfl, h⟩ := h
  have hs := args_sound ht h
  simp only [pop] at hp
  split at hp
  case h_2 => cases hp
  rename_i u v heq
  rw [heq] at hs
  obtain ⟨y1, y2, he, h1, h2⟩ := hs.two
  simp at he
  obtain ⟨e1, e2⟩ := he
  simp only [Option.bind_eq_some_iff] at hp
  obtain ⟨r, hr, hx⟩ := hp
  cases hx
  unfold binV at hr
  split at hr
  case h_2 => cases hr
  rename_i k n k' m
  cases h1; cases h2
  have key : (binOp b t (.int k n) (.int k' m)).run P w = .ok (cvS r) w ∧ RV fid ρ r (cvS r) := by
    split at hr
    · rename_i hsh; exact run_shI hsh hr t
    · rename_i hsh
      split at hr
      · rename_i hk; subst hk; exact run_binI hsh hr t
      · cases hr
  exact ⟨cvS r, by unfold Gives; rw [execOp]; simp [hop, e1, e2, eqGuard_int, key.1], key.2⟩

theorem sim_eqB {neg : Bool} (h : popMt P fid eqs oper.op (.eqB neg) args = true) (ht : ∀ i, RT fid ρ lam s.L (s.σ i) (a.tmps.getD i undef)) (hp : pop (.eqB neg) (args.map s.ev) = some x) :
    ∃ y, Gives P oper a w y ∧ RT fid ρ lam s.L x y := by
  simp only [popMt] at h
  split at h
  case h_2 => cases h
  rename_i b' t x1 x2 ty hop
  simp only [Bool.and_eq_true, beq_iff_eq] at h
  obtain ⟨⟨rfl, hb⟩, h⟩ := h
  have hb := boolP_eq hb
  have hs := args_sound ht h
  simp only [pop] at hp
  split at hp
  case h_2 => cases hp
  rename_i u v heq
  rw [heq] at hs
  obtain ⟨y1, y2, he, h1, h2⟩ := hs.two
  simp at he
  obtain ⟨e1, e2⟩ := he
  cases h1; cases h2; cases hp
  refine ⟨.bool (if neg then u != v else u == v), ?_, .bool _⟩
  have key : (Op.equal t (.bool u) (.bool v)).run P w = .ok (u == v) w := by
    unfold Op.equal Op.maxDepth
    rw [Op.equalIn]; simp [underlying, hb]
  unfold Gives; rw [execOp]
  cases neg <;> simp [hop, e1, e2, eqGuard_bool, binOp, key, bne]

theorem sim_eqAgg {neg : Bool} {sh : List (Option IntKind)} (hE : ∀ t sh, (t, sh) ∈ eqs → EqOK P t sh) (h : popMt P fid eqs oper.op (.eqAgg neg sh) args = true) (ht : ∀ i, RT fid ρ lam s.L (s.σ i) (a.tmps.getD i undef)) (hp : pop (.eqAgg neg sh) (args.map s.ev) = some x) :
    ∃ y, Gives P oper a w y ∧ RT fid ρ lam s.L x y := by
  simp only [popMt] at h
  split at h
  case h_2 => cases h
  rename_i b' t x1 x2 ty hop
  simp only [Bool.and_eq_true, beq_iff_eq, List.contains_iff_mem] at h
  obtain ⟨⟨rfl, hb⟩, h⟩ := h
  have hE := hE t sh hb
  have hs := args_sound ht h
  simp only [pop] at hp
  split at hp
  case h_2 => cases hp
  rename_i u v heq
  rw [heq] at hs
  obtain ⟨y1, y2, he, h1, h2⟩ := hs.two
  simp at he
  obtain ⟨e1, e2⟩ := he
  simp only [Option.bind_eq_some_iff] at hp
  obtain ⟨r, hr, hx⟩ := hp
  cases hx
  cases h1 with
  | agg h1 =>
    rename_i vs1
    cases h2 with
    | agg h2 =>
      rename_i vs2
      have key := hE.eq u v vs1.toArray vs2.toArray r w fid ρ hr h1 h2
      refine ⟨.bool (if neg then !r else r), ?_, .bool _⟩
      have hg : (eqGuard (if neg then .neq else .eql) t x1 x2 (.agg vs1.toArray) (.agg vs2.toArray)).run P w = .ok () w := by
        unfold eqGuard
        cases neg <;> simp [hE.guard]
      unfold Gives; rw [execOp]
      cases neg <;> simp [hop, e1, e2, binOp] at hg ⊢ <;> simp [hg, key]

theorem sim_isNil {neg : Bool} (h : popMt P fid eqs oper.op (.isNil neg) args = true) (ht : ∀ i, RT fid ρ lam s.L (s.σ i) (a.tmps.getD i undef)) (hp : pop (.isNil neg) (args.map s.ev) = some x) :
    ∃ y, Gives P oper a w y ∧ RT fid ρ lam s.L x y := by
  simp only [popMt] at h
  split at h
  case h_2 => cases h
  rename_i b' t x1 ty hop
  simp only [Bool.and_eq_true, beq_iff_eq] at h
  obtain ⟨⟨rfl, hb⟩, h⟩ := h
  obtain ⟨e, he0⟩ := Option.isSome_iff_exists.1 hb
  have hb := elemP_eq he0
  have hs := args_sound ht h
  simp only [pop] at hp
  split at hp
  case h_3 => cases hp
  all_goals
    rename_i heq
    rw [heq] at hs
    obtain ⟨y1, he, h1⟩ := hs.one
    simp at he
    cases hp
    cases h1
  · refine ⟨_, ?_, .bool _⟩
    have key : (Op.equal t (.slice none 0 0) (.slice none 0 0)).run P w = .ok true w := by
      unfold Op.equal Op.maxDepth
      rw [Op.equalIn]; simp [underlying, hb]
    have hg : (eqGuard (if neg then .neq else .eql) t x1 (.const (.slice none 0 0)) (.slice none 0 0) (.slice none 0 0)).run P w = .ok () w := by unfold eqGuard; split <;> rfl
    have ec : a.eval (.const (.slice none 0 0)) = .slice none 0 0 := rfl
    unfold Gives; rw [execOp]
    cases neg <;> simp [hop, he, ec, binOp] at hg ⊢ <;> simp [hg, key]
  · rename_i b0 off0 len0 cap0 c0 A0 a0 hh1 hh2 hh3 hh4 hh5
    refine ⟨_, ?_, .bool _⟩
    have key : ∀ (A : Addr) (n c : Nat), (Op.equal t (.slice (some A) n c) (.slice none 0 0)).run P w = .ok false w := fun A n c => by
      unfold Op.equal Op.maxDepth
      rw [Op.equalIn]; simp [underlying, hb]
    have hg : ∀ (A : Addr) (n c : Nat), (eqGuard (if neg then .neq else .eql) t x1 (.const (.slice none 0 0)) (.slice (some A) n c) (.slice none 0 0)).run P w = .ok () w := fun A n c => by unfold eqGuard; split <;> rfl
    have ec : a.eval (.const (.slice none 0 0)) = .slice none 0 0 := rfl
    unfold Gives; rw [execOp]
    cases neg <;> simp [hop, he, ec, binOp] at hg ⊢ <;> simp [hg, key]
end GL
namespace GL
open Go
variable {P : Program} {w : World} {fid : Nat → FuncId} {ρ : Rho} {lam : Nat → Nat → Nat} {L : Nat → Nat × List V}
variable {eqs : List (TypeId × List (Option IntKind))} {oper : Oper} {a : Act} {s : S} {x : T} {args : List Opd}

theorem sim_un {u : UnOp} (h : popMt P fid eqs oper.op (.un u) args = true) (ht : ∀ i, RT fid ρ lam s.L (s.σ i) (a.tmps.getD i undef)) (hp : pop (.un u) (args.map s.ev) = some x) :
    ∃ y, Gives P oper a w y ∧ RT fid ρ lam s.L x y := by
  simp only [popMt] at h
  split at h
  case h_2 => cases h
  rename_i u' t x1 hop
  simp only [Bool.and_eq_true, beq_iff_eq] at h
  obtain ⟨rfl, h⟩ := h
  have hs := args_sound ht h
  simp only [pop] at hp
  split at hp
  case h_2 => cases hp
  rename_i v heq
  rw [heq] at hs
  obtain ⟨y1, he, h1⟩ := hs.one
  simp at he
  simp only [Option.bind_eq_some_iff] at hp
  obtain ⟨r, hr, hx⟩ := hp
  cases hx
  unfold unV at hr
  split at hr
  · cases h1; cases hr
    exact ⟨_, by unfold Gives; rw [execOp]; simp [hop, he, Op.unary, Op.intArith], .int _ _⟩
  · cases h1; cases hr
    exact ⟨_, by unfold Gives; rw [execOp]; simp [hop, he, Op.unary], .bool _⟩
  · cases hr

theorem sim_conv {k : IntKind} (h : popMt P fid eqs oper.op (.conv k) args = true) (ht : ∀ i, RT fid ρ lam s.L (s.σ i) (a.tmps.getD i undef)) (hp : pop (.conv k) (args.map s.ev) = some x) :
    ∃ y, Gives P oper a w y ∧ RT fid ρ lam s.L x y := by
  simp only [popMt] at h
  split at h
  case h_2 => cases h
  rename_i src dst x1 hop
  simp only [Bool.and_eq_true, beq_iff_eq] at h
  obtain ⟨⟨hs1, hd⟩, h⟩ := h
  obtain ⟨k1, hk1⟩ := Option.isSome_iff_exists.1 hs1
  have hk1 := intP_eq hk1
  have hd := intP_eq hd
  have hs := args_sound ht h
  simp only [pop] at hp
  split at hp
  case h_2 => cases hp
  rename_i k2 n heq
  rw [heq] at hs
  obtain ⟨y1, he, h1⟩ := hs.one
  simp at he
  cases hp
  cases h1
  exact ⟨_, by unfold Gives; rw [execOp]; simp [hop, he, convert, underlying, hk1, hd, Conv.intToInt], .int _ _⟩

theorem sim_mkFn {f : Nat} (h : popMt P fid eqs oper.op (.mkFn f) args = true) (ht : ∀ i, RT fid ρ lam s.L (s.σ i) (a.tmps.getD i undef)) (hp : pop (.mkFn f) (args.map s.ev) = some x) :
    ∃ y, Gives P oper a w y ∧ RT fid ρ lam s.L x y := by
  simp only [popMt] at h
  split at h
  case h_2 => cases h
  rename_i g fst capt hop
  simp only [Bool.and_eq_true, beq_iff_eq] at h
  obtain ⟨⟨rfl, hf⟩, h⟩ := h
  have hf : fst = #[] := by simpa using hf
  subst hf
  have hs := args_sound ht h
  simp only [pop, Option.bind_eq_some_iff] at hp
  obtain ⟨cs, hc, hx⟩ := hp
  cases hx
  refine ⟨_, ?_, .fn (vals_sound hs hc)⟩
  have hm : Array.map a.eval capt = (capt.toList.map a.eval).toArray := by apply Array.toList_inj.1; simp
  unfold Gives; rw [execOp]; simp [hop, Instr.makeFunc, hm]

theorem fieldPlace_run {fl : Field} {n g off : Nat} (hn : sizeP P fl.type = some n) (h0 : n ≠ 0) : (fieldPlace ⟨g, off, none⟩ fl).run P w = .ok ⟨g, off + fl.offset, none⟩ w := by
  unfold fieldPlace
  simp [run_sizeOf hn, h0, add_mk]

theorem sim_faddr {off : Nat} (h : popMt P fid eqs oper.op (.faddr off) args = true) (ht : ∀ i, RT fid ρ lam s.L (s.σ i) (a.tmps.getD i undef)) (hp : pop (.faddr off) (args.map s.ev) = some x) :
    ∃ y, Gives P oper a w y ∧ RT fid ρ lam s.L x y := by
  simp only [popMt] at h
  split at h
  case h_2 => cases h
  rename_i t x1 f hop
  simp only [Bool.and_eq_true] at h
  obtain ⟨hf, h⟩ := h
  split at hf
  case h_2 => cases hf
  rename_i fl hfl
  simp only [Bool.and_eq_true, beq_iff_eq] at hf
  obtain ⟨rfl, hf⟩ := hf
  split at hf
  case h_2 => cases hf
  rename_i n hn
  have hn0 : n ≠ 0 := by simpa using hf
  obtain ⟨fs, hu, hfs⟩ := fieldP_eq hfl
  have hs := args_sound ht h
  have key : ∀ g o, (Instr.fieldAt t (.pointer (some ⟨g, o, none⟩)) f).run P w = .ok (.pointer (some ⟨g, o + fl.offset, none⟩)) w := fun g o => by
    unfold Instr.fieldAt
    simp [underlying, hu, hfs, Instr.sureAddr, fieldPlace_run hn hn0]
  simp only [pop] at hp
  split at hp
  case h_3 => cases hp
  all_goals
    rename_i heq
    rw [heq] at hs
    obtain ⟨y1, he, h1⟩ := hs.one
    simp at he
    cases hp
  · obtain ⟨g1, g2, rfl⟩ := h1
    exact ⟨_, by unfold Gives; rw [execOp]; simp [hop, he, key], g1, g2, rfl⟩
  · cases h1 with
    | ptr hb => exact ⟨_, by unfold Gives; rw [execOp]; simp [hop, he, key, Nat.add_assoc], .ptr hb⟩

theorem mkV_sound {agg : Bool} {cs : List V} {vs : List Value} {x : V} (h : RVs fid ρ cs vs) (hx : mkV agg cs = some x) : RV fid ρ x (mkW agg vs) := by
  unfold mkV at hx
  cases agg with
  | true => simp at hx; subst hx; exact .agg h
  | false =>
    simp at hx
    split at hx
    · cases hx; cases h with | cons h1 h2 => cases h2; simpa [mkW] using h1
    · cases hx

theorem cut_sound {cs xs : List V} {vs : List Value} {off n : Nat} (h : RVs fid ρ cs vs) (hx : cut cs off n = some xs) : RVs fid ρ xs ((vs.drop off).take n) ∧ xs.length = n ∧ off + n ≤ vs.length := by
  unfold cut at hx
  split at hx
  · rename_i hle
    cases hx
    exact ⟨(h.drop off).take n, by simp; omega, by rw [← h.length]; exact hle⟩
  · cases hx

theorem sim_field {agg : Bool} {off k : Nat} (h : popMt P fid eqs oper.op (.field agg off k) args = true) (ht : ∀ i, RT fid ρ lam s.L (s.σ i) (a.tmps.getD i undef)) (hp : pop (.field agg off k) (args.map s.ev) = some x) :
    ∃ y, Gives P oper a w y ∧ RT fid ρ lam s.L x y := by
  simp only [popMt] at h
  split at h
  case h_2 => cases h
  rename_i t x1 f hop
  simp only [Bool.and_eq_true] at h
  obtain ⟨hf, h⟩ := h
  split at hf
  case h_2 => cases hf
  rename_i fl hfl
  simp only [Bool.and_eq_true, beq_iff_eq] at hf
  obtain ⟨⟨⟨rfl, ha⟩, hk⟩, h1k⟩ := hf
  obtain ⟨fs, hu, hfs⟩ := fieldP_eq hfl
  have hs := args_sound ht h
  simp only [pop] at hp
  split at hp
  case h_2 => cases hp
  rename_i cs heq
  rw [heq] at hs
  obtain ⟨y1, he, h1⟩ := hs.one
  simp at he
  simp only [Option.bind_eq_some_iff] at hp
  obtain ⟨xs, hxs, r, hr, hx⟩ := hp
  cases hx
  cases h1 with
  | agg h1 =>
    rename_i vs
    obtain ⟨hc1, hc2, hc3⟩ := cut_sound h1 hxs
    refine ⟨mkW agg ((vs.drop fl.offset).take k), ?_, mkV_sound hc1 hr⟩
    unfold Gives; rw [execOp]
    have key : (part fl.type vs.toArray fl.offset).run P w = .ok (mkW agg ((vs.drop fl.offset).take k)) w := by
      unfold part
      cases agg with
      | true => simp [run_isAgg ha, run_sizeOf hk, mkW, List.take_drop]
      | false =>
        simp at h1k; subst h1k
        have hlt : fl.offset < vs.length := by omega
        have hd : mkW false ((vs.drop fl.offset).take 1) = vs[fl.offset] := by rw [List.drop_eq_getElem_cons hlt]; rfl
        rw [hd]
        simp [run_isAgg ha, hlt]
    simp [hop, he, Instr.field, underlying, hu, hfs, asAgg, key]

theorem sim_idx {k : Nat} (h : popMt P fid eqs oper.op (.idx k) args = true) (ht : ∀ i, RT fid ρ lam s.L (s.σ i) (a.tmps.getD i undef)) (hp : pop (.idx k) (args.map s.ev) = some x) :
    ∃ y, Gives P oper a w y ∧ RT fid ρ lam s.L x y := by
  simp only [popMt] at h
  split at h
  case h_2 => cases h
  rename_i t x1 x2 hop
  simp only [Bool.and_eq_true] at h
  obtain ⟨hf, h⟩ := h
  split at hf
  case h_2 => cases hf
  rename_i e he0
  simp only [beq_iff_eq] at hf
  have hu := elemP_eq he0
  have hs := args_sound ht h
  simp only [pop] at hp
  split at hp
  case h_2 => cases hp
  rename_i u v heq
  rw [heq] at hs
  obtain ⟨y1, y2, he, h1, h2⟩ := hs.two
  simp at he
  obtain ⟨e1, e2⟩ := he
  simp only [Option.bind_eq_some_iff] at hp
  obtain ⟨r, hr, hx⟩ := hp
  cases hx
  unfold idxV at hr
  split at hr
  case h_2 => cases hr
  rename_i b off n cap k2 i
  split at hr
  case isFalse => cases hr
  rename_i hi
  cases hr
  cases h2
  cases h1 with
  | slice hb hl hc1 hc2 hA =>
    rename_i c a1 A
    have hc0 : c ≠ 0 := by omega
    have hA := hA hc0
    subst hA
    refine ⟨_, ?_, by have := RV.ptr (fid := fid) (off := off + i.toNat * k) hb; exact this⟩
    unfold Gives; rw [execOp]
    simp [hop, e1, e2, Instr.indexAt, asIntOf, underlying, hu, hi, run_sizeOf hf, add_mk, Nat.add_assoc]

theorem sim_extract {i : Nat} (h : popMt P fid eqs oper.op (.extract i) args = true) (ht : ∀ i, RT fid ρ lam s.L (s.σ i) (a.tmps.getD i undef)) (hp : pop (.extract i) (args.map s.ev) = some x) :
    ∃ y, Gives P oper a w y ∧ RT fid ρ lam s.L x y := by
  simp only [popMt] at h
  split at h
  case h_2 => cases h
  rename_i x1 j hop
  simp only [Bool.and_eq_true, beq_iff_eq] at h
  obtain ⟨rfl, h⟩ := h
  have hs := args_sound ht h
  simp only [pop] at hp
  split at hp
  case h_2 => cases hp
  rename_i vs heq
  rw [heq] at hs
  obtain ⟨y1, he, h1⟩ := hs.one
  simp at he
  simp only [Option.bind_eq_some_iff] at hp
  obtain ⟨r, hr, hx⟩ := hp
  cases hx
  cases h1 with
  | tup h1 =>
    obtain ⟨y, hy, hry⟩ := h1.get hr
    exact ⟨y, by unfold Gives; rw [execOp]; simp [hop, he, Instr.extract, hy], hry⟩

theorem lenV_sound {x : V} {y : Value} {n : Nat} (h : RV fid ρ x y) (hn : lenV x = some n) : ∃ A c, y = .slice A n c := by
  unfold lenV at hn
  split at hn
  · cases hn; cases h; exact ⟨_, _, rfl⟩
  · cases hn; cases h; exact ⟨_, _, rfl⟩
  · cases hn

theorem sim_len (h : popMt P fid eqs oper.op .len args = true) (ht : ∀ i, RT fid ρ lam s.L (s.σ i) (a.tmps.getD i undef)) (hp : pop .len (args.map s.ev) = some x) :
    ∃ y, Gives P oper a w y ∧ RT fid ρ lam s.L x y := by
  simp only [popMt] at h
  split at h
  case h_2 => cases h
  rename_i xs ts hop
  simp only [Bool.and_eq_true] at h
  obtain ⟨hf, h⟩ := h
  split at hf
  case h_2 => cases hf
  rename_i t ht0
  obtain ⟨e, he0⟩ := Option.isSome_iff_exists.1 hf
  have hu := elemP_eq he0
  have hs := args_sound ht h
  simp only [pop] at hp
  split at hp
  case h_2 => cases hp
  rename_i u heq
  rw [heq] at hs
  obtain ⟨y1, he, h1⟩ := hs.one
  simp only [Option.bind_eq_some_iff] at hp
  obtain ⟨n, hn, hx⟩ := hp
  cases hx
  obtain ⟨A, c, rfl⟩ := lenV_sound h1 hn
  have hx0 : xs.map a.eval = #[.slice A n c] := by apply Array.toList_inj.1; simpa using he
  refine ⟨_, ?_, .int _ _⟩
  have hx1 : (Array.map a.eval xs)[0]? = some (.slice A n c) := by rw [hx0]; rfl
  unfold Gives; rw [execOp]; simp [hop, resolve, invoke, builtin, Builtin.len_, ht0, underlying, hu, goInt, hx0]

theorem sim_cap (h : popMt P fid eqs oper.op .cap args = true) (ht : ∀ i, RT fid ρ lam s.L (s.σ i) (a.tmps.getD i undef)) (hp : pop .cap (args.map s.ev) = some x) :
    ∃ y, Gives P oper a w y ∧ RT fid ρ lam s.L x y := by
  simp only [popMt] at h
  split at h
  case h_2 => cases h
  rename_i xs ts hop
  simp only [Bool.and_eq_true] at h
  obtain ⟨hf, h⟩ := h
  split at hf
  case h_2 => cases hf
  rename_i t ht0
  obtain ⟨e, he0⟩ := Option.isSome_iff_exists.1 hf
  have hu := elemP_eq he0
  have hs := args_sound ht h
  simp only [pop] at hp
  split at hp
  case h_3 => cases hp
  all_goals
    rename_i heq
    rw [heq] at hs
    obtain ⟨y1, he, h1⟩ := hs.one
    cases hp
  · cases h1 with
    | slice hb hl hc1 hc2 hA =>
      rename_i c a1 A
      have := hc1 _ rfl
      subst this
      obtain ⟨m, hx0⟩ : ∃ m, xs.map a.eval = #[.slice (some A) m c] := ⟨_, by apply Array.toList_inj.1; simpa using he⟩
      refine ⟨_, ?_, .int _ _⟩
      unfold Gives; rw [execOp]; simp [hop, resolve, invoke, builtin, Builtin.cap_, ht0, underlying, hu, goInt, hx0]
  · cases h1
    have hx0 : xs.map a.eval = #[.slice none 0 0] := by apply Array.toList_inj.1; simpa using he
    refine ⟨_, ?_, .int _ _⟩
    unfold Gives; rw [execOp]; simp [hop, resolve, invoke, builtin, Builtin.cap_, ht0, underlying, hu, goInt, hx0]
end GL
namespace GL
open Go
variable {P : Program} {w : World} {fid : Nat → FuncId} {ρ : Rho} {lam : Nat → Nat → Nat} {L : Nat → Nat × List V}
variable {eqs : List (TypeId × List (Option IntKind))} {oper : Oper} {a : Act} {s : S} {x : T} {args : List Opd}

def BV : Option Value → Option Nat → Prop
  | none, none => True
  | some v, some n => ∃ k i, v = .int k i ∧ 0 ≤ i ∧ i.toNat = n
  | _, _ => False

theorem natV_sound {x : V} {y : Value} {n : Nat} (h : RV fid ρ x y) (hn : natV x = some n) : BV (some y) (some n) := by
  unfold natV at hn
  split at hn
  · split at hn
    · cases hn; cases h; exact ⟨_, _, rfl, by assumption, rfl⟩
    · cases hn
  · cases hn

theorem run_sliceBound' {v : Value} {n y : Nat} {code : BoundsCode} (h : BV (some v) (some n)) (hy : n ≤ y) : (Instr.sliceBound v y code).run P w = .ok n w := by
  obtain ⟨k, i, rfl, h0, rfl⟩ := h
  unfold Instr.sliceBound
  simp [asIntOf, h0, show i ≤ y by omega]

theorem run_bounds {len cap : Nat} {lo hi mx : Option Value} {l h m : Option Nat} (hl : BV lo l) (hh : BV hi h) (hm : BV mx m) (hmh : mx.isSome = true → hi.isSome = true)
    (h1 : l.getD 0 ≤ h.getD len) (h2 : h.getD len ≤ m.getD cap) (h3 : m.getD cap ≤ cap) :
    (Instr.sliceBounds true len cap lo hi mx).run P w = .ok (l.getD 0, h.getD len, m.getD cap) w := by
  unfold Instr.sliceBounds
  have e1 : ∀ code, (match mx with | some v => Instr.sliceBound v cap code | none => pure cap : Sem Nat).run P w = .ok (m.getD cap) w := fun code => by
    cases mx <;> cases m <;> simp [BV] at hm ⊢
    exact run_sliceBound' hm h3
  cases mx with
  | none =>
    cases m <;> simp [BV] at hm
    have e2 : (match hi with | some v => Instr.sliceBound v cap (if true = true then BoundsCode.sliceAcap else .sliceAlen) | none => pure len : Sem Nat).run P w = .ok (h.getD len) w := by
      cases hi <;> cases h <;> simp [BV] at hh ⊢
      exact run_sliceBound' hh h2
    have e3 : ∀ code, (match lo with | some v => Instr.sliceBound v (h.getD len) code | none => pure 0 : Sem Nat).run P w = .ok (l.getD 0) w := fun code => by
      cases lo <;> cases l <;> simp [BV] at hl ⊢
      exact run_sliceBound' hl h1
    cases hi <;> cases h <;> simp [BV] at hh
    · cases lo <;> cases l <;> simp [BV] at hl
      · simp
      · have := run_sliceBound' (P := P) (w := w) (code := .sliceB) hl h1
        simp at this ⊢; simp [this]
    · have a1 := run_sliceBound' (P := P) (w := w) (code := .sliceAcap) hh h2
      cases lo <;> cases l <;> simp [BV] at hl
      · simp at a1 ⊢; simp [a1]
      · have := run_sliceBound' (P := P) (w := w) (code := .sliceB) hl h1
        simp at this a1 ⊢; simp [this, a1]
  | some v =>
    cases m with
    | none => simp [BV] at hm
    | some m =>
      have a0 := run_sliceBound' (P := P) (w := w) (code := .slice3Acap) hm h3
      cases hi with
      | none => simp at hmh
      | some v2 =>
        cases h with
        | none => simp [BV] at hh
        | some h =>
          have a1 := run_sliceBound' (P := P) (w := w) (code := .slice3B) hh h2
          cases lo <;> cases l <;> simp [BV] at hl
          · simp at a0 a1 ⊢; simp [a0, a1]
          · have := run_sliceBound' (P := P) (w := w) (code := .slice3C) hl h1
            simp at this a0 a1 ⊢; simp [this, a0, a1]

theorem takeB_sound {o : Option Operand} {rest : List Operand} {xs : List V} {r : Option Nat × List V} (hs : RVs fid ρ xs ((o.toList ++ rest).map a.eval)) (ht : takeB o.isSome xs = some r) :
    BV (o.map a.eval) r.1 ∧ RVs fid ρ r.2 (rest.map a.eval) := by
  cases o with
  | none => simp [takeB] at ht; subst ht; exact ⟨trivial, by simpa using hs⟩
  | some x =>
    cases xs with
    | nil => simp [takeB] at ht
    | cons v xs =>
      simp only [Option.isSome_some, takeB, Option.bind_eq_some_iff] at ht
      obtain ⟨n, hn, hx⟩ := ht
      cases hx
      simp at hs
      cases hs with
      | cons h t => exact ⟨natV_sound h hn, by simpa using t⟩

theorem bounds_sound {lo hi mx : Option Operand} {as : List T} {b : Option Nat × Option Nat × Option Nat}
    (hs : RTs fid ρ lam L as ((lo.toList ++ (hi.toList ++ mx.toList)).map a.eval)) (hb : bounds lo.isSome hi.isSome mx.isSome as = some b) :
    BV (lo.map a.eval) b.1 ∧ BV (hi.map a.eval) b.2.1 ∧ BV (mx.map a.eval) b.2.2 ∧ (mx.isSome = true → hi.isSome = true) := by
  unfold bounds at hb
  simp only [Option.bind_eq_some_iff] at hb
  obtain ⟨xs, hx, l, hl, h, hh, m, hm, hb⟩ := hb
  split at hb
  · cases hb
  · rename_i hno
    cases hb
    have h0 := vals_sound hs hx
    obtain ⟨h1, h0⟩ := takeB_sound h0 hl
    obtain ⟨h2, h0⟩ := takeB_sound h0 hh
    have h0' : RVs fid ρ h.2 ((mx.toList ++ []).map a.eval) := by simpa using h0
    obtain ⟨h3, _⟩ := takeB_sound h0' hm
    refine ⟨h1, h2, h3, fun h => ?_⟩
    cases hi <;> simp_all

theorem sim_slice {k : Nat} {blo bhi bmx : Bool} (h : popMt P fid eqs oper.op (.slice k blo bhi bmx) args = true) (ht : ∀ i, RT fid ρ lam s.L (s.σ i) (a.tmps.getD i undef)) (hp : pop (.slice k blo bhi bmx) (args.map s.ev) = some x) :
    ∃ y, Gives P oper a w y ∧ RT fid ρ lam s.L x y := by
  simp only [popMt] at h
  split at h
  case h_2 => cases h
  rename_i t x1 lo hi mx hop
  simp only [Bool.and_eq_true, beq_iff_eq] at h
  obtain ⟨⟨⟨⟨hf, rfl⟩, rfl⟩, rfl⟩, h⟩ := h
  split at hf
  case h_2 => cases hf
  rename_i e he0
  simp only [beq_iff_eq] at hf
  have hu := elemP_eq he0
  have hs := args_sound ht h
  simp only [pop] at hp
  split at hp
  case h_2 => cases hp
  rename_i u as heq
  rw [heq] at hs
  simp only [List.map_cons, List.append_assoc] at hs
  cases hs with
  | cons h1 hs =>
    simp only [Option.bind_eq_some_iff] at hp
    obtain ⟨b, hb, r, hr, hx⟩ := hp
    cases hx
    obtain ⟨b1, b2, b3, b4⟩ := bounds_sound hs hb
    have b4' : (mx.map a.eval).isSome = true → (hi.map a.eval).isSome = true := by simpa using b4
    have key : ∀ (A : Option Addr) (n c : Nat), a.eval x1 = .slice A n c → b.1.getD 0 ≤ b.2.1.getD n → b.2.1.getD n ≤ b.2.2.getD c → b.2.2.getD c ≤ c →
        Gives P oper a w (.slice (if b.2.2.getD c = b.1.getD 0 then A else A.map (·.add (b.1.getD 0 * k))) (b.2.1.getD n - b.1.getD 0) (b.2.2.getD c - b.1.getD 0)) := fun A n c hA q1 q2 q3 => by
      unfold Gives; rw [execOp]
      have := run_bounds (P := P) (w := w) b1 b2 b3 b4' q1 q2 q3
      simp [hop, hA, Instr.sliceAt, underlying, hu, Instr.slice, this, run_sizeOf hf]
    unfold slcV at hr
    split at hr
    · -- nil
      generalize hev : a.eval x1 = y at h1
      cases h1
      split at hr
      case isFalse => cases hr
      rename_i hc
      cases hr
      obtain ⟨c1, c2, c3⟩ := hc
      have := key none 0 0 hev (by omega) (by omega) (by omega)
      refine ⟨_, this, ?_⟩
      simp [c1, c2, c3]
      exact .nils
    · -- known
      rename_i bb off n c
      split at hr
      case isFalse => cases hr
      rename_i hc
      cases hr
      obtain ⟨c1, c2, c3⟩ := hc
      generalize hev : a.eval x1 = y at h1
      cases h1 with
      | slice g1 g2 g3 g4 g5 =>
        rename_i c' at' A
        have := g3 _ rfl
        subst this
        refine ⟨_, key _ _ _ hev c1 c2 c3, ?_⟩
        have hres : RV fid ρ (.slice bb (if b.2.2.getD c' = b.1.getD 0 then off else off + b.1.getD 0 * k) (b.2.1.getD n - b.1.getD 0) (.k (b.2.2.getD c' - b.1.getD 0)))
            (.slice (some (if b.2.2.getD c' = b.1.getD 0 then A else A.add (b.1.getD 0 * k))) (b.2.1.getD n - b.1.getD 0) (b.2.2.getD c' - b.1.getD 0)) := by
          refine .slice g1 (by omega) (fun c0 h => by cases h; rfl) (fun k' h => by cases h) (fun hne => ?_)
          have : ¬ b.2.2.getD c' = b.1.getD 0 := by omega
          rw [if_neg this, if_neg this, g5 (by omega), add_mk, Nat.add_assoc]
        have e : (if b.2.2.getD c' = b.1.getD 0 then some A else Option.map (fun x => x.add (b.1.getD 0 * k)) (some A)) = some (if b.2.2.getD c' = b.1.getD 0 then A else A.add (b.1.getD 0 * k)) := by
          split <;> rfl
        rw [e]; exact hres
    · -- open
      rename_i bb off n k'
      generalize hev : a.eval x1 = y at h1
      split at hr
      · rename_i m hm
        split at hr
        case isFalse => cases hr
        rename_i hc
        cases hr
        obtain ⟨c1, c2, c3⟩ := hc
        cases h1 with
        | slice g1 g2 g3 g4 g5 =>
          rename_i c' at' A
          refine ⟨_, key _ _ _ hev c1 (by rw [hm]; exact c2) (by rw [hm]; simp; omega), ?_⟩
          rw [hm]
          have hres : RV fid ρ (.slice bb (if m = b.1.getD 0 then off else off + b.1.getD 0 * k) (b.2.1.getD n - b.1.getD 0) (.k (m - b.1.getD 0)))
              (.slice (some (if m = b.1.getD 0 then A else A.add (b.1.getD 0 * k))) (b.2.1.getD n - b.1.getD 0) (m - b.1.getD 0)) := by
            refine .slice g1 (by omega) (fun c0 h => by cases h; rfl) (fun k' h => by cases h) (fun hne => ?_)
            have : ¬ m = b.1.getD 0 := by omega
            rw [if_neg this, if_neg this, g5 (by omega), add_mk, Nat.add_assoc]
          have e : (if m = b.1.getD 0 then some A else Option.map (fun x => x.add (b.1.getD 0 * k)) (some A)) = some (if m = b.1.getD 0 then A else A.add (b.1.getD 0 * k)) := by
            split <;> rfl
          simp only [Option.getD_some]
          rw [e]; exact hres
      · rename_i hm
        split at hr
        case isFalse => cases hr
        rename_i hc
        cases hr
        obtain ⟨rfl, c1, c2⟩ := hc
        cases h1 with
        | slice g1 g2 g3 g4 g5 =>
          rename_i c' at' A
          obtain ⟨k0, hsz⟩ := g4 _ rfl
          refine ⟨_, key _ _ _ hev c1 (by rw [hm]; simp; omega) (by rw [hm]; simp), ?_⟩
          rw [hm]
          have hres : RV fid ρ (.slice bb (off + b.1.getD 0 * k') (b.2.1.getD n - b.1.getD 0) (.o k'))
              (.slice (some (if c' = b.1.getD 0 then A else A.add (b.1.getD 0 * k'))) (b.2.1.getD n - b.1.getD 0) (c' - b.1.getD 0)) := by
            refine .slice g1 (by omega) (fun c0 h => by cases h) (fun k' h => by
              cases h
              refine ⟨k0, ?_⟩
              have : c' = b.1.getD 0 + (c' - b.1.getD 0) := by omega
              rw [← hsz]
              conv => rhs; rw [this, Nat.add_mul]
              omega) (fun hne => ?_)
            have : ¬ c' = b.1.getD 0 := by omega
            rw [if_neg this, g5 (by omega), add_mk, Nat.add_assoc]
          have e : (if c' = b.1.getD 0 then some A else Option.map (fun x => x.add (b.1.getD 0 * k')) (some A)) = some (if c' = b.1.getD 0 then A else A.add (b.1.getD 0 * k')) := by
            split <;> rfl
          simp only [Option.getD_none]
          rw [e]; exact hres
    · cases hr
end GL
namespace GL
open Go
variable {P : Program} {w : World} {fid : Nat → FuncId} {ρ : Rho} {lam : Nat → Nat → Nat} {L : Nat → Nat × List V}
variable {eqs : List (TypeId × List (Option IntKind))} {oper : Oper} {a : Act} {s : S} {x : T} {args : List Opd}

theorem sim_min (h : popMt P fid eqs oper.op .min2 args = true) (ht : ∀ i, RT fid ρ lam s.L (s.σ i) (a.tmps.getD i undef)) (hp : pop .min2 (args.map s.ev) = some x) :
    ∃ y, Gives P oper a w y ∧ RT fid ρ lam s.L x y := by
  simp only [popMt] at h
  split at h
  case h_2 => cases h
  rename_i xs ts hop
  have hs := args_sound ht h
  simp only [pop] at hp
  split at hp
  case h_2 => cases hp
  rename_i k u k' v heq
  rw [heq] at hs
  obtain ⟨y1, y2, he, h1, h2⟩ := hs.two
  split at hp
  case isFalse => cases hp
  rename_i hk; subst hk
  cases hp; cases h1; cases h2
  have hx0 : xs.map a.eval = #[.int k u, .int k v] := by apply Array.toList_inj.1; simpa using he
  refine ⟨_, ?_, .int _ _⟩
  unfold Gives; rw [execOp]; simp [hop, resolve, invoke, builtin, Builtin.min_, Builtin.min2, hx0]

theorem sim_max (h : popMt P fid eqs oper.op .max2 args = true) (ht : ∀ i, RT fid ρ lam s.L (s.σ i) (a.tmps.getD i undef)) (hp : pop .max2 (args.map s.ev) = some x) :
    ∃ y, Gives P oper a w y ∧ RT fid ρ lam s.L x y := by
  simp only [popMt] at h
  split at h
  case h_2 => cases h
  rename_i xs ts hop
  have hs := args_sound ht h
  simp only [pop] at hp
  split at hp
  case h_2 => cases hp
  rename_i k u k' v heq
  rw [heq] at hs
  obtain ⟨y1, y2, he, h1, h2⟩ := hs.two
  split at hp
  case isFalse => cases hp
  rename_i hk; subst hk
  cases hp; cases h1; cases h2
  have hx0 : xs.map a.eval = #[.int k u, .int k v] := by apply Array.toList_inj.1; simpa using he
  refine ⟨_, ?_, .int _ _⟩
  unfold Gives; rw [execOp]; simp [hop, resolve, invoke, builtin, Builtin.max_, Builtin.max2, hx0]

theorem mapM_run {α β : Type} (f : α → Sem β) (g : α → β) (w : World) : ∀ (l : List α), (∀ x ∈ l, (f x).run P w = .ok (g x) w) → (l.mapM f).run P w = .ok (l.map g) w := by
  intro l
  induction l with
  | nil => intro _; simp
  | cons x l ih =>
    intro h
    simp [List.mapM_cons, h x (List.mem_cons_self ..), ih (fun y hy => h y (List.mem_cons_of_mem _ hy))]

theorem fold_set (xs : List Value) : ∀ (i : Nat) (off : Nat) (cs : Array Value), off + i + xs.length ≤ cs.size →
    ((xs.zipIdx i).foldl (fun cs (p : Value × Nat) => cs.setIfInBounds (off + p.2) p.1) cs) = layA cs (off + i) xs := by
  induction xs with
  | nil => intro i off cs _; simp [layA_nil]
  | cons x xs ih =>
    intro i off cs h
    simp only [List.zipIdx_cons, List.foldl_cons]
    rw [ih (i + 1) off _ (by simp at h ⊢; omega)]
    exact layA_cons (by simp at h ⊢; omega)

theorem lay_sound {cs xs cs' : List V} {vs us : List Value} {off : Nat} (h : RVs fid ρ cs vs) (hx : RVs fid ρ xs us) (hl : lay cs off xs = some cs') :
    RVs fid ρ cs' (layA vs.toArray off us).toList ∧ off + us.length ≤ vs.length := by
  unfold lay at hl
  split at hl
  · rename_i hle
    cases hl
    rw [hx.length] at hle ⊢
    rw [h.length] at hle
    refine ⟨?_, hle⟩
    simp only [layA]
    exact ((h.take off).append hx).append (h.drop _)
  · cases hl

theorem cells_eq {y : Value} : y.cells.toList.toArray = y.cells := by simp

theorem sim_build {z : List V} {pl : List (Nat × Nat)} (h : popMt P fid eqs oper.op (.build z pl) args = true) (ht : ∀ i, RT fid ρ lam s.L (s.σ i) (a.tmps.getD i undef)) (hp : pop (.build z pl) (args.map s.ev) = some x) :
    ∃ y, Gives P oper a w y ∧ RT fid ρ lam s.L x y := by
  simp only [popMt] at h
  split at h
  case h_2 => cases h
  rename_i t parts hop
  simp only [Bool.and_eq_true] at h
  obtain ⟨⟨⟨hz, hsz⟩, hpl⟩, h⟩ := h
  split at hz
  case h_2 => cases hz
  rename_i zs hzs
  have hs := args_sound ht h
  simp only [pop, Option.bind_eq_some_iff] at hp
  obtain ⟨cs, hcs, hx⟩ := hp
  cases hx
  unfold allSized at hsz
  split at hsz
  case h_2 => cases hsz
  rename_i fs hu
  -- the places of all fields
  let g : Field → Nat × Nat := fun f => (f.offset, (sizeP P f.type).getD 0)
  have hpl0 : (fs.mapM (fun f => do pure (f.offset, ← Go.sizeOf f.type)) : Sem (Array (Nat × Nat))).run P w = .ok (fs.map g) w := by
    rw [← Array.toArray_toList (xs := fs), List.mapM_toArray]
    simp only [Sem.run_map]
    have hm : (fs.toList.map g).toArray = fs.map g := by apply Array.toList_inj.1; simp
    rw [mapM_run (P := P) _ g w fs.toList]
    · simp [hm]
    · intro f hf
      have := List.all_eq_true.1 hsz f hf
      obtain ⟨n, hn⟩ := Option.isSome_iff_exists.1 this
      simp [run_sizeOf hn, g, hn]
  have key : ∀ (ps : List (Nat × Operand)) (pl : List (Nat × Nat)) (as : List T) (cs cs' : List V) (vs : List Value), placesMt P t ps pl = true →
      RTs fid ρ lam s.L as ((ps.map (·.2)).map a.eval) → RVs fid ρ cs vs → fillL cs pl as = some cs' →
      ∃ us, Instr.fill ((fs.map g)[·]?) vs.toArray (ps.map fun p => (p.1, a.eval p.2)) = some us ∧ RVs fid ρ cs' us.toList := by
    intro ps
    induction ps with
    | nil =>
      intro pl as cs cs' vs hp hs hr hf
      cases pl with
      | cons => simp [placesMt] at hp
      | nil =>
        simp at hs; cases hs
        simp [fillL] at hf; subst hf
        exact ⟨vs.toArray, by simp [Instr.fill], by simpa using hr⟩
    | cons p ps ih =>
      intro pl as cs cs' vs hp hs hr hf
      obtain ⟨f, op⟩ := p
      cases pl with
      | nil => simp [placesMt] at hp
      | cons q pl =>
        obtain ⟨off, n⟩ := q
        simp only [placesMt, Bool.and_eq_true] at hp
        obtain ⟨hq, hp⟩ := hp
        split at hq
        case h_2 => cases hq
        rename_i fl hfl
        simp only [Bool.and_eq_true, beq_iff_eq] at hq
        obtain ⟨rfl, hn⟩ := hq
        obtain ⟨fs', hu', hfs⟩ := fieldP_eq hfl
        rw [hu] at hu'; cases hu'
        simp only [List.map_cons] at hs
        cases hs with
        | cons h1 hs =>
          rename_i x1 xs1
          cases x1 with
          | lp => simp [fillL] at hf
          | v x1 =>
            simp only [fillL] at hf
            split at hf
            case isFalse => cases hf
            rename_i hc
            simp only [Option.bind_eq_some_iff] at hf
            obtain ⟨cs1, hl1, hf⟩ := hf
            have hcell := RV.cells h1
            obtain ⟨hr1, hle⟩ := lay_sound hr hcell hl1
            have hsize : (a.eval op).cells.size = n := by
              have := hcell.length; simp at this; omega
            obtain ⟨us, hus, hrus⟩ := ih pl xs1 cs1 cs' _ hp hs hr1 hf
            refine ⟨us, ?_, hrus⟩
            have hgf : (fs.map g)[f]? = some (fl.offset, n) := by simp [hfs, g, hn]
            simp only [List.map_cons, Instr.fill, hgf, hsize]
            have hle' : ¬ (fl.offset + n > vs.toArray.size) := by simp at hle ⊢; omega
            rw [if_neg (by simp at hle' ⊢; omega)]
            have hfold := fold_set (a.eval op).cells.toList 0 fl.offset vs.toArray (by simp at hle ⊢; omega)
            rw [← Array.foldl_toList, Array.toList_zipIdx]
            simp only [Nat.add_zero] at hfold
            rw [hfold]
            simpa using hus
  have hz0 : RVs fid ρ z zs.toList := csMt_sound hz
  obtain ⟨us, hus, hru⟩ := key parts.toList pl _ z cs zs.toList hpl hs hz0 hcs
  have hrun : (Instr.build t (parts.map fun p => (p.1, a.eval p.2))).run P w = .ok (.agg us) w := by
    unfold Instr.build
    simp only [Sem.run_bind, run_zeroValue hzs, Result.andThen_ok, underlying, run_program, hu]
    have hpp : (parts.map fun p => (p.1, a.eval p.2)).toList = parts.toList.map fun p => (p.1, a.eval p.2) := by simp
    simp only [Sem.run_bind, Sem.run_pure, Result.andThen_ok, hpl0, hpp]
    simp only [Value.cells]
    have hus' : Instr.fill ((fs.map g)[·]?) zs (parts.toList.map fun p => (p.1, a.eval p.2)) = some us := by simpa using hus
    simp only [hus']
    rfl
  refine ⟨.agg us, ?_, ?_⟩
  · unfold Gives; rw [execOp]
    simp only [hop, Sem.run_bind, hrun]; rfl
  · have := RV.agg (fid := fid) (ρ := ρ) hru
    simpa [RT] using this

theorem popSim {o : POp} (hE : ∀ t sh, (t, sh) ∈ eqs → EqOK P t sh) (h : popMt P fid eqs oper.op o args = true) (ht : ∀ i, RT fid ρ lam s.L (s.σ i) (a.tmps.getD i undef)) (hp : pop o (args.map s.ev) = some x) :
    ∃ y, Gives P oper a w y ∧ RT fid ρ lam s.L x y := by
  cases o with
  | mov => exact sim_mov h ht hp
  | pick => exact sim_pick h ht hp
  | bad => simp [pop] at hp
  | nilCheck => exact sim_nilCheck h ht hp
  | bin => exact sim_bin h ht hp
  | eqB => exact sim_eqB h ht hp
  | eqAgg => exact sim_eqAgg hE h ht hp
  | isNil => exact sim_isNil h ht hp
  | un => exact sim_un h ht hp
  | conv => exact sim_conv h ht hp
  | mkFn => exact sim_mkFn h ht hp
  | slice => exact sim_slice h ht hp
  | faddr => exact sim_faddr h ht hp
  | field => exact sim_field h ht hp
  | idx => exact sim_idx h ht hp
  | extract => exact sim_extract h ht hp
  | len => exact sim_len h ht hp
  | cap => exact sim_cap h ht hp
  | min2 => exact sim_min h ht hp
  | max2 => exact sim_max h ht hp
  | build => exact sim_build h ht hp
end GL
namespace GL
open Go
variable {P : Program} {E : Env} {ρ : Rho} {lam : Nat → Nat → Nat} {s : S} {a : Act} {w : World} {oper : Oper} {args : List Opd}

/-- an operation ends with a value (or with none: the mark 'undef' then) -/
def Outs (P : Program) (o : Oper) (a : Act) (w : World) (y : Value) (w' : World) : Prop :=
  (execOp a.eval o).run P w = .ok (.value y) w' ∨ (execOp a.eval o).run P w = .ok .skip w' ∧ y = undef

theorem Outs.wp {o : Oper} {y : Value} {w' : World} {K : Act → World → Prop} {Q : Exit → Act → World → Prop} (h : Outs P o a w y w') (hk : K (a.put o.dst y) w') : o.wp P a w K Q := by
  unfold Oper.wp
  rcases h with h | ⟨h, rfl⟩
  · rw [h]; exact hk
  · rw [h]; exact hk

def lopMt (P : Program) (fid : Nat → FuncId) (op : Op) (dst : Option Tmp) (o : LOp) (args : List Opd) : Bool :=
  match o with
  | .alloc t zs => match op with
    | .alloc T => dst == some t && args.isEmpty && (match zeroP P T with | some z => csMt zs z.cells.toList | none => false)
    | _ => false
  | .box t _ => match op with
    | .box _ x => dst == some t && argsMt fid [x] args
    | _ => false
  | .load _ agg k => match op with
    | .load T x => aggP P T == some agg && sizeP P T == some k && (agg || k == 1) && argsMt fid [x] args
    | _ => false
  | .store _ k => match op with
    | .store T x v => sizeP P T == some k && argsMt fid [x, v] args
    | _ => false

theorem allCell_sound {fid : Nat → FuncId} {cs : List V} {vs : List Value} (h : RVs fid ρ cs vs) (hc : allCell cs = true) : ∀ v ∈ vs, (∀ c, v ≠ .agg c) ∧ (∀ c, v ≠ .tuple c) := by
  induction cs generalizing vs with
  | nil => cases h; simp
  | cons x cs ih =>
    cases h with
    | cons h1 h2 =>
      simp [allCell] at hc
      intro v hv
      rcases List.mem_cons.1 hv with rfl | hv
      · exact RV.cellV h1 hc.1
      · exact ih h2 (by simpa [allCell] using hc.2) v hv

theorem lopSim {o : LOp} {r : T × (Nat → Nat × List V)} (hd : ∀ t, oper.dst = some t → t < E.nt) (h : lopMt P E.fid oper.op oper.dst o args = true) (hi : Inv E ρ lam s a w)
    (hp : lop o (args.map s.ev) s.L = some r) : ∃ y w' lam', Outs P oper a w y w' ∧ Inv E ρ lam' ({ s with L := r.2 }.put oper.dst r.1) (a.put oper.dst y) w' := by
  cases o with
  | alloc t zs =>
    simp only [lopMt] at h
    split at h
    case h_2 => cases h
    rename_i T hop
    simp only [Bool.and_eq_true, beq_iff_eq] at h
    obtain ⟨⟨hdst, ha⟩, hz⟩ := h
    split at hz
    case h_2 => cases hz
    rename_i z hz0
    simp only [lop] at hp
    split at hp
    case h_2 => cases hp
    cases hp
    obtain ⟨lam', hi'⟩ := hi.allocL (hd t hdst) (cells := zs) (arr := z.cells) T (csMt_sound hz)
    refine ⟨_, _, lam', .inl ?_, by rw [hdst]; exact hi'⟩
    rw [execOp]; simp [hop, Instr.alloc, run_zeroValue hz0, newVar, newRow, pushO]
  | box t n =>
    simp only [lopMt] at h
    split at h
    case h_2 => cases h
    rename_i T x hop
    simp only [Bool.and_eq_true, beq_iff_eq] at h
    obtain ⟨hdst, h⟩ := h
    have hs := args_sound hi.tm h
    simp only [lop] at hp
    split at hp
    case h_2 => cases hp
    rename_i x0 heq
    rw [heq] at hs
    obtain ⟨y1, he, h1⟩ := hs.one
    simp at he
    split at hp
    case isFalse => cases hp
    cases hp
    obtain ⟨lam', hi'⟩ := hi.allocL (hd t hdst) (cells := x0.cells) (arr := y1.cells) T (RV.cells h1)
    refine ⟨_, _, lam', .inl ?_, by rw [hdst]; exact hi'⟩
    rw [execOp]; simp [hop, he, Instr.box, newVar, newRow, pushO]
  | load t agg k =>
    simp only [lopMt] at h
    split at h
    case h_2 => cases h
    rename_i T x hop
    simp only [Bool.and_eq_true, beq_iff_eq, Bool.or_eq_true] at h
    obtain ⟨⟨⟨ha, hk⟩, h1k⟩, h⟩ := h
    have hs := args_sound hi.tm h
    simp only [lop] at hp
    split at hp
    case h_2 => cases hp
    rename_i t' g off heq
    rw [heq] at hs
    obtain ⟨y1, he, h1⟩ := hs.one
    simp at he
    split at hp
    case isFalse => cases hp
    rename_i hc
    obtain ⟨rfl, rfl⟩ := hc
    simp only [Option.bind_eq_some_iff] at hp
    obtain ⟨cs, hcs, x1, hx1, hr⟩ := hp
    cases hr
    obtain ⟨g1, g2, rfl⟩ := h1
    obtain ⟨arr, T', hb, hrv⟩ := hi.rl.cell t' g1
    obtain ⟨q1, q2, q3⟩ := cut_sound hrv hcs
    have hrun : (loadVar T ⟨lam t' (s.L t').1, off, none⟩).run P w = .ok (mkW agg ((arr.toList.drop off).take k)) w := by
      refine run_loadVar ha hk (by simp at q3 ⊢; omega) (fun e => ?_) (fun j v hj => ?_)
      · rcases h1k with h | h
        · rw [h] at e; cases e
        · exact h
      · rw [cell?_arr hb]
        rw [List.getElem?_take] at hj
        split at hj
        · rw [List.getElem?_drop] at hj; simpa using hj
        · cases hj
    refine ⟨_, w, lam, .inl ?_, hi.put hd (mkV_sound q1 hx1)⟩
    rw [execOp]; simp [hop, he, Instr.loadAt, Instr.sureAddr, hrun]
  | store t k =>
    simp only [lopMt] at h
    split at h
    case h_2 => cases h
    rename_i T x v hop
    simp only [Bool.and_eq_true, beq_iff_eq] at h
    obtain ⟨hk, h⟩ := h
    have hs := args_sound hi.tm h
    simp only [lop] at hp
    split at hp
    case h_2 => cases hp
    rename_i t' g off x0 heq
    rw [heq] at hs
    obtain ⟨y1, y2, he, h1, h2⟩ := hs.two
    simp at he
    obtain ⟨e1, e2⟩ := he
    split at hp
    case isFalse => cases hp
    rename_i hc
    obtain ⟨rfl, rfl, hlen, hcell⟩ := hc
    simp only [Option.bind_eq_some_iff] at hp
    obtain ⟨cs, hcs, hr⟩ := hp
    cases hr
    obtain ⟨g1, g2, rfl⟩ := h1
    obtain ⟨arr, T', hb, hrv⟩ := hi.rl.cell t' g1
    have hc0 := RV.cells h2
    obtain ⟨q1, q2⟩ := lay_sound hrv hc0 hcs
    have hsz : y2.cells.size = k := by have := hc0.length; simp at this; omega
    have hrun : (storeVar T ⟨lam t' (s.L t').1, off, none⟩ y2).run P w = .ok () (setO w (lam t' (s.L t').1) (.cells (layA arr off y2.cells.toList) T' (0, 0))) :=
      run_storeVar hk hsz (allCell_sound hc0 hcell) hb (by simp [hsz] at q2; exact q2)
    have hi' := hi.storeL g1 (cells := cs) (arr' := layA arr off y2.cells.toList) hb (layA_size (by simp [hsz] at q2 ⊢; exact q2)) (by simpa using q1)
    refine ⟨undef, _, lam, .inr ⟨?_, rfl⟩, hi'.put hd ?_⟩
    · rw [execOp]; simp [hop, e1, e2, Instr.storeAt, Instr.sureAddr, hrun]
    · exact RV.tup .nil

def ropMt (P : Program) (fid : Nat → FuncId) (op : Op) (o : ROp) (args : List Opd) : Bool :=
  match o with
  | .load agg k => match op with
    | .load T x => aggP P T == some agg && sizeP P T == some k && (agg || k == 1) && argsMt fid [x] args
    | _ => false
  | .sliceX k => match op with
    | .slice t x (some lo) (some hi) none => (match elemP P t with | some e => sizeP P e == some k | none => false) && argsMt fid [x, lo, hi] args
    | _ => false

theorem rdH_sound {fid : Nat → FuncId} {h : Heap} {b off n : Nat} {cs : List V} {at' : At} (hm : RM fid ρ h w) (hr : rdH h b off n = some cs) (hb : ρ b = some at') :
    ∃ vs : List Value, vs.length = n ∧ RVs fid ρ cs vs ∧ ∀ (j : Nat) (v : Value), vs[j]? = some v → w.cell? ⟨at'.cb, at'.co + off + j, none⟩ = some v := by
  unfold rdH at hr
  split at hr
  case h_2 => cases hr
  rename_i blk hblk
  split at hr
  case isTrue => cases hr
  rename_i hlive
  unfold cut at hr
  split at hr
  case isFalse => cases hr
  rename_i hle
  cases hr
  have key : ∀ m, m ≤ n → ∃ vs : List Value, vs.length = m ∧ RVs fid ρ ((blk.cells.drop off).take m) vs ∧ ∀ (j : Nat) (v : Value), vs[j]? = some v → w.cell? ⟨at'.cb, at'.co + off + j, none⟩ = some v := by
    intro m
    induction m with
    | zero => intro _; exact ⟨[], rfl, by simpa using RVs.nil, by simp⟩
    | succ m ih =>
      intro hm'
      obtain ⟨vs, h1, h2, h3⟩ := ih (by omega)
      have hlt : off + m < blk.cells.length := by omega
      have hg : blk.cells[off + m]? = some blk.cells[off + m] := List.getElem?_eq_getElem hlt
      obtain ⟨x, hx, hrx⟩ := hm.cell b blk at' (off + m) _ hblk hb hlive hg
      refine ⟨vs ++ [x], by simp [h1], ?_, fun j v hj => ?_⟩
      · have hl : m < (blk.cells.drop off).length := by simp; omega
        rw [List.take_succ_eq_append_getElem hl]
        refine h2.append (.cons ?_ .nil)
        simpa using hrx
      · rcases Nat.lt_or_ge j vs.length with hjl | hjl
        · rw [List.getElem?_append_left hjl] at hj; exact h3 j v hj
        · rw [List.getElem?_append_right hjl] at hj
          have : j = m := by
            rcases Nat.eq_or_lt_of_le hjl with e | hlt
            · omega
            · have h0 : ([x] : List Value)[j - vs.length]? = none := List.getElem?_eq_none (by simp; omega)
              rw [h0] at hj; cases hj
          subst this
          simp [h1] at hj
          subst hj
          rw [← hx]; simp [Nat.add_assoc]
  exact key n (Nat.le_refl _)

theorem ropSim {o : ROp} {x : V} (h : ropMt P E.fid oper.op o args = true) (ht : ∀ i, RT E.fid ρ lam s.L (s.σ i) (a.tmps.getD i undef)) (hm : RM E.fid ρ s.h w)
    (hp : rop o (args.map s.ev) s.h = some x) : ∃ y, Gives P oper a w y ∧ RV E.fid ρ x y := by
  cases o with
  | load agg k =>
    simp only [ropMt] at h
    split at h
    case h_2 => cases h
    rename_i T x hop
    simp only [Bool.and_eq_true, beq_iff_eq, Bool.or_eq_true] at h
    obtain ⟨⟨⟨ha, hk⟩, h1k⟩, h⟩ := h
    have hs := args_sound ht h
    simp only [rop] at hp
    split at hp
    case h_2 => cases hp
    rename_i b off heq
    rw [heq] at hs
    obtain ⟨y1, he, h1⟩ := hs.one
    simp at he
    simp only [Option.bind_eq_some_iff] at hp
    obtain ⟨cs, hcs, hx1⟩ := hp
    cases h1 with
    | ptr hb =>
      obtain ⟨vs, q1, q2, q3⟩ := rdH_sound hm hcs hb
      refine ⟨mkW agg vs, ?_, mkV_sound q2 hx1⟩
      have hrun := run_loadVar (P := P) (w := w) ha hk q1 (fun e => by
        rcases h1k with h | h
        · rw [h] at e; cases e
        · exact h) q3
      unfold Gives; rw [execOp]; simp [hop, he, Instr.loadAt, Instr.sureAddr, hrun]
  | sliceX k =>
    simp only [ropMt] at h
    split at h
    case h_2 => cases h
    rename_i t x lo hi hop
    simp only [Bool.and_eq_true] at h
    obtain ⟨hf, h⟩ := h
    split at hf
    case h_2 => cases hf
    rename_i e he0
    simp only [beq_iff_eq] at hf
    have hu := elemP_eq he0
    have hs := args_sound ht h
    simp only [rop] at hp
    split at hp
    case h_2 => cases hp
    rename_i b off len k' vlo vhi heq
    rw [heq] at hs
    obtain ⟨y1, y2, y3, he, h1, h2, h3⟩ := hs.three
    simp at he
    obtain ⟨e1, e2, e3⟩ := he
    simp only [Option.bind_eq_some_iff] at hp
    obtain ⟨l, hl, hh, hhh, hp⟩ := hp
    split at hp
    case h_2 => cases hp
    rename_i blk hblk
    split at hp
    case isFalse => cases hp
    rename_i hc
    obtain ⟨rfl, c1, c2, c0, c3⟩ := hc
    cases hp
    have b1 := natV_sound h2 hl
    have b2 := natV_sound h3 hhh
    cases h1 with
    | slice g1 g2 g3 g4 g5 =>
      rename_i c' at' A
      obtain ⟨k0, hsz⟩ := g4 _ rfl
      obtain ⟨w2, arr, T', _, _⟩ := hm.own b blk at' hblk g1 c2
      have hcap : hh ≤ c' := by
        have : off + hh * k' ≤ off + c' * k' := by omega
        exact Nat.le_of_mul_le_mul_right (by omega) k0
      have hrun := run_bounds (P := P) (w := w) (len := len) (cap := c') (lo := some y2) (hi := some y3) (mx := none) (l := some l) (h := some hh) (m := none) b1 b2 trivial (by simp) (by simpa using c1) (by simpa using hcap) (by simp)
      refine ⟨.slice (some (if c' = l then A else A.add (l * k'))) (hh - l) (c' - l), ?_, ?_⟩
      · unfold Gives; rw [execOp]
        simp only [Option.getD_some, Option.getD_none] at hrun
        simp [hop, e1, e2, e3, Instr.sliceAt, underlying, hu, Instr.slice, hrun, run_sizeOf hf]
        split <;> simp
      · refine .slice g1 (by omega) (fun c0 h => by cases h) (fun k' h => by
          cases h
          refine ⟨k0, ?_⟩
          have : c' = l + (c' - l) := by omega
          rw [← hsz]
          conv => rhs; rw [this, Nat.add_mul]
          omega) (fun hne => ?_)
        have : ¬ c' = l := by omega
        rw [if_neg this, g5 (by omega), add_mk, Nat.add_assoc]
end GL
namespace GL
open Go
variable {P : Program} {E : Env} {ρ : Rho} {lam : Nat → Nat → Nat} {s : S} {a : Act} {w : World} {oper : Oper} {args : List Opd}

theorem growBy_le (n : Nat) : ∀ (r c : Nat), c ≤ n + (n + 768) / 4 → Builtin.growBy n r c ≤ n + (n + 768) / 4 := by
  intro r
  induction r with
  | zero => intro c h; simpa [Builtin.growBy] using h
  | succ r ih =>
    intro c h
    unfold Builtin.growBy
    split
    · exact h
    · exact ih _ (by omega)

theorem nextslicecap_le {n old : Nat} (h : old < n) : Builtin.nextslicecap n old ≤ 2 * n + 192 := by
  unfold Builtin.nextslicecap
  split
  · omega
  · split
    · omega
    · have := growBy_le n 4 old (by omega); omega

theorem nextslicecap_room {n old bytes : Nat} (h : old < n) (hr : n * bytes ≤ room) (hb : bytes ≤ 1024) : ¬ (Builtin.nextslicecap n old * bytes > 2 ^ 48) := by
  have h1 := nextslicecap_le h
  have h2 : Builtin.nextslicecap n old * bytes ≤ (2 * n + 192) * bytes := Nat.mul_le_mul_right _ h1
  rw [Nat.add_mul, Nat.mul_assoc] at h2
  unfold room at hr
  omega

theorem firstCells_sound {fid : Nat → FuncId} {h : Heap} {k n : Nat} {x : V} {y : Value} {xs : List V} (hm : RM fid ρ h w) (hx : RV fid ρ x y) (hr : rdS h k x n = some xs) :
    ∃ vs : List Value, (∀ w' : World, w'.heap = w.heap → (Builtin.firstCells k n y).run P w' = .ok vs.toArray w') ∧ RVs fid ρ xs vs ∧ vs.length = n * k := by
  unfold rdS at hr
  split at hr
  · rename_i b off m cap
    split at hr
    case isFalse => cases hr
    rename_i hnm
    cases hx with
    | slice g1 g2 g3 g4 g5 =>
      rename_i c at' A
      split at hr
      · rename_i h0
        cases hr
        refine ⟨[], fun w' _ => ?_, .nil, by simp [h0]⟩
        unfold Builtin.firstCells
        simp only [h0]
        simp [loadCells, loadCellsFrom]
      · rename_i h0
        have hn0 : n ≠ 0 := fun e => h0 (by simp [e])
        have hA := g5 (by omega)
        subst hA
        obtain ⟨vs, q1, q2, q3⟩ := rdH_sound hm hr g1
        refine ⟨vs, fun w' hw => ?_, q2, q1⟩
        unfold Builtin.firstCells
        exact run_loadCells _ _ _ _ q1 (fun j v hj => by have := q3 j v hj; simpa [World.cell?, hw] using this)
  · split at hr
    case isFalse => cases hr
    rename_i h0
    cases hr
    cases hx
    exact ⟨[], fun w' _ => by simp [Builtin.firstCells], .nil, by simp [h0]⟩
  · cases hr

theorem allCell_append {xs ys : List V} : allCell (xs ++ ys) = (allCell xs && allCell ys) := by simp [allCell]
theorem allCell_sub {xs ys : List V} (h : allCell xs = true) (hs : ∀ x ∈ ys, x ∈ xs) : allCell ys = true := by
  simp only [allCell, List.all_eq_true] at h ⊢
  exact fun x hx => h x (hs x hx)

theorem rdH_cell {fid : Nat → FuncId} {h : Heap} {b off n : Nat} {xs : List V} (hm : RM fid ρ h w) (hr : rdH h b off n = some xs) : allCell xs = true := by
  unfold rdH at hr
  split at hr
  case h_2 => cases hr
  rename_i blk hblk
  split at hr
  case isTrue => cases hr
  rename_i hl
  unfold cut at hr
  split at hr
  case isFalse => cases hr
  cases hr
  exact allCell_sub (hm.cel _ _ hblk hl) fun x hx => List.mem_of_mem_drop (List.mem_of_mem_take hx)

theorem rdS_cell {fid : Nat → FuncId} {h : Heap} {k n : Nat} {x : V} {xs : List V} (hm : RM fid ρ h w) (hr : rdS h k x n = some xs) : allCell xs = true := by
  unfold rdS at hr
  split at hr
  · split at hr
    case isFalse => cases hr
    split at hr
    · cases hr; rfl
    · exact rdH_cell hm hr
  · split at hr
    case isFalse => cases hr
    cases hr; rfl
  · cases hr

theorem rdS_len {h : Heap} {k n : Nat} {x : V} {xs : List V} (hr : rdS h k x n = some xs) : xs.length = n * k := by
  unfold rdS at hr
  split at hr
  · split at hr
    case isFalse => cases hr
    split at hr
    · rename_i h0; cases hr; simp [h0]
    · unfold rdH at hr
      split at hr
      case h_2 => cases hr
      split at hr
      case isTrue => cases hr
      unfold cut at hr
      split at hr
      case isFalse => cases hr
      cases hr
      simp; omega
  · split at hr
    case isFalse => cases hr
    rename_i h0; cases hr; simp [h0]
  · cases hr

/-- what the checks of an append know -/
structure AppT (P : Program) (t e : TypeId) (k bytes : Nat) (z : Value) : Prop where
  hu : P.underlying t = some (.slice e)
  hk : sizeP P e = some k
  hb : bytesP P e = some bytes
  hz : zeroP P e = some z
  zk : z.cells.size = k
  small : bytes ≤ 1024

theorem run_lenOf {A : Option Addr} {n c : Nat} : (Builtin.lenOf (.slice A n c)).run P w = .ok n w := rfl

theorem run_append_in {t u e ty : TypeId} {k bytes : Nat} {z : Value} (hT : AppT P t e k bytes z) (hu : (elemP P u).isSome = true) {base : Option Addr} {len c n : Nat} {A : Option Addr} {cx : Nat}
    {vs : List Value} (hv : (Builtin.firstCells k n (.slice A n cx)).run P w = .ok vs.toArray w) (hle : len + n ≤ c) :
    (Builtin.append_ #[t, u] ty #[.slice base len c, .slice A n cx]).run P w =
      ((match base with | some a => storeCells (a.add (len * k)) vs | none => pure () : Sem Unit).run P w).andThen fun _ w' => .ok (.slice base (len + n) c) w' := by
  obtain ⟨e', he'⟩ := Option.isSome_iff_exists.1 hu
  have hu' := elemP_eq he'
  unfold Builtin.append_
  simp [underlying, hT.hu, run_sizeOf hT.hk, hu', run_lenOf, hle, hv]
  cases base <;> simp

theorem run_append_new {t u e ty : TypeId} {k bytes : Nat} {z : Value} (hT : AppT P t e k bytes z) (hu : (elemP P u).isSome = true) {base : Option Addr} {len c n : Nat} {A : Option Addr} {cx : Nat}
    {vs old : List Value} (ho : ∀ w', w'.heap = w.heap → (Builtin.firstCells k len (.slice base len c)).run P w' = .ok old.toArray w')
    (hv : ∀ w', w'.heap = w.heap → (Builtin.firstCells k n (.slice A n cx)).run P w' = .ok vs.toArray w') (hgt : c < len + n) (hr : (len + n) * bytes ≤ room) (hr2 : len + n ≤ room) :
    ∃ nc d, len + n ≤ nc ∧ (Builtin.append_ #[t, u] ty #[.slice base len c, .slice A n cx]).run P w =
      .ok (.slice (some ⟨w.heap.size, 0, none⟩) (len + n) nc) (pushO { w with drawn := d } (.cells ((old ++ vs).toArray ++ Builtin.zeroCells z.cells (nc - (len + n))) e (0, 0))) := by
  obtain ⟨e', he'⟩ := Option.isSome_iff_exists.1 hu
  have hu' := elemP_eq he'
  obtain ⟨i, hi, hib⟩ := run_bytes (P := P) (w := w) hT.hb
  have h1 : ¬ ((len + n : Nat) : Int) > IntKind.i64.max := by unfold room at hr2; simp [IntKind.max, IntKind.signed, IntKind.bits]; omega
  have h2 := nextslicecap_room hgt hr hT.small
  have hcut : ∀ t, len + n ≤ Question.cut (.appendCap (len + n) c e) t := fun t => by simp [Question.cut]
  refine ⟨Question.cut (.appendCap (len + n) c e) (w.tape w.drawn (.appendCap (len + n) c e)), w.drawn + 1, hcut _, ?_⟩
  unfold Builtin.append_
  have hb : ∀ w', (typeInfo e).run P w' = .ok i w' := fun w' => by
    have := hT.hb
    unfold bytesP at this
    cases hinfo : P.info? e with
    | none => simp [hinfo] at this
    | some j => simp [typeInfo, hinfo] at hi ⊢; exact hi
  have hnle : ¬ len + n ≤ c := by omega
  have hni : ¬ ((9223372036854775807 : Int) < (len : Int) + n) := by unfold room at hr2; omega
  simp [underlying, hT.hu, run_sizeOf hT.hk, hu', run_lenOf, hnle, hb, hib, h2, hni, run_choose, Question.forced]
  rw [ho w.drew rfl]
  simp only [Result.andThen_ok]
  rw [hv w.drew rfl]
  simp only [run_zeroValue hT.hz, newRow, pushO, Result.andThen_ok, Sem.run_bind, Sem.run_pure, run_newObj]
  have harr : old.toArray ++ vs.toArray = (old ++ vs).toArray := by simp
  rw [← harr]
  first | rfl | (rw [Array.append_assoc]; rfl) | (rw [← Array.append_assoc]; rfl)
end GL
namespace GL
open Go
variable {P : Program} {E : Env} {ρ : Rho} {lam : Nat → Nat → Nat} {s : S} {a : Act} {w : World} {oper : Oper} {args : List Opd}

def appTMt (P : Program) (t u : TypeId) (k bytes : Nat) : Bool :=
  match elemP P t with
  | some e => sizeP P e == some k && bytesP P e == some bytes && decide (bytes ≤ 1024) && (match zeroP P e with | some z => z.cells.size == k | none => false) && (elemP P u).isSome
  | none => false

theorem appTMt_sound {t u : TypeId} {k bytes : Nat} (h : appTMt P t u k bytes = true) : ∃ e z, AppT P t e k bytes z ∧ (elemP P u).isSome = true := by
  unfold appTMt at h
  split at h
  case h_2 => cases h
  rename_i e he
  simp only [Bool.and_eq_true, beq_iff_eq, decide_eq_true_eq] at h
  obtain ⟨⟨⟨⟨h1, h2⟩, h3⟩, h4⟩, h5⟩ := h
  split at h4
  case h_2 => cases h4
  rename_i z hz
  exact ⟨e, z, ⟨elemP_eq he, h1, h2, hz, by simpa using h4, h3⟩, h5⟩

def mopMt (P : Program) (fid : Nat → FuncId) (op : Op) (o : MOp) (args : List Opd) : Bool :=
  match o with
  | .alloc zs => match op with
    | .alloc T => args.isEmpty && allCell zs && (match zeroP P T with | some z => csMt zs z.cells.toList | none => false)
    | _ => false
  | .box _ => match op with
    | .box _ x => argsMt fid [x] args
    | _ => false
  | .lit k => match op with
    | .buildSlice t n parts => (match elemP P t with | some e => sizeP P e == some k && (match zeroP P e with | some z => z.cells.size == k | none => false) | none => false) &&
        n == parts.size && (parts.toList.map (·.1)) == List.range n && argsMt fid (parts.toList.map (·.2)) args
    | _ => false
  | .make k bytes zs => match op with
    | .makeSlice t l c => (match elemP P t with | some e => sizeP P e == some k && bytesP P e == some bytes && (match zeroP P e with | some z => csMt zs z.cells.toList && zs.length == k && allCell zs | none => false) | none => false) && decide (0 < k) &&
        argsMt fid [l, c] args
    | _ => false
  | .appendN k bytes => match op with
    | .call { callee := .builtin .append, args := xs, argTypes := ts } => (match ts.toList with | [t, u] => appTMt P t u k bytes && decide (0 < k) | _ => false) && argsMt fid xs.toList args
    | _ => false

/-- the model's side of a new block -/
structure NewB (fid : Nat → FuncId) (ρ : Rho) (w : World) (blk : Blk) (mk : Nat → V) (y : Value) (w' : World) (arr : Array Value) : Prop where
  ex : ∃ (d : Nat) (T : TypeId), w' = pushO { w with drawn := d } (.cells arr T (0, 0))
  st : blk.st = .own
  cel : allCell blk.cells = true
  sz : blk.cells.length ≤ arr.size
  cell : ∀ (i : Nat) (v : V), blk.cells[i]? = some v → ∃ x, arr[i]? = some x ∧ RV fid ρ v x
  val : ∀ (b : Nat) (ρ' : Rho), Ext ρ ρ' → ρ' b = some ⟨w.heap.size, 0, arr.size⟩ → RV fid ρ' (mk b) y

theorem RVs.cellsOf {fid : Nat → FuncId} {cs : List V} {arr : Array Value} (h : RVs fid ρ cs arr.toList) (i : Nat) (v : V) (hv : cs[i]? = some v) : ∃ x, arr[i]? = some x ∧ RV fid ρ v x := by
  obtain ⟨y, hy, hr⟩ := h.get hv
  exact ⟨y, by simpa using hy, hr⟩

theorem lenOf_val {fid : Nat → FuncId} {x : V} {y : Value} {n : Nat} (h : RV fid ρ x y) (hn : lenV x = some n) : ∃ A c, y = .slice A n c := lenV_sound h hn

/-- a new block behind an append -/
theorem newB_append {fid : Nat → FuncId} {e : TypeId} {z : Value} {k need nc d : Nat} {old xs : List V} {oldv vs : List Value} (hzk : z.cells.size = k) (hk0 : 0 < k) (ho : RVs fid ρ old oldv) (hx : RVs fid ρ xs vs)
    (hco : allCell old = true) (hcx : allCell xs = true) (hl : oldv.length + vs.length = need * k) (hle : need ≤ nc) :
    NewB fid ρ w ⟨.own, old ++ xs⟩ (fun b => .slice b 0 need (.o k)) (.slice (some ⟨w.heap.size, 0, none⟩) need nc)
      (pushO { w with drawn := d } (.cells ((oldv ++ vs).toArray ++ Builtin.zeroCells z.cells (nc - need)) e (0, 0))) ((oldv ++ vs).toArray ++ Builtin.zeroCells z.cells (nc - need)) := by
  have hsz : ((oldv ++ vs).toArray ++ Builtin.zeroCells z.cells (nc - need)).size = nc * k := by
    simp [Builtin.zeroCells, hzk]
    rw [hl, Nat.sub_mul]
    have := Nat.mul_le_mul_right k hle
    omega
  refine ⟨⟨d, e, rfl⟩, rfl, by simp [allCell_append, hco, hcx], ?_, fun i v hv => ?_, fun b ρ' he hb => ?_⟩
  · rw [hsz]
    have h1 := ho.length
    have h2 := hx.length
    have := Nat.mul_le_mul_right k hle
    simp; omega
  · obtain ⟨x, hx', hr⟩ := (ho.append hx).get hv
    refine ⟨x, ?_, hr⟩
    have hlt : i < (oldv ++ vs).length := by
      rcases Nat.lt_or_ge i (oldv ++ vs).length with h | h
      · exact h
      · rw [List.getElem?_eq_none h] at hx'; cases hx'
    rw [Array.getElem?_append_left (by simpa using hlt)]
    simpa using hx'
  · exact .slice hb hle (fun c0 h => by cases h) (fun k' h => by cases h; refine ⟨hk0, ?_⟩; simp only [hsz]; omega) (fun _ => by simp)

theorem lit_fill (k : Nat) : ∀ (ys : List Value) (i : Nat) (arr : Array Value), (∀ y ∈ ys, y.cells.size = k) → arr.size = (i + ys.length) * k →
    Instr.fill (fun i => some (i * k, k)) arr ((List.range' i ys.length).zip ys) = some (arr.toList.take (i * k) ++ ys.flatMap fun y => y.cells.toList).toArray := by
  intro ys
  induction ys with
  | nil =>
    intro i arr _ hs
    have : arr.toList.take (i * k) = arr.toList := List.take_of_length_le (by simp at hs; simp [hs])
    simp [Instr.fill, this]
  | cons y ys ih =>
    intro i arr hk hs
    have hy := hk y (List.mem_cons_self ..)
    simp only [List.length_cons, List.range'_succ, List.zip_cons_cons, Instr.fill]
    have hle : i * k + k ≤ arr.size := by
      rw [hs, List.length_cons, show i + (ys.length + 1) = (i + 1) + ys.length by omega, Nat.add_mul, Nat.add_mul]; omega
    rw [if_neg (by simp [hy]; omega)]
    rw [← Array.foldl_toList, Array.toList_zipIdx]
    have hf := fold_set y.cells.toList 0 (i * k) arr (by simp [hy]; omega)
    simp only [Nat.add_zero] at hf
    rw [hf, ih (i + 1) _ (fun z hz => hk z (List.mem_cons_of_mem _ hz)) (by rw [layA_size (by simp [hy]; omega), hs, List.length_cons]; congr 1; omega)]
    congr 1
    simp only [layA, List.flatMap_cons]
    have h1 : (arr.toList.take (i * k)).length = i * k := by simp; omega
    have h2 : (i + 1) * k = (arr.toList.take (i * k) ++ y.cells.toList).length := by simp [hy]; rw [Nat.add_mul]; omega
    rw [h2, List.append_assoc, ← List.append_assoc (arr.toList.take (i * k))]
    rw [List.take_left]
    simp

theorem zip_map_range (parts : List (Nat × Operand)) (f : Operand → Value) (n : Nat) (h : parts.map (·.1) = List.range n) (hn : n = parts.length) :
    parts.map (fun p => (p.1, f p.2)) = (List.range' 0 parts.length).zip ((parts.map (·.2)).map f) := by
  have key : ∀ (ps : List (Nat × Operand)), ps.map (fun p => (p.1, f p.2)) = (ps.map (·.1)).zip ((ps.map (·.2)).map f) := by
    intro ps
    induction ps with
    | nil => rfl
    | cons p r ih => simp [ih]
  rw [key, h, List.range_eq_range', hn]

theorem mopSim {o : MOp} {blk : Blk} {mk : Nat → V} {h : Heap} (hmt : mopMt P E.fid oper.op o args = true) (ht : ∀ i, RT E.fid ρ lam s.L (s.σ i) (a.tmps.getD i undef)) (hm : RM E.fid ρ h w)
    (hp : mop o (args.map s.ev) h = some (blk, mk)) : ∃ y w' arr, Outs P oper a w y w' ∧ NewB E.fid ρ w blk mk y w' arr := by
  cases o with
  | alloc zs =>
    simp only [mopMt] at hmt
    split at hmt
    case h_2 => cases hmt
    rename_i T hop
    simp only [Bool.and_eq_true] at hmt
    obtain ⟨⟨_, hzc⟩, hz⟩ := hmt
    split at hz
    case h_2 => cases hz
    rename_i z hz0
    simp only [mop] at hp
    split at hp
    case h_2 => cases hp
    cases hp
    have hr := csMt_sound (fid := E.fid) (ρ := ρ) hz
    refine ⟨_, _, z.cells, .inl ?_, ⟨w.drawn, T, rfl⟩, rfl, hzc, ?_, hr.cellsOf, fun b ρ' he hb => by have := RV.ptr (fid := E.fid) (off := 0) hb; simpa using this⟩
    · rw [execOp]; simp [hop, Instr.alloc, run_zeroValue hz0, newVar, newRow, pushO]
    · have := hr.length; simp at this; simp [this]
  | box n =>
    simp only [mopMt] at hmt
    split at hmt
    case h_2 => cases hmt
    rename_i T x hop
    have hs := args_sound ht hmt
    simp only [mop] at hp
    split at hp
    case h_2 => cases hp
    rename_i x0 heq
    rw [heq] at hs
    obtain ⟨y1, he, h1⟩ := hs.one
    simp at he
    split at hp
    case isFalse => cases hp
    rename_i hcc
    cases hp
    have hr := RV.cells h1
    refine ⟨_, _, y1.cells, .inl ?_, ⟨w.drawn, T, rfl⟩, rfl, hcc.2, ?_, hr.cellsOf, fun b ρ' he hb => by have := RV.ptr (fid := E.fid) (off := 0) hb; simpa using this⟩
    · rw [execOp]; simp [hop, he, Instr.box, newVar, newRow, pushO]
    · have := hr.length; simp at this; simp [this]
  | lit k =>
    simp only [mopMt] at hmt
    split at hmt
    case h_2 => cases hmt
    rename_i t n parts hop
    simp only [Bool.and_eq_true, beq_iff_eq] at hmt
    obtain ⟨⟨⟨hT, rfl⟩, hrange⟩, hargs⟩ := hmt
    split at hT
    case h_2 => cases hT
    rename_i e he0
    simp only [Bool.and_eq_true, beq_iff_eq] at hT
    obtain ⟨hk, hz⟩ := hT
    split at hz
    case h_2 => cases hz
    rename_i z hz0
    simp only [beq_iff_eq] at hz
    have hu := elemP_eq he0
    have hs := args_sound ht hargs
    simp only [mop, Option.bind_eq_some_iff] at hp
    obtain ⟨xs, hxs, hp⟩ := hp
    split at hp
    case isFalse => cases hp
    rename_i hc
    obtain ⟨hall, h24⟩ := hc
    cases hp
    have hvs := vals_sound hs hxs
    let ys := (parts.toList.map (·.2)).map a.eval
    have hlen : xs.length = parts.toList.length := by have := hvs.length; simpa [ys] using this
    have hyk : ∀ y ∈ ys, y.cells.size = k := by
      intro y hy
      obtain ⟨i, hi⟩ := List.getElem?_of_mem hy
      have hlt : i < xs.length := by
        rw [hvs.length]
        rcases Nat.lt_or_ge i ys.length with h | h
        · exact h
        · rw [List.getElem?_eq_none h] at hi; cases hi
      have hr := hvs.get2 (List.getElem?_eq_getElem hlt) hi
      have := List.all_eq_true.1 hall _ (List.getElem_mem hlt)
      simp only [Bool.and_eq_true, beq_iff_eq] at this
      have hl := (RV.cells hr).length
      simp at hl; omega
    have hcells : ∀ (xs : List V) (ys : List Value), RVs E.fid ρ xs ys → RVs E.fid ρ (xs.flatMap V.cells) (ys.flatMap fun y => y.cells.toList) := by
      intro xs
      induction xs with
      | nil => intro ys h; cases h; exact .nil
      | cons x xs ih => intro ys h; cases h with | cons h1 h2 => simp only [List.flatMap_cons]; exact (RV.cells h1).append (ih _ h2)
    have hr := hcells xs ys hvs
    have hylen : ys.length = parts.toList.length := by simp [ys]
    let zr : Array Value := if parts.size * k = 0 then #[] else z.cells
    let arr0 : Array Value := (Array.range (parts.size * k)).map (zr[· % zr.size]!)
    have hfill := lit_fill k ys 0 arr0 hyk (by simp [arr0, hylen])
    simp only [Nat.zero_mul, List.take_zero, List.nil_append] at hfill
    have hzip := zip_map_range parts.toList a.eval parts.size hrange (by simp)
    have hpl : (parts.map fun p => (p.1, a.eval p.2)).toList = parts.toList.map fun p => (p.1, a.eval p.2) := by simp
    refine ⟨.slice (some ⟨w.heap.size, 0, none⟩) parts.size parts.size, pushO w (.cells (ys.flatMap fun y => y.cells.toList).toArray e (0, 0)), (ys.flatMap fun y => y.cells.toList).toArray, .inl ?_, ⟨w.drawn, e, rfl⟩, rfl, ?_, ?_, ?_, ?_⟩
    · rw [execOp]
      have h24' : ¬ 2 ^ 24 < parts.size * k := by simp at hlen; rw [hlen] at h24; omega
      have hrun : (Instr.buildSlice t parts.size (parts.map fun p => (p.1, a.eval p.2))).run P w = .ok (.slice (some ⟨w.heap.size, 0, none⟩) parts.size parts.size) (pushO w (.cells (ys.flatMap fun y => y.cells.toList).toArray e (0, 0))) := by
        unfold Instr.buildSlice
        have hzz : ∀ w', ((if parts.size * k = 0 then pure #[] else do pure (← zeroValue e).cells) : Sem (Array Value)).run P w' = .ok zr w' := fun w' => by
          by_cases h0 : parts.size * k = 0
          · simp [h0, zr]
          · simp [h0, zr, run_zeroValue hz0]
        have hfill' : Instr.fill (fun i => some (i * k, k)) arr0 (parts.toList.map fun p => (p.1, a.eval p.2)) = some (ys.flatMap fun y => y.cells.toList).toArray := by
          rw [hzip, ← hylen]; exact hfill
        simp only [Sem.run_bind, underlying, run_program, hu, Result.andThen_ok, run_sizeOf hk, Sem.run_pure]
        rw [if_neg (by simpa using h24')]
        have hfill2 : Instr.fill (fun i => some (i * k, k)) ((Array.range (parts.size * k)).map (zr[· % zr.size]!)) (parts.toList.map fun p => (p.1, a.eval p.2)) = some (ys.flatMap fun y => y.cells.toList).toArray := hfill'
        by_cases h0 : parts.size * k = 0
        · simp only [zr, h0, if_true] at hfill2
          simp only [h0, if_true, Sem.run_bind, Sem.run_pure, Result.andThen_ok, hpl, hfill2, newRow, run_newObj, pushO]
        · simp only [zr, h0, if_false] at hfill2
          simp only [h0, if_false, Sem.run_bind, Sem.run_pure, Result.andThen_ok, hpl, run_zeroValue hz0, hfill2, newRow, run_newObj, pushO]
      simp only [hop, Sem.run_bind]
      rw [hrun]; rfl
    · simp only [allCell, List.all_eq_true, List.mem_flatMap]
      rintro x ⟨v, hv, hx⟩
      have := List.all_eq_true.1 hall v hv
      simp only [Bool.and_eq_true, allCell, List.all_eq_true] at this
      exact this.2 x hx
    · have := hr.length; simp at this; simp [this]
    · exact fun i v hv => RVs.cellsOf (arr := (ys.flatMap fun y => y.cells.toList).toArray) (by simpa using hr) i v hv
    · intro b ρ' he hb
      simp at hlen
      rw [hlen]
      exact .slice hb (Nat.le_refl _) (fun c0 h => by cases h; rfl) (fun k h => by cases h) (fun _ => by simp)
  | make k bytes zs =>
    simp only [mopMt] at hmt
    split at hmt
    case h_2 => cases hmt
    rename_i t l c hop
    simp only [Bool.and_eq_true, decide_eq_true_eq] at hmt
    obtain ⟨⟨hT, hk0⟩, hargs⟩ := hmt
    split at hT
    case h_2 => cases hT
    rename_i e he0
    simp only [Bool.and_eq_true, beq_iff_eq] at hT
    obtain ⟨⟨hk, hb⟩, hz⟩ := hT
    split at hz
    case h_2 => cases hz
    rename_i z hz0
    simp only [Bool.and_eq_true, beq_iff_eq] at hz
    obtain ⟨⟨hz, hzk⟩, hzc⟩ := hz
    have hu := elemP_eq he0
    have hs := args_sound ht hargs
    simp only [mop] at hp
    split at hp
    case h_2 => cases hp
    rename_i k1 n k2 cc heq
    rw [heq] at hs
    obtain ⟨y1, y2, he, h1, h2⟩ := hs.two
    simp at he
    obtain ⟨e1, e2⟩ := he
    cases h1; cases h2
    split at hp
    case isFalse => cases hp
    rename_i hc
    obtain ⟨c1, c2, c3, c4⟩ := hc
    cases hp
    have hzr := csMt_sound (fid := E.fid) (ρ := ρ) hz
    have hzs : z.cells.size = k := by have := hzr.length; simp at this; omega
    obtain ⟨i, hi, hib⟩ := run_bytes (P := P) (w := w) hb
    have hwn : IntKind.i64.wrap n = n := by unfold room at c4; simp [IntKind.wrap, IntKind.signed, IntKind.bits]; omega
    have hwc : IntKind.i64.wrap cc = cc := by unfold room at c4; simp [IntKind.wrap, IntKind.signed, IntKind.bits]; omega
    let zr : Array Value := if cc.toNat * k = 0 then #[] else z.cells
    let arr : Array Value := (Array.range (cc.toNat * k)).map (zr[· % zr.size]!)
    have hcell : ∀ (i : Nat) (v : V), (List.replicate cc.toNat zs).flatten[i]? = some v → ∃ x, arr[i]? = some x ∧ RV E.fid ρ v x := by
      intro i v hv
      have hlt : i < cc.toNat * k := by
        rcases Nat.lt_or_ge i (cc.toNat * k) with h | h
        · exact h
        · rw [List.getElem?_eq_none (by simp [hzk]; exact h)] at hv; cases hv
      have hne : cc.toNat * k ≠ 0 := by omega
      have hgen : ∀ (m i : Nat), i < m * k → (List.replicate m zs).flatten[i]? = zs[i % k]? := by
        intro m
        induction m with
        | zero => intro i h; simp at h
        | succ m ih =>
          intro i h
          rw [List.replicate_succ, List.flatten_cons]
          rcases Nat.lt_or_ge i k with hl | hl
          · rw [List.getElem?_append_left (by omega), Nat.mod_eq_of_lt hl]
          · rw [List.getElem?_append_right (by omega), hzk, ih (i - k) (by rw [Nat.add_mul] at h; omega), ← Nat.mod_eq_sub_mod hl]
      rw [hgen _ _ hlt] at hv
      obtain ⟨x, hx, hrx⟩ := hzr.get hv
      refine ⟨x, ?_, hrx⟩
      have hmod : i % k < k := Nat.mod_lt _ hk0
      have hx' : z.cells[i % k]? = some x := by simpa using hx
      have harr : arr[i]? = some (zr[i % zr.size]!) := by simp [arr, hlt]
      rw [harr]
      simp only [zr, hne, if_false, hzs]
      rw [getElem!_def, hx']
    refine ⟨.slice (some ⟨w.heap.size, 0, none⟩) n.toNat cc.toNat, pushO w (.cells arr e (0, 0)), arr, .inl ?_, ⟨w.drawn, e, rfl⟩, rfl, ?_, ?_, hcell, ?_⟩
    · rw [execOp]
      have hrun : (Instr.makeSlice t (.int k1 n) (.int k2 cc)).run P w = .ok (.slice (some ⟨w.heap.size, 0, none⟩) n.toNat cc.toNat) (pushO w (.cells arr e (0, 0))) := by
        unfold Instr.makeSlice
        have hzz : ∀ w', ((if cc.toNat * k = 0 then pure #[] else do pure (← zeroValue e).cells) : Sem (Array Value)).run P w' = .ok zr w' := fun w' => by
          by_cases h0 : cc.toNat * k = 0
          · simp [h0, zr]
          · simp [h0, zr, run_zeroValue hz0]
        have hbig : ¬ (2 ^ 48 : Int) < (bytes : Int) * cc := by unfold room at c3; rw [Int.mul_comm]; omega
        have hcond : ((decide (cc < 0) || decide ((bytes : Int) * cc > 2 ^ 48)) || decide (n < 0) || decide (n > cc)) = false := by
          simp; omega
        simp only [Sem.run_bind, underlying, run_program, hu, Result.andThen_ok, asInt, asIntOf, Sem.run_pure, Sem.run_map, hi, hib, hwn, hwc]
        rw [if_neg (by rw [Bool.or_assoc] at hcond; simp at hcond ⊢; omega)]
        by_cases h0 : cc.toNat * k = 0
        · simp only [h0, if_true, Sem.run_bind, Sem.run_pure, Result.andThen_ok, run_askRoom, run_sizeOf hk, newRow, run_newObj, pushO]
          simp only [arr, zr, h0, if_true]
        · simp only [h0, if_false, Sem.run_bind, Sem.run_pure, Result.andThen_ok, run_askRoom, run_sizeOf hk, run_zeroValue hz0, newRow, run_newObj, pushO]
          simp only [arr, zr, h0, if_false]
      simp only [hop, e1, e2, Sem.run_bind]
      rw [hrun]; rfl
    · simp only [allCell, List.all_eq_true, List.mem_flatten, List.mem_replicate]
      rintro x ⟨l, ⟨_, rfl⟩, hx⟩
      exact List.all_eq_true.1 hzc x hx
    · simp [arr, hzk]
    · intro b ρ' he hb'
      exact .slice hb' (by omega) (fun c0 h => by cases h; rfl) (fun k h => by cases h) (fun _ => by simp)
  | appendN k bytes =>
    simp only [mopMt] at hmt
    split at hmt
    case h_2 => cases hmt
    rename_i xs ts hop
    simp only [Bool.and_eq_true] at hmt
    obtain ⟨hT, hargs⟩ := hmt
    split at hT
    case h_2 => cases hT
    rename_i t u hts
    simp only [Bool.and_eq_true, decide_eq_true_eq] at hT
    obtain ⟨hT, hk0⟩ := hT
    obtain ⟨e, z, hT, hu⟩ := appTMt_sound hT
    have hs := args_sound ht hargs
    simp only [mop] at hp
    split at hp
    case h_2 => cases hp
    rename_i sv xv heq
    rw [heq] at hs
    obtain ⟨y1, y2, he, h1, h2⟩ := hs.two
    simp only [Option.bind_eq_some_iff] at hp
    obtain ⟨n, hn, cs, hcs, hp⟩ := hp
    obtain ⟨A, cx, rfl⟩ := lenV_sound h2 hn
    have hx0 : xs.map a.eval = #[y1, .slice A n cx] := by apply Array.toList_inj.1; simpa using he
    have hts0 : ts = #[t, u] := by apply Array.toList_inj.1; simpa using hts
    obtain ⟨vs, hvs', hrv, hvl⟩ := firstCells_sound (P := P) (w := w) hm h2 hcs
    split at hp
    · rename_i bs os len c
      split at hp
      case isFalse => cases hp
      rename_i hc
      obtain ⟨c1, c2, c3⟩ := hc
      simp only [Option.bind_eq_some_iff] at hp
      obtain ⟨old, hold, hp⟩ := hp
      cases hp
      obtain ⟨A1, c', hy⟩ := lenV_sound h1 (show lenV (.slice bs os len (.k c)) = some len from rfl)
      subst hy
      have hcc : c' = c := by cases h1 with | slice g1 g2 g3 g4 g5 => exact g3 _ rfl
      subst hcc
      obtain ⟨ov, hov', hro, hol⟩ := firstCells_sound (P := P) (w := w) hm h1 hold
      obtain ⟨nc, d, hle, hrun⟩ := run_append_new (P := P) (w := w) (ty := oper.type) hT hu hov' hvs' c1 c2 c3
      refine ⟨_, _, _, .inl ?_, newB_append (w := w) (d := d) (e := e) hT.zk hk0 hro hrv (rdS_cell hm hold) (rdS_cell hm hcs) (by rw [hol, hvl, Nat.add_mul]) hle⟩
      rw [execOp]; simp [hop, resolve, invoke, builtin, hx0, hts0, hrun]
    · split at hp
      case isFalse => cases hp
      rename_i hc
      obtain ⟨c1, c2, c3⟩ := hc
      cases hp
      cases h1
      have hov' : ∀ w', w'.heap = w.heap → (Builtin.firstCells k 0 (.slice none 0 0)).run P w' = .ok ([] : List Value).toArray w' := fun w' hw => by simp [Builtin.firstCells]
      obtain ⟨nc, d, hle, hrun⟩ := run_append_new (P := P) (w := w) (ty := oper.type) (len := 0) (c := 0) (base := none) hT hu hov' hvs' (by omega) (by simpa using c2) (by simpa using c3)
      have hb := newB_append (fid := E.fid) (ρ := ρ) (w := w) (d := d) (e := e) (need := n) (nc := nc) (old := []) (oldv := []) hT.zk hk0 .nil hrv rfl (rdS_cell hm hcs) (by simp [hvl]) (by omega)
      simp only [Nat.zero_add] at hrun hle
      refine ⟨_, _, _, .inl ?_, by simpa using hb⟩
      rw [execOp]; simp [hop, resolve, invoke, builtin, hx0, hts0, hrun]
    · cases hp
end GL
namespace GL
open Go
variable {P : Program} {E : Env} {ρ : Rho} {lam : Nat → Nat → Nat} {s : S} {a : Act} {w : World} {oper : Oper} {args : List Opd} {fid : Nat → FuncId} {h : Heap}

/-- a step of the blocks, on both sides -/
def HS (fid : Nat → FuncId) (ρ : Rho) (h : Heap) (w : World) (v : V) (h' : Heap) (y : Value) (w' : World) : Prop :=
  ∃ ρ', RM fid ρ' h' w' ∧ Keep h.length ρ ρ' ∧ Fr (Owned ρ h) w w' ∧ OI ρ h w ρ' h' ∧ RV fid ρ' v y

theorem HS.drawn {v : V} {h' : Heap} {y : Value} {w' : World} (d : Nat) (hs : HS fid ρ h { w with drawn := d } v h' y w') : HS fid ρ h w v h' y w' := by
  obtain ⟨ρ', h1, h2, h3, h4, h5⟩ := hs
  exact ⟨ρ', h1, h2, ⟨h3.os, h3.tape, h3.output, h3.size, h3.block⟩, h4, h5⟩

theorem HS.same (hm : RM fid ρ h w) {v : V} {y : Value} (hv : RV fid ρ v y) : HS fid ρ h w v h y w := ⟨ρ, hm, Keep.refl _ _, Fr.refl _ _, OI.refl _ _ _, hv⟩

theorem hs_new (hm : RM fid ρ h w) {blk : Blk} {mk : Nat → V} {y : Value} {w' : World} {arr : Array Value} (hn : NewB fid ρ w blk mk y w' arr) : HS fid ρ h w (mk h.length) (h ++ [blk]) y w' := by
  obtain ⟨d, T, rfl⟩ := hn.ex
  have hm' : RM fid ρ h { w with drawn := d } := hm.congr rfl
  obtain ⟨st, cells⟩ := blk
  have := hn.st
  simp at this
  subst this
  have e := Ext.push (hm.out h.length (Nat.le_refl _)) (⟨w.heap.size, 0, arr.size⟩ : At)
  refine ⟨pushR ρ h.length ⟨w.heap.size, 0, arr.size⟩, ?_, Keep.push _ _ _, ?_, ?_, ?_⟩
  · exact RM.push hm' hn.cel hn.sz fun i v hv => by
      obtain ⟨x, hx, hr⟩ := hn.cell i v hv
      exact ⟨x, hx, hr.ext e⟩
  · have := Fr.push (Owned ρ h) { w with drawn := d } (.cells arr T (0, 0))
    exact ⟨this.os, this.tape, this.output, this.size, this.block⟩
  · exact OI.push _ _ (Nat.le_refl _)
  · exact hn.val h.length _ e (pushR_self _ _ _)

theorem wrH_eq {b off : Nat} {xs : List V} {h' : Heap} (hw : wrH h b off xs = some h') : ∃ blk cs, h[b]? = some blk ∧ blk.st = .own ∧ lay blk.cells off xs = some cs ∧ h' = h.set b { blk with cells := cs } := by
  unfold wrH at hw
  split at hw
  case h_2 => cases hw
  rename_i blk hb
  split at hw
  case isFalse => cases hw
  rename_i ho
  simp only [Option.bind_eq_some_iff] at hw
  obtain ⟨cs, hcs, hx⟩ := hw
  cases hx
  exact ⟨blk, cs, hb, ho, hcs, rfl⟩

theorem lay_len {cs xs cs' : List V} {off : Nat} (hl : lay cs off xs = some cs') : cs'.length = cs.length ∧ off + xs.length ≤ cs.length := by
  unfold lay at hl
  split at hl
  · cases hl; refine ⟨?_, by assumption⟩; simp; omega
  · cases hl

theorem lay_cell {cs xs cs' : List V} {off : Nat} (hl : lay cs off xs = some cs') (hc : allCell cs = true) (hx : allCell xs = true) : allCell cs' = true := by
  unfold lay at hl
  split at hl
  · cases hl
    simp only [allCell_append, Bool.and_eq_true]
    exact ⟨⟨allCell_sub hc fun x hx => List.mem_of_mem_take hx, hx⟩, allCell_sub hc fun x hx => List.mem_of_mem_drop hx⟩
  · cases hl

theorem lay_get {cs xs cs' : List V} {off : Nat} (hl : lay cs off xs = some cs') (i : Nat) : cs'[i]? = if i < off then cs[i]? else if i < off + xs.length then xs[i - off]? else cs[i]? := by
  unfold lay at hl
  split at hl
  case isFalse => cases hl
  rename_i hle
  cases hl
  have ho : (cs.take off).length = off := by simp; omega
  split
  · rename_i h1
    rw [List.append_assoc, List.getElem?_append_left (by omega), List.getElem?_take, if_pos h1]
  · split
    · rename_i h1 h2
      rw [List.append_assoc, List.getElem?_append_right (by omega), ho, List.getElem?_append_left (by omega)]
    · rename_i h1 h2
      rw [List.getElem?_append_right (by simp; omega), List.getElem?_drop]
      simp only [List.length_append, ho]
      congr 1; omega

/-- cells are written: what the model does, and what the machine does -/
theorem hs_write (hm : RM fid ρ h w) {b off : Nat} {xs : List V} {vs : List Value} {h' : Heap} {at' : At} (hw : wrH h b off xs = some h') (ha : ρ b = some at') (hv : RVs fid ρ xs vs) (hc : allCell xs = true) :
    ∃ w', (∀ off', off' = at'.co + off → (storeCells ⟨at'.cb, off', none⟩ vs).run P w = .ok () w') ∧ (∀ (v : V) (y : Value), RV fid ρ v y → HS fid ρ h w v h' y w') := by
  obtain ⟨blk, cs, hb, ho, hl, rfl⟩ := wrH_eq hw
  obtain ⟨hsz, arr, T, harr, hco⟩ := hm.own b blk at' hb ha ho
  obtain ⟨hl1, hl2⟩ := lay_len hl
  have hlen := hv.length
  refine ⟨setO w at'.cb (.cells (layA arr (at'.co + off) vs) T (0, 0)), fun off' e => ?_, fun v y hr => ?_⟩
  · subst e
    exact run_storeCells vs 0 w at'.cb (at'.co + off) arr T (allCell_sound hv hc) harr (by omega)
  · refine ⟨ρ, ?_, Keep.refl _ _, Fr.set _ _ ⟨b, blk, at', hb, ho, ha, rfl⟩, OI.set hb (fun _ => rfl), hr⟩
    refine hm.write hb ha ho (lay_cell hl (hm.cel _ _ hb (by rw [ho]; decide)) hc) hl1 harr (layA_size (by omega)) fun i v hi => ?_
    rw [lay_get hl] at hi
    rw [layA_get (by omega)]
    by_cases h1 : i < off
    · rw [if_pos h1] at hi
      rw [if_pos (by omega)]
      obtain ⟨x, hx, hrx⟩ := hm.cell b blk at' i v hb ha (by rw [ho]; decide) hi
      rw [cell?_arr harr] at hx
      exact ⟨x, hx, hrx⟩
    · rw [if_neg h1] at hi
      rw [if_neg (by omega)]
      by_cases h2 : i < off + xs.length
      · rw [if_pos h2] at hi
        rw [if_pos (by omega)]
        obtain ⟨x, hx, hrx⟩ := hv.get hi
        exact ⟨x, by rw [← hx]; congr 1; omega, hrx⟩
      · rw [if_neg h2] at hi
        rw [if_neg (by omega)]
        obtain ⟨x, hx, hrx⟩ := hm.cell b blk at' i v hb ha (by rw [ho]; decide) hi
        rw [cell?_arr harr] at hx
        exact ⟨x, hx, hrx⟩

/-- an append that goes beyond what the machine knows of a block: the old block is given up, the model's row goes on (or a new one is made) -/
theorem hs_grow (hm : RM fid ρ h w) {b off k : Nat} {blk : Blk} {at' : At} {old xs : List V} {vs : List Value} {len n c : Nat} (hb : h[b]? = some blk) (ho : blk.st = .own) (ha : ρ b = some at') (hk0 : 0 < k)
    (hsz : off + c * k = at'.sz) (hold : cut blk.cells off (len * k) = some old) (hv : RVs fid ρ xs vs) (hc : allCell xs = true) (hvl : vs.length = n * k) (hle : len + n ≤ c) (hpos : 0 < n) :
    ∃ w', (∀ off', off' = at'.co + off + len * k → (storeCells ⟨at'.cb, off', none⟩ vs).run P w = .ok () w') ∧
      ∀ A, A = (⟨at'.cb, at'.co + off, none⟩ : Addr) → HS fid ρ h w (.slice h.length 0 (len + n) (.o k)) (h.set b { blk with st := .dead } ++ [⟨.own, old ++ xs⟩]) (.slice (some A) (len + n) c) w' := by
  obtain ⟨hbs, arr, T, harr, hco⟩ := hm.own b blk at' hb ha ho
  have hnk : (len + n) * k ≤ c * k := Nat.mul_le_mul_right k hle
  rw [Nat.add_mul] at hnk
  have hbound : at'.co + off + len * k + vs.length ≤ arr.size := by omega
  let arr' := layA arr (at'.co + off + len * k) vs
  have hasz : arr'.size = arr.size := layA_size hbound
  have hcb := hm.bd b blk at' hb ha (by rw [ho]; decide)
  refine ⟨setO w at'.cb (.cells arr' T (0, 0)), fun off' e => ?_, fun A hA => ?_⟩
  · subst e
    exact run_storeCells vs 0 w at'.cb (at'.co + off + len * k) arr T (allCell_sound hv hc) harr (by omega)
  · subst hA
    let na : At := ⟨at'.cb, at'.co + off, c * k⟩
    have e := Ext.push (hm.out h.length (Nat.le_refl _)) na
    have hkl : ∀ {i : Nat} {bk : Blk}, (h.set b { blk with st := .dead } ++ [⟨.own, old ++ xs⟩])[i]? = some bk → bk.st ≠ .dead → i ≠ b ∧ h[i]? = some bk ∧ i < h.length ∨ i = h.length ∧ bk = ⟨.own, old ++ xs⟩ := fun {i bk} hi hl => by
      rcases get_append hi with ⟨hi, hlt⟩ | ⟨rfl, rfl⟩
      · rcases get_set hi with ⟨hne, hi⟩ | ⟨_, rfl, _⟩
        · exact .inl ⟨hne, hi, by simpa using hlt⟩
        · exact absurd rfl hl
      · exact .inr ⟨by simp, rfl⟩
    have hat : ∀ {i : Nat} {x : At}, pushR ρ h.length na i = some x → i < h.length → ρ i = some x := fun {i x} hx hlt => by
      rcases at_push hx with ⟨_, hx⟩ | ⟨rfl, _⟩
      · exact hx
      · omega
    have hat' : ∀ {x : At}, pushR ρ h.length na h.length = some x → x = na := fun {x} hx => by
      rw [pushR_self] at hx; cases hx; rfl
    unfold cut at hold
    split at hold
    case isFalse => cases hold
    rename_i hcut
    cases hold
    have hol : ((blk.cells.drop off).take (len * k)).length = len * k := by simp; omega
    refine ⟨pushR ρ h.length na, ?_, Keep.push _ _ _, Fr.set _ _ ⟨b, blk, at', hb, ho, ha, rfl⟩, ?_, ?_⟩
    · refine { out := fun i hi => by simp at hi; unfold pushR; rw [if_neg (by omega)]; exact hm.out i (by omega), has := fun i bk hi hl => ?_, bd := fun i bk x hi hx hl => ?_, cell := fun i bk x j v hi hx hl hv' => ?_, cel := fun i bk hi hl => ?_, own := fun i bk x hi hx hl => ?_, sep := fun i j bk bk' x x' hne hi hj hx hx' hl hl' => ?_ }
      · rcases hkl hi hl with ⟨_, hi, hlt⟩ | ⟨rfl, rfl⟩
        · obtain ⟨x, hx⟩ := hm.has i bk hi hl
          exact ⟨x, e _ _ hx⟩
        · exact ⟨_, pushR_self _ _ _⟩
      · have hss : (setO w at'.cb (.cells arr' T (0, 0))).heap.size = w.heap.size := by simp [setO]
        rw [hss]
        rcases hkl hi hl with ⟨_, hi, hlt⟩ | ⟨rfl, rfl⟩
        · exact hm.bd i bk x hi (hat hx hlt) hl
        · rw [hat' hx]; exact hcb
      · rcases hkl hi hl with ⟨hne, hi, hlt⟩ | ⟨rfl, rfl⟩
        · have hx := hat hx hlt
          have hd := hm.sep b i blk bk at' x (Ne.symm hne) hb hi ha hx ho hl
          obtain ⟨y, hy, hr⟩ := hm.cell i bk x j v hi hx hl hv'
          exact ⟨y, by rw [cell?_block (setO_ne _ _ (Ne.symm hd))]; exact hy, hr.ext e⟩
        · rw [hat' hx]
          show ∃ y, World.cell? _ ⟨at'.cb, at'.co + off + j, none⟩ = some y ∧ _
          rw [cell?_arr (setO_eq _ _ hcb)]
          simp only [arr']
          rw [layA_get hbound]
          simp only at hv'
          by_cases h1 : j < len * k
          · rw [List.getElem?_append_left (by omega), List.getElem?_take, if_pos h1, List.getElem?_drop] at hv'
            rw [if_pos (by omega)]
            obtain ⟨y, hy, hr⟩ := hm.cell b blk at' (off + j) v hb ha (by rw [ho]; decide) hv'
            rw [cell?_arr harr] at hy
            exact ⟨y, by rw [← hy]; congr 1; omega, hr.ext e⟩
          · rw [List.getElem?_append_right (by omega), hol] at hv'
            rw [if_neg (by omega)]
            obtain ⟨y, hy, hr⟩ := hv.get hv'
            have hjl : j - len * k < vs.length := by
              rcases Nat.lt_or_ge (j - len * k) vs.length with h | h
              · exact h
              · rw [List.getElem?_eq_none h] at hy; cases hy
            rw [if_pos (by omega)]
            exact ⟨y, by rw [← hy]; congr 1; omega, hr.ext e⟩
      · rcases hkl hi hl with ⟨_, hi, _⟩ | ⟨rfl, rfl⟩
        · exact hm.cel i bk hi hl
        · simp only [allCell_append, Bool.and_eq_true]
          exact ⟨allCell_sub (hm.cel _ _ hb (by rw [ho]; decide)) fun x hx => List.mem_of_mem_drop (List.mem_of_mem_take hx), hc⟩
      · rcases hkl hi (by rw [hl]; decide) with ⟨hne, hi, hlt⟩ | ⟨rfl, rfl⟩
        · have hx := hat hx hlt
          have hd := hm.sep b i blk bk at' x (Ne.symm hne) hb hi ha hx ho (by rw [hl]; decide)
          obtain ⟨q2, arr0, T', q3, q4⟩ := hm.own i bk x hi hx hl
          exact ⟨q2, arr0, T', by rw [setO_ne _ _ (Ne.symm hd)]; exact q3, q4⟩
        · rw [hat' hx]
          refine ⟨?_, arr', T, setO_eq _ _ hcb, ?_⟩
          · have := hv.length
            simp only [List.length_append, hol, na]; omega
          · simp only [na]; omega
      · rcases hkl hi (by rw [hl]; decide) with ⟨hnb, hi, hlt⟩ | ⟨rfl, rfl⟩ <;> rcases hkl hj hl' with ⟨hnb', hj, hlt'⟩ | ⟨rfl, rfl⟩
        · exact hm.sep i j bk bk' x x' hne hi hj (hat hx hlt) (hat hx' hlt') hl hl'
        · rw [hat' hx']; exact Ne.symm (hm.sep b i blk bk at' x (Ne.symm hnb) hb hi ha (hat hx hlt) ho (by rw [hl]; decide))
        · rw [hat' hx]; exact hm.sep b j blk bk' at' x' (Ne.symm hnb') hb hj ha (hat hx' hlt') ho hl'
        · exact absurd rfl hne
    · intro i bk x hi hx hl
      rcases hkl hi hl with ⟨_, hi, _⟩ | ⟨rfl, rfl⟩
      · exact .inl ⟨bk, hi, rfl⟩
      · rw [hat' hx]; exact .inr (.inl ⟨b, blk, at', hb, ho, ha, rfl⟩)
    · refine .slice (a := na) (pushR_self _ _ _) hle (fun c0 h => by cases h) (fun k' h => by cases h; exact ⟨hk0, by simp [na]⟩) (fun _ => by simp [na])
end GL
namespace GL
open Go
variable {P : Program} {E : Env} {ρ : Rho} {lam : Nat → Nat → Nat} {s : S} {a : Act} {w : World} {oper : Oper} {args : List Opd} {fid : Nat → FuncId} {h : Heap}

theorem hs_kill_new (hm : RM fid ρ h w) {b : Nat} {blk nb : Blk} (hb : h[b]? = some blk) (hnb : nb.st = .dead) {bk : Blk} {mk : Nat → V} {y : Value} {w' : World} {arr : Array Value} (hn : NewB fid ρ w bk mk y w' arr) :
    HS fid ρ h w (mk h.length) (h.set b nb ++ [bk]) y w' := by
  obtain ⟨ρ', h1, h2, h3, h4, h5⟩ := hs_new (hm.kill nb hnb) hn
  have hown : ∀ cb, Owned ρ (h.set b nb) cb → Owned ρ h cb := by
    rintro cb ⟨i, bk, x, hi, hst, hx, hc⟩
    rcases get_set hi with ⟨_, hi⟩ | ⟨_, rfl, _⟩
    · exact ⟨i, bk, x, hi, hst, hx, hc⟩
    · rw [hnb] at hst; cases hst
  refine ⟨ρ', h1, by simpa using h2, ⟨h3.os, h3.tape, h3.output, h3.size, fun cb hlt hno => h3.block cb hlt fun ho => hno (hown cb ho)⟩, fun i bk' x hi hx hl => ?_, by simpa using h5⟩
  rcases h4 i bk' x hi hx hl with ⟨blk0, hb0, hst⟩ | ho | hge
  · rcases get_set hb0 with ⟨_, hb0⟩ | ⟨_, rfl, _⟩
    · exact .inl ⟨blk0, hb0, hst⟩
    · rw [hnb] at hst; exact absurd hst.symm hl
  · exact .inr (.inl (hown _ ho))
  · exact .inr (.inr hge)

/-- append, on both sides; R: how the model's append runs at what is appended -/
theorem appSim (hm : RM fid ρ h w) {sv : V} {y1 : Value} {k bytes n : Nat} {xs : List V} {vs : List Value} {z : Value} {e : TypeId} {r : V × Heap} {R : Sem Value} (hzk : z.cells.size = k) (hk0 : 0 < k)
    (h1 : RV fid ρ sv y1) (hv : RVs fid ρ xs vs) (hc : allCell xs = true) (hvl : vs.length = n * k)
    (hin : ∀ base len c, y1 = .slice base len c → len + n ≤ c → R.run P w = ((match base with | some a => storeCells (a.add (len * k)) vs | none => pure () : Sem Unit).run P w).andThen fun _ w' => .ok (.slice base (len + n) c) w')
    (hnew : ∀ base len c (old : List Value), y1 = .slice base len c → (∀ w', w'.heap = w.heap → (Builtin.firstCells k len (.slice base len c)).run P w' = .ok old.toArray w') → c < len + n → (len + n) * bytes ≤ room → len + n ≤ room →
      ∃ nc d, len + n ≤ nc ∧ R.run P w = .ok (.slice (some ⟨w.heap.size, 0, none⟩) (len + n) nc) (pushO { w with drawn := d } (.cells ((old ++ vs).toArray ++ Builtin.zeroCells z.cells (nc - (len + n))) e (0, 0))))
    (hp : appH k bytes sv n xs h = some r) : ∃ y w', R.run P w = .ok y w' ∧ HS fid ρ h w r.1 r.2 y w' := by
  unfold appH at hp
  split at hp
  · -- nothing
    rename_i h0
    subst h0
    simp only [Option.bind_eq_some_iff] at hp
    obtain ⟨len, hl, hx⟩ := hp
    cases hx
    obtain ⟨A, c, rfl⟩ := lenV_sound h1 hl
    have hle : len ≤ c := by
      cases h1 with
      | slice g1 g2 g3 g4 g5 => exact g2
      | nils => exact Nat.le_refl _
    have hvs : vs = [] := by simpa using hvl
    subst hvs
    refine ⟨.slice A len c, w, ?_, HS.same hm h1⟩
    rw [hin A len c rfl (by omega)]
    cases A <;> simp [storeCells]
  · rename_i hn0
    split at hp
    · -- nil
      split at hp
      case isFalse => cases hp
      rename_i hc2
      cases hp
      cases h1
      obtain ⟨nc, d, hle, hrun⟩ := hnew none 0 0 [] rfl (fun w' _ => by simp [Builtin.firstCells]) (by omega) (by simpa using hc2.1) (by simpa using hc2.2)
      have hb := newB_append (fid := fid) (ρ := ρ) (w := w) (d := d) (e := e) (need := n) (nc := nc) (old := []) (oldv := []) hzk hk0 .nil hv rfl hc (by simp [hvl]) (by omega)
      simp only [Nat.zero_add] at hrun
      have hs := hs_new hm hb
      simp only [List.nil_append] at hs
      exact ⟨_, _, hrun, by simpa using hs⟩
    · -- known
      rename_i b off len c
      obtain ⟨A, c', rfl⟩ := lenV_sound h1 (show lenV (.slice b off len (.k c)) = some len from rfl)
      split at hp
      · rename_i hle
        simp only [Option.bind_eq_some_iff] at hp
        obtain ⟨h', hw, hx⟩ := hp
        cases hx
        cases h1 with
        | slice g1 g2 g3 g4 g5 =>
          rename_i at' A1
          have := g3 _ rfl
          subst this
          have hA := g5 (by omega)
          subst hA
          obtain ⟨w', q1, q2⟩ := hs_write hm hw g1 hv hc
          refine ⟨_, w', ?_, q2 _ _ (.slice g1 hle (fun c0 h => by cases h; rfl) (fun k h => by cases h) (fun _ => rfl))⟩
          rw [hin _ _ _ rfl hle]
          simp only [add_mk]
          rw [q1 _ (by omega)]
          rfl
      · rename_i hgt
        split at hp
        case isFalse => cases hp
        rename_i hc2
        simp only [Option.bind_eq_some_iff] at hp
        obtain ⟨old, hold, hx⟩ := hp
        cases hx
        have hcc : c' = c := by cases h1 with | slice g1 g2 g3 g4 g5 => exact g3 _ rfl
        subst hcc
        obtain ⟨ov, hov', hro, hol⟩ := firstCells_sound (P := P) (w := w) hm h1 hold
        obtain ⟨nc, d, hle, hrun⟩ := hnew A len c' ov rfl hov' (by omega) hc2.1 hc2.2
        exact ⟨_, _, hrun, hs_new hm (newB_append (w := w) (d := d) (e := e) hzk hk0 hro hv (rdS_cell hm hold) hc (by rw [hol, hvl, Nat.add_mul]) hle)⟩
    · -- open
      rename_i b off len k'
      obtain ⟨A, c, rfl⟩ := lenV_sound h1 (show lenV (.slice b off len (.o k')) = some len from rfl)
      split at hp
      case h_2 => cases hp
      rename_i blk hblk
      split at hp
      case isFalse => cases hp
      rename_i hc1
      obtain ⟨ho, rfl, _⟩ := hc1
      have h1' := h1
      cases h1 with
      | slice g1 g2 g3 g4 g5 =>
        rename_i at' A1
        obtain ⟨_, hsz⟩ := g4 _ rfl
        obtain ⟨hbs, arr, T, harr, hco⟩ := hm.own b blk at' hblk g1 ho
        split at hp
        · rename_i hle
          simp only [Option.bind_eq_some_iff] at hp
          obtain ⟨h', hw, hx⟩ := hp
          cases hx
          have hlc : len + n ≤ c := by
            have : (len + n) * k' ≤ c * k' := by omega
            exact Nat.le_of_mul_le_mul_right this hk0
          have hA := g5 (by omega)
          subst hA
          obtain ⟨w', q1, q2⟩ := hs_write hm hw g1 hv hc
          refine ⟨_, w', ?_, q2 _ _ (.slice g1 hlc (fun c0 h => by cases h) (fun k h => by cases h; exact ⟨hk0, hsz⟩) (fun _ => rfl))⟩
          rw [hin _ _ _ rfl hlc]
          simp only [add_mk]
          rw [q1 _ (by omega)]
          rfl
        · rename_i hgt
          split at hp
          case isFalse => cases hp
          rename_i hc2
          simp only [Option.bind_eq_some_iff] at hp
          obtain ⟨old, hold, hx⟩ := hp
          cases hx
          rcases Nat.lt_or_ge c (len + n) with hlt | hge
          · have hold' : rdS h k' (.slice b off len (.o k')) len = some old := by
              simp only [rdS, rdH, Nat.le_refl, if_true, hblk]
              by_cases h0 : len * k' = 0
              · rw [if_pos h0]
                unfold cut at hold
                split at hold
                · cases hold; simp [h0]
                · cases hold
              · rw [if_neg h0, if_neg (by rw [ho]; decide)]; exact hold
            obtain ⟨ov, hov', hro, hol⟩ := firstCells_sound (P := P) (w := w) hm h1' hold'
            obtain ⟨nc, d, hle, hrun⟩ := hnew (some A1) len c ov rfl hov' hlt hc2.1 hc2.2
            exact ⟨_, _, hrun, hs_kill_new hm hblk rfl (newB_append (w := w) (d := d) (e := e) hzk hk0 hro hv (rdS_cell hm hold') hc (by rw [hol, hvl, Nat.add_mul]) hle)⟩
          · have hA := g5 (by omega)
            obtain ⟨w', q1, q2⟩ := hs_grow hm hblk ho g1 hk0 hsz hold hv hc hvl hge (by omega)
            refine ⟨_, w', ?_, q2 A1 hA⟩
            rw [hin _ _ _ rfl hge]
            subst hA
            simp only [add_mk]
            rw [q1 _ rfl]
            rfl
    · cases hp
end GL
namespace GL
open Go
variable {P : Program} {E : Env} {ρ : Rho} {lam : Nat → Nat → Nat} {s : S} {a : Act} {w : World} {oper : Oper} {args : List Opd} {fid : Nat → FuncId} {h : Heap}

theorem flat_get (zs : List V) (k : Nat) (hk : zs.length = k) : ∀ (m i : Nat), i < m * k → (List.replicate m zs).flatten[i]? = zs[i % k]? := by
  intro m
  induction m with
  | zero => intro i h; simp at h
  | succ m ih =>
    intro i h
    rw [List.replicate_succ, List.flatten_cons]
    rcases Nat.lt_or_ge i k with hl | hl
    · rw [List.getElem?_append_left (by omega), Nat.mod_eq_of_lt hl]
    · rw [List.getElem?_append_right (by omega), hk, ih (i - k) (by rw [Nat.add_mul] at h; omega), ← Nat.mod_eq_sub_mod hl]

theorem zeros_sound {zs : List V} {z : Value} (hz : csMt zs z.cells.toList = true) (n : Nat) : RVs fid ρ (List.replicate n zs).flatten (Builtin.zeroCells z.cells n).toList := by
  have hr := csMt_sound (fid := fid) (ρ := ρ) hz
  have hl : zs.length = z.cells.size := by have := hr.length; simpa using this
  refine .of_get (by simp [Builtin.zeroCells, hl]) fun i x y hx hy => ?_
  have hlt : i < n * z.cells.size := by
    rcases Nat.lt_or_ge i (n * z.cells.size) with h | h
    · exact h
    · rw [List.getElem?_eq_none (by simp [hl]; exact h)] at hx; cases hx
  rw [flat_get zs z.cells.size hl n i hlt] at hx
  obtain ⟨y', hy', hr'⟩ := hr.get hx
  have : y = y' := by
    have e : (Builtin.zeroCells z.cells n).toList[i]? = some (z.cells[i % z.cells.size]!) := by simp [Builtin.zeroCells, hlt]
    rw [e] at hy
    have h2 : z.cells[i % z.cells.size]? = some y' := by simpa using hy'
    rw [getElem!_def, h2] at hy
    exact (Option.some.inj hy).symm
  subst this
  exact hr'

theorem zeros_cell {zs : List V} (hc : allCell zs = true) (n : Nat) : allCell (List.replicate n zs).flatten = true := by
  simp only [allCell, List.all_eq_true, List.mem_flatten, List.mem_replicate]
  rintro x ⟨l, ⟨_, rfl⟩, hx⟩
  exact List.all_eq_true.1 hc x hx

set_option maxRecDepth 20000 in
theorem run_appendZ {t u e ty : TypeId} {k bytes : Nat} {z : Value} {ku kx : IntKind} (hT : AppT P t e k bytes z) (hu : P.underlying u = some (.int ku)) {base : Option Addr} {len c : Nat} {n : Nat} (hr2 : n ≤ 2 ^ 60) (hr3 : n * bytes ≤ 2 ^ 48) :
    (len + n ≤ c → (Builtin.append_ #[t, u] ty #[.slice base len c, .int kx n]).run P w =
      ((match base with | some a => storeCells (a.add (len * k)) (Builtin.zeroCells z.cells n).toList | none => pure () : Sem Unit).run P w).andThen fun _ w' => .ok (.slice base (len + n) c) w') ∧
    (∀ old : List Value, (∀ w', w'.heap = w.heap → (Builtin.firstCells k len (.slice base len c)).run P w' = .ok old.toArray w') → c < len + n → (len + n) * bytes ≤ room → len + n ≤ room →
      ∃ nc d, len + n ≤ nc ∧ (Builtin.append_ #[t, u] ty #[.slice base len c, .int kx n]).run P w =
      .ok (.slice (some ⟨w.heap.size, 0, none⟩) (len + n) nc) (pushO { w with drawn := d } (.cells ((old ++ (Builtin.zeroCells z.cells n).toList).toArray ++ Builtin.zeroCells z.cells (nc - (len + n))) e (0, 0)))) := by
  have hw : IntKind.i64.wrap (n : Int) = n := by simp [IntKind.wrap, IntKind.signed, IntKind.bits]; omega
  have hb : ∃ i, (∀ w', (typeInfo e).run P w' = .ok i w') ∧ i.bytes = bytes := by
    have := hT.hb
    unfold bytesP at this
    cases hinfo : P.info? e with
    | none => simp [hinfo] at this
    | some j => simp [hinfo] at this; exact ⟨j, fun w' => by simp [typeInfo, hinfo], this⟩
  obtain ⟨i, hb, hib⟩ := hb
  have hnn : ¬ (n : Int) < 0 := by omega
  have hbig : ¬ (281474976710656 : Int) < (n : Int) * (bytes : Int) := by omega
  have hap : ∀ w', ((if n * k = 0 then pure #[] else do pure (Builtin.zeroCells (← zeroValue e).cells n)) : Sem (Array Value)).run P w' = .ok (Builtin.zeroCells z.cells n) w' := fun w' => by
    by_cases h0 : n * k = 0
    · simp only [h0, if_true, Sem.run_pure]
      congr 1
      have : (Builtin.zeroCells z.cells n).size = 0 := by simp [Builtin.zeroCells, hT.zk, h0]
      exact (Array.eq_empty_of_size_eq_zero this).symm
    · simp [h0, run_zeroValue hT.hz]
  have harr : ∀ (old : List Value) (X R : Array Value), old.toArray ++ (X ++ R) = (old ++ X.toList).toArray ++ R := fun old X R => by
    rw [← Array.append_assoc]; congr 1; apply Array.toList_inj.1; simp
  have harr0 : ∀ (old : List Value) (R : Array Value), old.toArray ++ R = (old ++ (#[] : Array Value).toList).toArray ++ R := fun old R => by simp
  refine ⟨fun hle => ?_, fun old ho hgt hr1 hr4 => ?_⟩
  · unfold Builtin.append_
    by_cases h0 : n * k = 0
    · have h1 := hap w
      simp only [h0, if_true, Sem.run_pure] at h1
      have h2 : #[] = Builtin.zeroCells z.cells n := by injection h1
      simp only [List.getElem?_toArray, List.getElem?_cons_zero, List.getElem?_cons_succ]
      simp [underlying, hT.hu, run_sizeOf hT.hk, hu, asInt, asIntOf, hw, hb, hib, hnn, hbig, hle, h0, -Int.natCast_nonneg]
      rw [← h2]
      cases base <;> simp
    · simp [underlying, hT.hu, run_sizeOf hT.hk, hu, asInt, asIntOf, hw, hb, hib, hnn, hbig, hle, h0, run_zeroValue hT.hz]
      cases base <;> simp
  · have h2 := nextslicecap_room hgt hr1 hT.small
    have hnle : ¬ len + n ≤ c := by omega
    have hni : ¬ (IntKind.i64.max < (len : Int) + (n : Int)) := by unfold room at hr4; simp [IntKind.max, IntKind.signed, IntKind.bits]; omega
    refine ⟨Question.cut (.appendCap (len + n) c e) (w.tape w.drawn (.appendCap (len + n) c e)), w.drawn + 1, by simp [Question.cut], ?_⟩
    unfold Builtin.append_
    generalize IntKind.i64.max = M at hni ⊢
    have hf : (Question.appendCap (len + n) c e).forced = false := rfl
    by_cases h0 : n * k = 0
    · have h1 := hap w
      simp only [h0, if_true, Sem.run_pure] at h1
      have h3 : #[] = Builtin.zeroCells z.cells n := by injection h1
      simp [underlying, hT.hu, run_sizeOf hT.hk, hu, asInt, asIntOf, hw, hb, hib, hnn, hbig, hnle]
      rw [if_neg hni, if_neg (by simpa using h2)]
      simp only [hf, h0, if_true, if_false, Bool.false_eq_true]
      rw [ho w.drew rfl]
      simp only [run_zeroValue hT.hz, newRow, pushO, Result.andThen_ok, Sem.run_bind, Sem.run_pure, run_newObj]
      rw [← h3, harr0 old]
      rfl
    · simp [underlying, hT.hu, run_sizeOf hT.hk, hu, asInt, asIntOf, hw, hb, hib, hnn, hbig, hnle]
      rw [if_neg hni, if_neg (by simpa using h2)]
      simp only [hf, h0, if_true, if_false, Bool.false_eq_true]
      rw [ho w.drew rfl]
      simp only [run_zeroValue hT.hz, newRow, pushO, Result.andThen_ok, Sem.run_bind, Sem.run_pure, run_newObj]
      rw [harr]
      rfl
end GL
namespace GL
open Go
variable {P : Program} {E : Env} {ρ : Rho} {lam : Nat → Nat → Nat} {s : S} {a : Act} {w : World} {oper : Oper} {args : List Opd} {fid : Nat → FuncId} {h : Heap}

def appZMt (P : Program) (t u : TypeId) (k bytes : Nat) (zs : List V) : Bool :=
  match elemP P t with
  | some e => sizeP P e == some k && bytesP P e == some bytes && decide (bytes ≤ 1024) && (match zeroP P e with | some z => z.cells.size == k && csMt zs z.cells.toList | none => false) && (intP P u).isSome && allCell zs
  | none => false

def eopMt (P : Program) (fid : Nat → FuncId) (op : Op) (o : EOp) (args : List Opd) : Bool :=
  match o with
  | .store k => match op with
    | .store T x v => sizeP P T == some k && argsMt fid [x, v] args
    | _ => false
  | .new o => mopMt P fid op o args
  | .append k bytes => match op with
    | .call { callee := .builtin .append, args := xs, argTypes := ts } => (match ts.toList with | [t, u] => appTMt P t u k bytes && decide (0 < k) | _ => false) && argsMt fid xs.toList args
    | _ => false
  | .appendZ k bytes zs => match op with
    | .call { callee := .builtin .append, args := xs, argTypes := ts } => (match ts.toList with | [t, u] => appZMt P t u k bytes zs && decide (0 < k) | _ => false) && argsMt fid xs.toList args
    | _ => false
  | .copy k => match op with
    | .call { callee := .builtin .copy, args := xs, argTypes := ts } => (match ts.toList with | t :: _ => (match elemP P t with | some e => sizeP P e == some k | none => false) && decide (0 < k) | _ => false) && argsMt fid xs.toList args
    | _ => false
  | .clear _ zs => match op with
    | .call { callee := .builtin .clear, args := xs, argTypes := ts } => (match ts.toList with | t :: _ => (match elemP P t with | some e => (match zeroP P e with | some z => csMt zs z.cells.toList | none => false) | none => false) && allCell zs | _ => false) &&
        argsMt fid xs.toList args
    | _ => false
  | .call => match op with
    | .call { callee := .value f, args := xs, .. } => argsMt fid (f :: xs.toList) args
    | _ => false

theorem outs_of_builtin {R : Sem Value} {y : Value} {w' : World} (he : execOp a.eval oper = (do pure (.value (← R)) : Sem Next)) (hr : R.run P w = .ok y w') : Outs P oper a w y w' := by
  refine .inl ?_
  rw [he]; simp [hr]

theorem eopSim {call : CallF} {o : EOp} {r : V × Heap} (hnc : o ≠ .call) (hmt : eopMt P E.fid oper.op o args = true) (ht : ∀ i, RT E.fid ρ lam s.L (s.σ i) (a.tmps.getD i undef)) (hm : RM E.fid ρ h w)
    (hp : eop call o (args.map s.ev) h = some r) : ∃ y w', Outs P oper a w y w' ∧ HS E.fid ρ h w r.1 r.2 y w' := by
  cases o with
  | store k =>
    simp only [eopMt] at hmt
    split at hmt
    case h_2 => cases hmt
    rename_i T x v hop
    simp only [Bool.and_eq_true, beq_iff_eq] at hmt
    obtain ⟨hk, hargs⟩ := hmt
    have hs := args_sound ht hargs
    simp only [eop] at hp
    split at hp
    case h_2 => cases hp
    rename_i b off x0 heq
    rw [heq] at hs
    obtain ⟨y1, y2, he, h1, h2⟩ := hs.two
    simp at he
    obtain ⟨e1, e2⟩ := he
    split at hp
    case isFalse => cases hp
    rename_i hc
    obtain ⟨hlen, hcell⟩ := hc
    simp only [Option.bind_eq_some_iff] at hp
    obtain ⟨h', hw, hx⟩ := hp
    cases hx
    cases h1 with
    | ptr hb =>
      rename_i at'
      have hc0 := RV.cells h2
      obtain ⟨w', q1, q2⟩ := hs_write (P := P) hm hw hb hc0 hcell
      have hsz : y2.cells.size = k := by have := hc0.length; simp at this; omega
      refine ⟨undef, w', .inr ⟨?_, rfl⟩, q2 _ _ (.tup .nil)⟩
      rw [execOp]
      simp [hop, e1, e2, Instr.storeAt, Instr.sureAddr, storeVar, run_sizeOf hk, hsz, q1 _ rfl]
  | new o =>
    simp only [eop, Option.bind_eq_some_iff] at hp
    obtain ⟨⟨blk, mk⟩, hq, hx⟩ := hp
    cases hx
    obtain ⟨y, w', arr, ho, hn⟩ := mopSim (E := E) hmt ht hm hq
    exact ⟨y, w', ho, hs_new hm hn⟩
  | append k bytes =>
    simp only [eopMt] at hmt
    split at hmt
    case h_2 => cases hmt
    rename_i xs ts hop
    simp only [Bool.and_eq_true] at hmt
    obtain ⟨hT, hargs⟩ := hmt
    split at hT
    case h_2 => cases hT
    rename_i t u hts
    simp only [Bool.and_eq_true, decide_eq_true_eq] at hT
    obtain ⟨hT, hk0⟩ := hT
    obtain ⟨e, z, hT, hu⟩ := appTMt_sound hT
    have hs := args_sound ht hargs
    simp only [eop] at hp
    split at hp
    case h_2 => cases hp
    rename_i sv xv heq
    rw [heq] at hs
    obtain ⟨y1, y2, he, h1, h2⟩ := hs.two
    simp only [Option.bind_eq_some_iff] at hp
    obtain ⟨n, hn, cs, hcs, hp⟩ := hp
    obtain ⟨A, cx, rfl⟩ := lenV_sound h2 hn
    have hx0 : xs.map a.eval = #[y1, .slice A n cx] := by apply Array.toList_inj.1; simpa using he
    have hts0 : ts = #[t, u] := by apply Array.toList_inj.1; simpa using hts
    obtain ⟨vs, hvs', hrv, hvl⟩ := firstCells_sound (P := P) (w := w) hm h2 hcs
    obtain ⟨y, w', q1, q2⟩ := appSim (P := P) (w := w) (R := Builtin.append_ #[t, u] oper.type #[y1, .slice A n cx]) (z := z) (e := e) (bytes := bytes) hm hT.zk hk0 h1 hrv (rdS_cell hm hcs) hvl
      (fun base len c hy hle => by subst hy; exact run_append_in hT hu (hvs' w rfl) hle)
      (fun base len c old hy ho hgt hr hr2 => by subst hy; exact run_append_new hT hu ho hvs' hgt hr hr2) hp
    refine ⟨y, w', outs_of_builtin ?_ q1, q2⟩
    rw [execOp]; simp [hop, resolve, invoke, builtin, hx0, hts0]
  | appendZ k bytes zs =>
    simp only [eopMt] at hmt
    split at hmt
    case h_2 => cases hmt
    rename_i xs ts hop
    simp only [Bool.and_eq_true] at hmt
    obtain ⟨hT, hargs⟩ := hmt
    split at hT
    case h_2 => cases hT
    rename_i t u hts
    simp only [Bool.and_eq_true, decide_eq_true_eq] at hT
    obtain ⟨hT, hk0⟩ := hT
    unfold appZMt at hT
    split at hT
    case h_2 => cases hT
    rename_i e he0
    simp only [Bool.and_eq_true, beq_iff_eq, decide_eq_true_eq] at hT
    obtain ⟨⟨⟨⟨⟨t1, t2⟩, t3⟩, t4⟩, t5⟩, t6⟩ := hT
    split at t4
    case h_2 => cases t4
    rename_i z hz0
    simp only [Bool.and_eq_true, beq_iff_eq] at t4
    obtain ⟨hzk, hz⟩ := t4
    obtain ⟨ku, hku⟩ := Option.isSome_iff_exists.1 t5
    have hu := intP_eq hku
    have hT : AppT P t e k bytes z := ⟨elemP_eq he0, t1, t2, hz0, hzk, t3⟩
    have hs := args_sound ht hargs
    simp only [eop] at hp
    split at hp
    case h_2 => cases hp
    rename_i sv kx n heq
    rw [heq] at hs
    obtain ⟨y1, y2, he, h1, h2⟩ := hs.two
    cases h2
    split at hp
    case isFalse => cases hp
    rename_i hc
    obtain ⟨c1, c2, c3⟩ := hc
    obtain ⟨m, rfl⟩ : ∃ m : Nat, n = m := ⟨n.toNat, by omega⟩
    simp only [Int.toNat_natCast] at hp c2 c3
    have hx0 : xs.map a.eval = #[y1, .int kx m] := by apply Array.toList_inj.1; simpa using he
    have hts0 : ts = #[t, u] := by apply Array.toList_inj.1; simpa using hts
    have hvl : (Builtin.zeroCells z.cells m).toList.length = m * k := by simp [Builtin.zeroCells, hzk]
    have hR := fun (base : Option Addr) (len c : Nat) => run_appendZ (P := P) (w := w) (ty := oper.type) (kx := kx) hT hu (base := base) (len := len) (c := c) (n := m) (by unfold room at c3; omega) (by unfold room at c2; omega)
    obtain ⟨y, w', q1, q2⟩ := appSim (P := P) (w := w) (R := Builtin.append_ #[t, u] oper.type #[y1, .int kx m]) (z := z) (e := e) (bytes := bytes) hm hzk hk0 h1 (zeros_sound hz m) (zeros_cell t6 m) hvl
      (fun base len c hy hle => by subst hy; exact (hR base len c).1 hle)
      (fun base len c old hy ho hgt hr hr2 => by subst hy; exact (hR base len c).2 old ho hgt hr hr2) hp
    refine ⟨y, w', outs_of_builtin ?_ q1, q2⟩
    rw [execOp]; simp [hop, resolve, invoke, builtin, hx0, hts0]
  | copy k =>
    simp only [eopMt] at hmt
    split at hmt
    case h_2 => cases hmt
    rename_i xs ts hop
    simp only [Bool.and_eq_true] at hmt
    obtain ⟨hT, hargs⟩ := hmt
    split at hT
    case h_2 => cases hT
    rename_i t ts' hts
    simp only [Bool.and_eq_true, decide_eq_true_eq] at hT
    obtain ⟨hT, hk0⟩ := hT
    split at hT
    case h_2 => cases hT
    rename_i e he0
    simp only [beq_iff_eq] at hT
    have hu := elemP_eq he0
    have hs := args_sound ht hargs
    simp only [eop] at hp
    split at hp
    case h_2 => cases hp
    rename_i dv sv heq
    rw [heq] at hs
    obtain ⟨y1, y2, he, h1, h2⟩ := hs.two
    simp only [Option.bind_eq_some_iff] at hp
    obtain ⟨n, hn, m, hmm, hp⟩ := hp
    obtain ⟨A, c, rfl⟩ := lenV_sound h1 hn
    obtain ⟨A2, c2, rfl⟩ := lenV_sound h2 hmm
    have hx0 : xs.map a.eval = #[.slice A n c, .slice A2 m c2] := by apply Array.toList_inj.1; simpa using he
    have hts0 : ts[0]? = some t := by rw [← Array.getElem?_toList, hts]; rfl
    have hmin : Nat.min m n = min n m := Nat.min_comm _ _
    split at hp
    · rename_i h0
      cases hp
      have hz : min n m = 0 := by rcases Nat.mul_eq_zero.1 h0 with h | h <;> omega
      refine ⟨.int .i64 (min n m : Nat), w, .inl ?_, HS.same hm (.int _ _)⟩
      rw [execOp]
      have hf : ∀ k, (Builtin.firstCells k 0 (.slice A2 m c2)).run P w = .ok #[] w := fun k => by
        cases A2 <;> simp [Builtin.firstCells, loadCells, loadCellsFrom]
      have hz' : Nat.min m n = 0 := by rw [hmin, hz]
      simp [hop, resolve, invoke, builtin, hx0, Builtin.copy_, hts0, underlying, hu, run_sizeOf hT, Builtin.lenOf, hz', hf, hz, goInt]
      cases A <;> simp [storeCells]
    · rename_i h0
      simp only [Option.bind_eq_some_iff] at hp
      obtain ⟨cs, hcs, hp⟩ := hp
      split at hp
      case h_2 => cases hp
      rename_i b off n' cap'
      have hn' : n' = n := by simpa [lenV] using hn
      subst hn'
      simp only [Option.bind_eq_some_iff] at hp
      obtain ⟨h', hw, hx⟩ := hp
      cases hx
      obtain ⟨vs, hvs, hrv, hvl⟩ := firstCells_sound (P := P) (w := w) hm h2 hcs
      cases h1 with
      | slice g1 g2 g3 g4 g5 =>
        rename_i at' A1
        have hne : min n' m ≠ 0 := fun e => h0 (by simp [e])
        have hA := g5 (by omega)
        subst hA
        obtain ⟨w', q1, q2⟩ := hs_write (P := P) hm hw g1 hrv (rdS_cell hm hcs)
        refine ⟨.int .i64 (min n' m : Nat), w', .inl ?_, q2 _ _ (.int _ _)⟩
        rw [execOp]
        simp [hop, resolve, invoke, builtin, hx0, Builtin.copy_, hts0, underlying, hu, run_sizeOf hT, Builtin.lenOf, hmin, hvs w rfl, q1 _ rfl, goInt]
  | clear k zs =>
    simp only [eopMt] at hmt
    split at hmt
    case h_2 => cases hmt
    rename_i xs ts hop
    simp only [Bool.and_eq_true] at hmt
    obtain ⟨hT, hargs⟩ := hmt
    split at hT
    case h_2 => cases hT
    rename_i t ts' hts
    simp only [Bool.and_eq_true] at hT
    obtain ⟨hT, hzc⟩ := hT
    split at hT
    case h_2 => cases hT
    rename_i e he0
    split at hT
    case h_2 => cases hT
    rename_i z hz0
    have hu := elemP_eq he0
    have hs := args_sound ht hargs
    simp only [eop] at hp
    split at hp
    case h_2 => cases hp
    rename_i sv heq
    rw [heq] at hs
    obtain ⟨y1, he, h1⟩ := hs.one
    have hx0 : xs.map a.eval = #[y1] := by apply Array.toList_inj.1; simpa using he
    have hts0 : ts[0]? = some t := by rw [← Array.getElem?_toList, hts]; rfl
    split at hp
    · cases hp
      cases h1
      refine ⟨.tuple #[], w, .inl ?_, HS.same hm (.tup .nil)⟩
      rw [execOp]; simp [hop, resolve, invoke, builtin, hx0, Builtin.clear_, hts0, underlying, hu]
    · rename_i b off n cap
      split at hp
      · rename_i hn0
        subst hn0
        cases hp
        cases h1
        refine ⟨.tuple #[], w, .inl ?_, HS.same hm (.tup .nil)⟩
        rw [execOp]; simp [hop, resolve, invoke, builtin, hx0, Builtin.clear_, hts0, underlying, hu]
      · rename_i hn0
        simp only [Option.bind_eq_some_iff] at hp
        obtain ⟨h', hw, hx⟩ := hp
        cases hx
        cases h1 with
        | slice g1 g2 g3 g4 g5 =>
          rename_i c at' A1
          have hA := g5 (by omega)
          subst hA
          obtain ⟨w', q1, q2⟩ := hs_write (P := P) hm hw g1 (zeros_sound hT n) (zeros_cell hzc n)
          obtain ⟨n', rfl⟩ : ∃ n', n = n' + 1 := ⟨n - 1, by omega⟩
          refine ⟨.tuple #[], w', .inl ?_, q2 _ _ (.tup .nil)⟩
          rw [execOp]; simp [hop, resolve, invoke, builtin, hx0, Builtin.clear_, hts0, underlying, hu, run_zeroValue hz0, q1 _ rfl]
    · cases hp
  | call => exact absurd rfl hnc
end GL
namespace GL
open Go

def FillC (call : CallF) : Prop := ∀ (f : Nat) (args : List V) (h : Heap) (v : V) (h' : Heap) (p : Nat) (blk : Blk),
  call f args h = some (v, h') → isDead h p = true → isDead h' p = true ∧ call f args (h.set p blk) = some (v, h'.set p blk)

theorem isDead_get {h : Heap} {p : Nat} (hd : isDead h p = true) : ∃ blk, h[p]? = some blk ∧ blk.st = .dead := by
  unfold isDead at hd
  split at hd
  · exact ⟨_, by assumption, by simpa using hd⟩
  · cases hd

theorem isDead_lt {h : Heap} {p : Nat} (hd : isDead h p = true) : p < h.length := by
  obtain ⟨blk, hb, _⟩ := isDead_get hd
  rcases Nat.lt_or_ge p h.length with h1 | h1
  · exact h1
  · rw [List.getElem?_eq_none h1] at hb; cases hb

theorem get_fill {h : Heap} {p b : Nat} {nb blk : Blk} (hd : isDead h p = true) (hb : h[b]? = some blk) (hl : blk.st ≠ .dead) : (h.set p nb)[b]? = some blk ∧ b ≠ p := by
  have hne : b ≠ p := by
    rintro rfl
    obtain ⟨blk', hb', hs⟩ := isDead_get hd
    rw [hb] at hb'; cases hb'; exact hl hs
  exact ⟨by rw [List.getElem?_set_ne (Ne.symm hne)]; exact hb, hne⟩

theorem isDead_set {h : Heap} {p b : Nat} {nb : Blk} (hd : isDead h p = true) (hne : b ≠ p) : isDead (h.set b nb) p = true := by
  unfold isDead at hd ⊢; rw [List.getElem?_set_ne hne]; exact hd

theorem isDead_app {h : Heap} {p : Nat} {l : Heap} (hd : isDead h p = true) : isDead (h ++ l) p = true := by
  have := isDead_lt hd
  unfold isDead at hd ⊢; rw [List.getElem?_append_left this]; exact hd

theorem rdH_fill {h : Heap} {p b off n : Nat} {nb : Blk} {xs : List V} (hd : isDead h p = true) (hr : rdH h b off n = some xs) : rdH (h.set p nb) b off n = some xs := by
  unfold rdH at hr ⊢
  split at hr
  case h_2 => cases hr
  rename_i blk hb
  split at hr
  case isTrue => cases hr
  rename_i hl
  rw [(get_fill hd hb hl).1]
  simp only [hl, if_false]; exact hr

theorem rdS_fill {h : Heap} {p k n : Nat} {x : V} {nb : Blk} {xs : List V} (hd : isDead h p = true) (hr : rdS h k x n = some xs) : rdS (h.set p nb) k x n = some xs := by
  unfold rdS at hr ⊢
  split at hr
  · split at hr
    case isFalse => cases hr
    rename_i h1
    simp only [h1, if_true]
    split at hr
    · rename_i h2; simp only [h2, if_true]; exact hr
    · rename_i h2; simp only [h2, if_false]; exact rdH_fill hd hr
  · exact hr
  · cases hr

theorem wrH_fill {h h' : Heap} {p b off : Nat} {nb : Blk} {xs : List V} (hd : isDead h p = true) (hr : wrH h b off xs = some h') : isDead h' p = true ∧ wrH (h.set p nb) b off xs = some (h'.set p nb) := by
  unfold wrH at hr ⊢
  split at hr
  case h_2 => cases hr
  rename_i blk hb
  split at hr
  case isFalse => cases hr
  rename_i ho
  simp only [Option.bind_eq_some_iff] at hr
  obtain ⟨cs, hcs, hx⟩ := hr
  cases hx
  obtain ⟨hg, hne⟩ := get_fill (nb := nb) hd hb (by rw [ho]; decide)
  refine ⟨isDead_set hd hne, ?_⟩
  rw [hg]
  simp only [ho, if_true, hcs, Option.bind_some]
  rw [List.set_comm _ _ hne]

theorem rop_fill {o : ROp} {as : List T} {h : Heap} {p : Nat} {nb : Blk} {x : V} (hd : isDead h p = true) (hr : rop o as h = some x) : rop o as (h.set p nb) = some x := by
  cases o with
  | load agg k =>
    simp only [rop] at hr ⊢
    split at hr
    case h_2 => cases hr
    simp only [Option.bind_eq_some_iff] at hr
    obtain ⟨cs, hcs, hx⟩ := hr
    simp only [rdH_fill hd hcs, Option.bind_some]; exact hx
  | sliceX k =>
    simp only [rop] at hr ⊢
    split at hr
    case h_2 => cases hr
    simp only [Option.bind_eq_some_iff] at hr
    obtain ⟨l, hl, hh, hhh, hx⟩ := hr
    simp only [hl, hhh, Option.bind_some]
    split at hx
    case h_2 => cases hx
    rename_i blk hb
    split at hx
    case isFalse => cases hx
    rename_i hc
    rw [(get_fill hd hb (by rw [hc.2.2.1]; decide)).1]
    simp only [hc, if_true]
    exact hx

theorem mop_fill {o : MOp} {as : List T} {h : Heap} {p : Nat} {nb : Blk} {r : Blk × (Nat → V)} (hd : isDead h p = true) (hr : mop o as h = some r) : mop o as (h.set p nb) = some r := by
  cases o with
  | alloc => exact hr
  | box => exact hr
  | lit => exact hr
  | make => exact hr
  | appendN k bytes =>
    simp only [mop] at hr ⊢
    split at hr
    case h_2 => cases hr
    simp only [Option.bind_eq_some_iff] at hr
    obtain ⟨n, hn, xs, hxs, hx⟩ := hr
    simp only [hn, Option.bind_some, rdS_fill hd hxs]
    split at hx
    · split at hx
      case isFalse => cases hx
      rename_i hc
      simp only [hc, and_self, if_true]
      simp only [Option.bind_eq_some_iff] at hx
      obtain ⟨old, hold, hx⟩ := hx
      simp only [rdS_fill hd hold, Option.bind_some]; exact hx
    · exact hx
    · cases hx

theorem appH_fill {k bytes n : Nat} {s : V} {xs : List V} {h : Heap} {p : Nat} {nb : Blk} {r : V × Heap} (hd : isDead h p = true) (hr : appH k bytes s n xs h = some r) :
    isDead r.2 p = true ∧ appH k bytes s n xs (h.set p nb) = some (r.1, r.2.set p nb) := by
  have hlt := isDead_lt hd
  unfold appH at hr ⊢
  split at hr
  · rename_i h0
    simp only [Option.bind_eq_some_iff] at hr
    obtain ⟨m, hm, hx⟩ := hr
    cases hx
    simp only [h0, if_true, hm, Option.bind_some]; exact ⟨hd, by first | rfl | trivial⟩
  · rename_i h0
    simp only [h0, if_false]
    split at hr
    · split at hr
      case isFalse => cases hr
      rename_i hc
      cases hr
      simp only [hc, and_self, if_true, List.length_set]
      exact ⟨isDead_app hd, by rw [List.set_append_left _ _ hlt]⟩
    · split at hr
      · rename_i hc
        simp only [Option.bind_eq_some_iff] at hr
        obtain ⟨h', hw, hx⟩ := hr
        cases hx
        obtain ⟨q1, q2⟩ := wrH_fill (nb := nb) hd hw
        simp only [hc, if_true, q2, Option.bind_some]; exact ⟨q1, by first | rfl | trivial⟩
      · rename_i hc
        split at hr
        case isFalse => cases hr
        rename_i hc2
        simp only [Option.bind_eq_some_iff] at hr
        obtain ⟨old, hold, hx⟩ := hr
        cases hx
        simp only [hc, if_false, hc2, and_self, if_true, rdS_fill hd hold, Option.bind_some, List.length_set]
        exact ⟨isDead_app hd, by rw [List.set_append_left _ _ hlt]⟩
    · split at hr
      case h_2 => cases hr
      rename_i blk hb
      split at hr
      case isFalse => cases hr
      rename_i hc
      obtain ⟨hg, hne⟩ := get_fill (nb := nb) hd hb (by rw [hc.1]; decide)
      rw [hg]
      simp only [hc, and_self, if_true]
      split at hr
      · rename_i hc2
        simp only [Option.bind_eq_some_iff] at hr
        obtain ⟨h', hw, hx⟩ := hr
        cases hx
        obtain ⟨q1, q2⟩ := wrH_fill (nb := nb) hd hw
        simp only [hc2, if_true, q2, Option.bind_some]
        exact ⟨q1, by first | rfl | trivial⟩
      · rename_i hc2
        split at hr
        case isFalse => cases hr
        rename_i hc3
        simp only [Option.bind_eq_some_iff] at hr
        obtain ⟨old, hold, hx⟩ := hr
        cases hx
        simp only [hc2, if_false, hc3, and_self, if_true, hold, Option.bind_some, List.length_set]
        refine ⟨isDead_app (isDead_set hd hne), ?_⟩
        rw [List.set_append_left _ _ (by simpa using hlt), List.set_comm _ _ hne]
    · cases hr

theorem eop_fill {call : CallF} (hC : FillC call) {o : EOp} {as : List T} {h : Heap} {p : Nat} {nb : Blk} {r : V × Heap} (hd : isDead h p = true) (hr : eop call o as h = some r) :
    isDead r.2 p = true ∧ eop call o as (h.set p nb) = some (r.1, r.2.set p nb) := by
  have hlt := isDead_lt hd
  cases o with
  | store k =>
    simp only [eop] at hr ⊢
    split at hr
    case h_2 => cases hr
    split at hr
    case isFalse => cases hr
    rename_i hc
    simp only [Option.bind_eq_some_iff] at hr
    obtain ⟨h', hw, hx⟩ := hr
    cases hx
    obtain ⟨q1, q2⟩ := wrH_fill (nb := nb) hd hw
    simp only [hc, and_self, if_true, q2, Option.bind_some]; exact ⟨q1, by first | rfl | trivial⟩
  | new o =>
    simp only [eop, Option.bind_eq_some_iff] at hr ⊢
    obtain ⟨q, hq, hx⟩ := hr
    cases hx
    refine ⟨isDead_app hd, q, mop_fill hd hq, ?_⟩
    rw [List.set_append_left _ _ hlt]; simp
  | append k bytes =>
    simp only [eop] at hr ⊢
    split at hr
    case h_2 => cases hr
    simp only [Option.bind_eq_some_iff] at hr ⊢
    obtain ⟨n, hn, xs, hxs, hx⟩ := hr
    obtain ⟨q1, q2⟩ := appH_fill (nb := nb) hd hx
    exact ⟨q1, n, hn, xs, rdS_fill hd hxs, q2⟩
  | appendZ k bytes z =>
    simp only [eop] at hr ⊢
    split at hr
    case h_2 => cases hr
    split at hr
    case isFalse => cases hr
    rename_i hc
    simp only [hc, and_self, if_true]
    exact appH_fill hd hr
  | copy k =>
    simp only [eop] at hr ⊢
    split at hr
    case h_2 => cases hr
    simp only [Option.bind_eq_some_iff] at hr
    obtain ⟨n, hn, m, hm, hx⟩ := hr
    simp only [hn, hm, Option.bind_some]
    split at hx
    · rename_i h0; cases hx
      simp only [h0, if_true]; exact ⟨hd, by first | rfl | trivial⟩
    · rename_i h0
      simp only [h0, if_false]
      simp only [Option.bind_eq_some_iff] at hx
      obtain ⟨cs, hcs, hx⟩ := hx
      simp only [rdS_fill hd hcs, Option.bind_some]
      split at hx
      case h_2 => cases hx
      simp only [Option.bind_eq_some_iff] at hx
      obtain ⟨h', hw, hx⟩ := hx
      cases hx
      obtain ⟨q1, q2⟩ := wrH_fill (nb := nb) hd hw
      simp only [q2, Option.bind_some]; exact ⟨q1, by first | rfl | trivial⟩
  | clear k z =>
    simp only [eop] at hr ⊢
    split at hr
    case h_2 => cases hr
    split at hr
    · cases hr; exact ⟨hd, by first | rfl | trivial⟩
    · split at hr
      · rename_i h0; cases hr; simp only [h0, if_true]; exact ⟨hd, by first | rfl | trivial⟩
      · rename_i h0
        simp only [h0, if_false]
        simp only [Option.bind_eq_some_iff] at hr
        obtain ⟨h', hw, hx⟩ := hr
        cases hx
        obtain ⟨q1, q2⟩ := wrH_fill (nb := nb) hd hw
        simp only [q2, Option.bind_some]; exact ⟨q1, by first | rfl | trivial⟩
    · cases hr
  | call =>
    simp only [eop] at hr ⊢
    split at hr
    case h_2 => cases hr
    simp only [Option.bind_eq_some_iff] at hr ⊢
    obtain ⟨xs, hxs, hx⟩ := hr
    obtain ⟨q1, q2⟩ := hC _ _ _ _ _ p nb hx hd
    exact ⟨q1, xs, hxs, q2⟩

theorem stable_fill {wt : Nat → Option (ROp × List T × V)} {h : Heap} {p : Nat} {nb : Blk} (hd : isDead h p = true) : ∀ {chk : List Nat}, stable wt h chk → stable wt (h.set p nb) chk
  | [], _ => trivial
  | _ :: _, hs => ⟨fun o as x hw => rop_fill hd (hs.1 o as x hw), stable_fill hd hs.2⟩

def S.fill (s : S) (p : Nat) (nb : Blk) : S := { s with h := s.h.set p nb }

theorem put_h (s : S) (d : Option Nat) (x : T) : (s.put d x).h = s.h := by cases d <;> rfl
theorem put_base (s : S) (d : Option Nat) (x : T) : (s.put d x).base = s.base := by cases d <;> rfl
theorem put_fill (s : S) (d : Option Nat) (x : T) (p : Nat) (nb : Blk) : (s.put d x).fill p nb = (s.fill p nb).put d x := by cases d <;> rfl
theorem ev_fill (s : S) (p : Nat) (nb : Blk) : (s.fill p nb).ev = s.ev := by funext o; cases o <;> rfl

theorem xop_fill {call : CallF} (hC : FillC call) {o : AOper} {s s' : S} {p : Nat} {nb : Blk} (hd : isDead s.h p = true) (hb : p < s.base) (hr : xop call o s = some s') :
    isDead s'.h p = true ∧ s'.base = s.base ∧ xop call o (s.fill p nb) = some (s'.fill p nb) := by
  unfold xop at hr ⊢
  simp only [Option.bind_eq_some_iff] at hr
  obtain ⟨b, hw, hx⟩ := hr
  have hw' : (s.fill p nb).wants o.guard = some b := hw
  simp only [hw', Option.bind_some, ev_fill]
  cases b with
  | false =>
    simp at hx
    subst hx
    simp [put_h, put_base, put_fill, hd]
  | true =>
    simp only [if_true] at hx ⊢
    unfold aop at hx ⊢
    split at hx
    · rename_i po _
      simp only [Option.bind_eq_some_iff] at hx
      obtain ⟨x, hp, hx⟩ := hx
      cases hx
      simp [put_h, put_base, put_fill, hd, hp]
    · rename_i lo _
      simp only [Option.bind_eq_some_iff] at hx
      obtain ⟨x, hp, hx⟩ := hx
      cases hx
      have hp' : lop lo (o.args.map s.ev) (s.fill p nb).L = some x := hp
      simp only [hp', Option.bind_some]
      refine ⟨by rw [put_h]; exact hd, by rw [put_base], ?_⟩
      rw [put_fill]; rfl
    · rename_i ro watch _
      simp only [Option.bind_eq_some_iff] at hx
      obtain ⟨x, hp, hx⟩ := hx
      have hp' : rop ro (o.args.map s.ev) (s.fill p nb).h = some x := rop_fill hd hp
      simp only [hp', Option.bind_some]
      cases watch with
      | false =>
        simp at hx
        subst hx
        simp [put_h, put_base, put_fill, hd]
      | true =>
        simp only [if_true] at hx ⊢
        split at hx
        case isFalse => cases hx
        rename_i hwt
        cases hx
        have hwt' : (s.fill p nb).wt o.ix = none := hwt
        rw [if_pos hwt']
        refine ⟨by rw [put_h]; exact hd, by rw [put_base], ?_⟩
        rw [put_fill]; rfl
    · rename_i eo chk sl _
      simp only [Option.bind_eq_some_iff] at hx
      obtain ⟨x, hp, hx⟩ := hx
      obtain ⟨q1, q2⟩ := eop_fill (nb := nb) hC hd hp
      have q2' : eop call eo (o.args.map s.ev) (s.fill p nb).h = some (x.1, x.2.set p nb) := q2
      simp only [q2', Option.bind_some]
      split at hx
      case isFalse => cases hx
      rename_i hst
      cases hx
      have hst' : stable (s.fill p nb).wt (x.2.set p nb) chk := stable_fill q1 hst.2
      have hal : allDead (s.fill p nb).h (s.fill p nb).base (s.fill p nb).fl sl = true := by
        have := hst.1
        simp only [allDead, List.all_eq_true, Bool.or_eq_true] at this ⊢
        intro j hj
        exact (this j hj).imp id fun h => isDead_set h (by show p ≠ s.base + j; omega)
      rw [if_pos ⟨hal, hst'⟩]
      refine ⟨by rw [put_h]; exact q1, by rw [put_base], ?_⟩
      rw [put_fill]; rfl
    · rename_i mo slot _
      simp only [Option.bind_eq_some_iff] at hx
      obtain ⟨x, hp, hx⟩ := hx
      have hdt : isDead (s.h.take s.base) p = true := by
        unfold isDead at hd ⊢
        rw [List.getElem?_take, if_pos hb]; exact hd
      have htake : (s.fill p nb).h.take (s.fill p nb).base = (s.h.take s.base).set p nb := by
        show (s.h.set p nb).take s.base = _
        rw [List.take_set]
      rw [htake, mop_fill hdt hp]
      simp only [Option.bind_some]
      split at hx
      case isFalse => cases hx
      rename_i hsl
      cases hx
      have hne : s.base + slot ≠ p := by omega
      have hsl' : isDead (s.fill p nb).h ((s.fill p nb).base + slot) = true := isDead_set hsl.2 (Ne.symm hne)
      have hfl' : (s.fill p nb).fl slot = false := hsl.1
      rw [if_pos ⟨hfl', hsl'⟩]
      refine ⟨by rw [put_h]; exact isDead_set hd hne, by rw [put_base], ?_⟩
      rw [put_fill]
      simp only [S.fill]
      rw [List.set_comm _ _ (Ne.symm hne)]
end GL
namespace GL
open Go

theorem xops_fill {call : CallF} (hC : FillC call) : ∀ {l : List AOper} {s s' : S} {p : Nat} {nb : Blk}, isDead s.h p = true → p < s.base → xops call l s = some s' →
    isDead s'.h p = true ∧ s'.base = s.base ∧ xops call l (s.fill p nb) = some (s'.fill p nb)
  | [], s, s', p, nb, hd, hb, hr => by
    simp [xops] at hr; subst hr; exact ⟨hd, rfl, by simp [xops]⟩
  | o :: l, s, s', p, nb, hd, hb, hr => by
    simp only [xops, Option.bind_eq_some_iff] at hr
    obtain ⟨s1, h1, h2⟩ := hr
    obtain ⟨q1, q2, q3⟩ := xop_fill (nb := nb) hC hd hb h1
    obtain ⟨r1, r2, r3⟩ := xops_fill (nb := nb) hC q1 (by omega) h2
    exact ⟨r1, r2.trans q2, by simp only [xops, q3, Option.bind_some]; exact r3⟩

/-- the numbers that a region sets anew do not matter for what follows it -/
def S.sim (s t : S) : Prop := s.σ = t.σ ∧ s.L = t.L ∧ s.h = t.h

theorem begin_sim {s t : S} (h : s.sim t) (n : Nat) : s.begin n = t.begin n := by
  obtain ⟨h1, h2, h3⟩ := h
  cases s; cases t
  simp only at h1 h2 h3
  subst h1; subst h2; subst h3
  rfl

theorem ev_sim {s t : S} (h : s.sim t) : s.ev = t.ev := by
  funext o; cases o <;> simp [S.ev, h.1]

theorem loopN_sim {f : S → Option (Ex × S)} (hf : ∀ s t e s', s.sim t → f s = some (e, s') → ∃ t', f t = some (e, t') ∧ S.sim s' t') :
    ∀ (n : Nat) (s t : S) (e : Ex) (s' : S), s.sim t → loopN f n s = some (e, s') → ∃ t', loopN f n t = some (e, t') ∧ S.sim s' t'
  | 0, _, _, _, _, _, h => by simp [loopN] at h
  | n + 1, s, t, e, s', hst, h => by
    simp only [loopN, Option.bind_eq_some_iff] at h
    obtain ⟨⟨e1, s1⟩, h1, h2⟩ := h
    obtain ⟨t1, k1, k2⟩ := hf s t e1 s1 hst h1
    cases e1 with
    | norm =>
      obtain ⟨t', q1, q2⟩ := loopN_sim hf n s1 t1 e s' k2 h2
      exact ⟨t', by simp only [loopN, k1, Option.bind_some]; exact q1, q2⟩
    | exit i => cases h2; exact ⟨t1, by simp only [loopN, k1, Option.bind_some], k2⟩
    | ret => cases h2; exact ⟨t1, by simp only [loopN, k1, Option.bind_some], k2⟩

theorem xC_sim {call : CallF} {fuel : Nat} : ∀ (c : Code) (s t : S) (e : Ex) (s' : S), s.sim t → xC call fuel c s = some (e, s') → ∃ t', xC call fuel c t = some (e, t') ∧ S.sim s' t'
  | .skip, s, t, e, s', hst, h => by simp only [xC] at h ⊢; cases h; exact ⟨t, rfl, hst⟩
  | .reg rsv ops, s, t, e, s', hst, h => by
    simp only [xC] at h ⊢
    rw [← begin_sim hst]
    exact ⟨s', h, rfl, rfl, rfl⟩
  | .seq a b, s, t, e, s', hst, h => by
    simp only [xC, Option.bind_eq_some_iff] at h ⊢
    obtain ⟨⟨e1, s1⟩, h1, h2⟩ := h
    obtain ⟨t1, k1, k2⟩ := xC_sim a s t e1 s1 hst h1
    cases e1 with
    | norm =>
      obtain ⟨t', q1, q2⟩ := xC_sim b s1 t1 e s' k2 h2
      exact ⟨t', ⟨_, k1, q1⟩, q2⟩
    | exit i => cases h2; exact ⟨t1, ⟨_, k1, rfl⟩, k2⟩
    | ret => cases h2; exact ⟨t1, ⟨_, k1, rfl⟩, k2⟩
  | .cond c a b, s, t, e, s', hst, h => by
    simp only [xC] at h ⊢
    rw [← ev_sim hst]
    split at h
    · exact xC_sim a s t e s' hst h
    · exact xC_sim b s t e s' hst h
    · cases h
  | .block id c, s, t, e, s', hst, h => by
    simp only [xC, Option.bind_eq_some_iff] at h ⊢
    obtain ⟨⟨e1, s1⟩, h1, h2⟩ := h
    obtain ⟨t1, k1, k2⟩ := xC_sim c s t e1 s1 hst h1
    cases e1 with
    | norm => cases h2; exact ⟨t1, ⟨_, k1, rfl⟩, k2⟩
    | exit i =>
      simp only at h2
      split at h2
      · rename_i hi; cases h2; exact ⟨t1, ⟨_, k1, by simp [hi]⟩, k2⟩
      · rename_i hi; cases h2; exact ⟨t1, ⟨_, k1, by simp [hi]⟩, k2⟩
    | ret => cases h2; exact ⟨t1, ⟨_, k1, rfl⟩, k2⟩
  | .loop c, s, t, e, s', hst, h => by
    simp only [xC] at h ⊢
    exact loopN_sim (fun s t e s' => xC_sim c s t e s') fuel s t e s' hst h
  | .exit id, s, t, e, s', hst, h => by simp only [xC] at h ⊢; cases h; exact ⟨t, rfl, hst⟩
  | .ret, s, t, e, s', hst, h => by simp only [xC] at h ⊢; cases h; exact ⟨t, rfl, hst⟩
  | .bad, s, t, e, s', hst, h => by simp [xC] at h

theorem fill_sim {s t : S} (h : s.sim t) (p : Nat) (nb : Blk) : (s.fill p nb).sim (t.fill p nb) := ⟨h.1, h.2.1, by simp [S.fill, h.2.2]⟩

theorem begin_fill {s : S} {p n : Nat} {nb : Blk} (hd : isDead s.h p = true) : (s.fill p nb).begin n = (s.begin n).fill p nb := by
  have := isDead_lt hd
  simp [S.begin, S.fill, List.set_append_left, this]

def FillR (p : Nat) (nb : Blk) (f : S → Option (Ex × S)) : Prop := ∀ (s : S) (e : Ex) (s' : S), isDead s.h p = true → f s = some (e, s') → isDead s'.h p = true ∧ ∃ t', f (s.fill p nb) = some (e, t') ∧ S.sim (s'.fill p nb) t'

theorem loopN_fill' {p : Nat} {nb : Blk} {f : S → Option (Ex × S)} (hf : FillR p nb f) (hs : ∀ s t e s', S.sim s t → f s = some (e, s') → ∃ t', f t = some (e, t') ∧ S.sim s' t') : ∀ n, FillR p nb (loopN f n)
  | 0 => fun s e s' _ h => by simp [loopN] at h
  | n + 1 => fun s e s' hd h => by
    simp only [loopN, Option.bind_eq_some_iff] at h
    obtain ⟨⟨e1, s1⟩, h1, h2⟩ := h
    obtain ⟨d1, t1, k1, k2⟩ := hf s e1 s1 hd h1
    cases e1 with
    | norm =>
      obtain ⟨d2, t2, q1, q2⟩ := loopN_fill' hf hs n s1 e s' d1 h2
      obtain ⟨t3, r1, r2⟩ := loopN_sim hs n _ t1 e t2 k2 q1
      exact ⟨d2, t3, by simp only [loopN, k1, Option.bind_some]; exact r1, q2.1.trans r2.1, q2.2.1.trans r2.2.1, q2.2.2.trans r2.2.2⟩
    | exit i => cases h2; exact ⟨d1, t1, by simp only [loopN, k1, Option.bind_some], k2⟩
    | ret => cases h2; exact ⟨d1, t1, by simp only [loopN, k1, Option.bind_some], k2⟩

theorem xC_fill {call : CallF} (hC : FillC call) {fuel p : Nat} {nb : Blk} : ∀ (c : Code), FillR p nb (xC call fuel c)
  | .skip => fun s e s' hd h => by simp only [xC] at h ⊢; cases h; exact ⟨hd, _, rfl, rfl, rfl, rfl⟩
  | .reg rsv ops => fun s e s' hd h => by
    simp only [xC, Option.bind_eq_some_iff] at h ⊢
    obtain ⟨s1, h1, h2⟩ := h
    cases h2
    obtain ⟨q1, q2, q3⟩ := xops_fill (nb := nb) hC (p := p) (s := s.begin rsv) (isDead_app hd) (isDead_lt hd) h1
    exact ⟨q1, _, ⟨_, by rw [begin_fill hd]; exact q3, rfl⟩, rfl, rfl, rfl⟩
  | .seq a b => fun s e s' hd h => by
    simp only [xC, Option.bind_eq_some_iff] at h ⊢
    obtain ⟨⟨e1, s1⟩, h1, h2⟩ := h
    obtain ⟨d1, t1, k1, k2⟩ := xC_fill hC a s e1 s1 hd h1
    cases e1 with
    | norm =>
      obtain ⟨d2, t2, q1, q2⟩ := xC_fill (p := p) (nb := nb) hC b s1 e s' d1 h2
      obtain ⟨t3, r1, r2⟩ := xC_sim b _ t1 e t2 k2 q1
      exact ⟨d2, t3, ⟨_, k1, r1⟩, q2.1.trans r2.1, q2.2.1.trans r2.2.1, q2.2.2.trans r2.2.2⟩
    | exit i => cases h2; exact ⟨d1, t1, ⟨_, k1, rfl⟩, k2⟩
    | ret => cases h2; exact ⟨d1, t1, ⟨_, k1, rfl⟩, k2⟩
  | .cond c a b => fun s e s' hd h => by
    simp only [xC] at h ⊢
    rw [ev_fill]
    split at h
    · exact xC_fill hC a s e s' hd h
    · exact xC_fill hC b s e s' hd h
    · cases h
  | .block id c => fun s e s' hd h => by
    simp only [xC, Option.bind_eq_some_iff] at h ⊢
    obtain ⟨⟨e1, s1⟩, h1, h2⟩ := h
    obtain ⟨d1, t1, k1, k2⟩ := xC_fill hC c s e1 s1 hd h1
    cases e1 with
    | norm => cases h2; exact ⟨d1, t1, ⟨_, k1, rfl⟩, k2⟩
    | exit i =>
      simp only at h2
      split at h2
      · rename_i hi; cases h2; exact ⟨d1, t1, ⟨_, k1, by simp [hi]⟩, k2⟩
      · rename_i hi; cases h2; exact ⟨d1, t1, ⟨_, k1, by simp [hi]⟩, k2⟩
    | ret => cases h2; exact ⟨d1, t1, ⟨_, k1, rfl⟩, k2⟩
  | .loop c => fun s e s' hd h => by
    simp only [xC] at h ⊢
    exact loopN_fill' (xC_fill hC c) (fun s t e s' => xC_sim c s t e s') fuel s e s' hd h
  | .exit id => fun s e s' hd h => by simp only [xC] at h ⊢; cases h; exact ⟨hd, _, rfl, rfl, rfl, rfl⟩
  | .ret => fun s e s' hd h => by simp only [xC] at h ⊢; cases h; exact ⟨hd, _, rfl, rfl, rfl, rfl⟩
  | .bad => fun s e s' hd h => by simp [xC] at h

theorem resV_fill {s t : S} {p : Nat} {nb : Blk} (hd : isDead s.h p = true) (hs : S.sim (s.fill p nb) t) {r : Res} {x : V} (h : resV s r = some x) : resV t r = some x := by
  obtain ⟨h1, h2, h3⟩ := hs
  cases r with
  | tmp i => simp only [resV] at h ⊢; rw [← h1]; exact h
  | cellL a i agg k => simp only [resV] at h ⊢; rw [← h1, ← h2]; exact h
  | cellH a agg k => simp only [resV] at h ⊢; rw [← h1, ← h3]; exact rop_fill hd h

theorem resVs_fill {s t : S} {p : Nat} {nb : Blk} (hd : isDead s.h p = true) (hs : S.sim (s.fill p nb) t) : ∀ {rs : List Res} {xs : List V}, resVs s rs = some xs → resVs t rs = some xs
  | [], xs, h => by simpa [resVs] using h
  | r :: rs, xs, h => by
    simp only [resVs, Option.bind_eq_some_iff] at h ⊢
    obtain ⟨x, hx, ys, hy, he⟩ := h
    exact ⟨x, resV_fill hd hs hx, ys, resVs_fill hd hs hy, he⟩

theorem finish_fill {e : Ex} {s t : S} {p : Nat} {nb : Blk} (hd : isDead s.h p = true) (hs : S.sim (s.fill p nb) t) {rs : List Res} {v : V} {h' : Heap} (h : finish rs (e, s) = some (v, h')) :
    isDead h' p = true ∧ finish rs (e, t) = some (v, h'.set p nb) := by
  have ht : t.h = s.h.set p nb := hs.2.2.symm
  have key : (resVs s rs).bind (fun xs => match xs with | [x] => some (x, s.h) | xs => some (.tup xs, s.h)) = some (v, h') →
      isDead h' p = true ∧ (resVs t rs).bind (fun xs => match xs with | [x] => some (x, t.h) | xs => some (.tup xs, t.h)) = some (v, h'.set p nb) := fun h => by
    simp only [Option.bind_eq_some_iff] at h
    obtain ⟨xs, hx, hy⟩ := h
    rw [resVs_fill hd hs hx]
    simp only [Option.bind_some]
    split at hy <;> (cases hy; exact ⟨hd, by simp [ht]⟩)
  cases e with
  | norm => exact key h
  | exit i => simp [finish] at h
  | ret => exact key h

theorem callN_fill {p : Prog} (hE : ∀ f e, p.ext f = some e → FillC fun _ => e) : ∀ n, FillC (callN p n)
  | 0 => fun _ _ _ _ _ _ _ h _ => by simp [callN] at h
  | n + 1 => fun f args h v h' q nb hr hd => by
    simp only [callN] at hr ⊢
    split at hr
    · rename_i e he
      exact hE f e he 0 args h v h' q nb hr hd
    · split at hr
      case h_2 => cases hr
      rename_i fn hfn
      simp only [Option.bind_eq_some_iff] at hr ⊢
      obtain ⟨⟨e, s⟩, h1, h2⟩ := hr
      obtain ⟨d1, t1, k1, k2⟩ := xC_fill (p := q) (nb := nb) (callN_fill hE n) fn.body (init args h) e s hd h1
      obtain ⟨d2, q2⟩ := finish_fill d1 k2 h2
      exact ⟨d2, _, k1, q2⟩
end GL
namespace GL
open Go

def AOper.reads (o : AOper) : List Nat := (o.args.filterMap fun | .t n => some n | _ => none) ++ (match o.guard with | some (g, _) => [g] | none => [])

def LOp.slot : LOp → Nat
  | .alloc t _ | .box t _ | .load t _ _ | .store t _ => t
def LOp.rd : LOp → Bool
  | .load .. => true
  | _ => false

def MOp.quiet : MOp → Bool
  | .appendN .. => false
  | _ => true

/-- may the second of two operations come first? -/
def clsOK (o b : AOper) : Bool :=
  match o.op, b.op with
  | .p _, _ | _, .p _ => true
  | .l x, .l y => x.slot != y.slot || (x.rd && y.rd)
  | .l _, _ | _, .l _ => true
  | .r _ w, .r _ w' => o.ix != b.ix || !(w && w')
  | .r _ w, .e _ chk _ => w && chk.contains o.ix
  | .r _ _, .m _ _ => true
  | .e _ _ sl, .m y j => y.quiet && sl.contains j
  | .m _ j, .m _ k => j != k
  | _, _ => false

def indepB (o b : AOper) : Bool :=
  (match o.dst with | some d => !(b.reads.contains d) && b.dst != some d | none => true) && (match b.dst with | some d => !(o.reads.contains d) | none => true) && clsOK o b

theorem upd_comm {α : Type} (f : Nat → α) {i j : Nat} (x y : α) (h : i ≠ j) : upd (upd f i x) j y = upd (upd f j y) i x := by
  funext k; simp only [upd]
  by_cases h1 : k = i <;> by_cases h2 : k = j <;> simp_all

theorem put_comm (s : S) {d e : Option Nat} (x y : T) (h : ∀ i, d = some i → e ≠ some i) : (s.put d x).put e y = (s.put e y).put d x := by
  cases d with
  | none => rfl
  | some d =>
    cases e with
    | none => rfl
    | some e =>
      simp only [S.put]
      rw [upd_comm _ _ _ (by intro he; exact h d rfl (by rw [he]))]

theorem put_σ_ne (s : S) {d : Option Nat} (x : T) {i : Nat} (h : d ≠ some i) : (s.put d x).σ i = s.σ i := by
  cases d with
  | none => rfl
  | some d => simp only [S.put, upd]; rw [if_neg (by intro e; exact h (by rw [e]))]

theorem args_put (s : S) {d : Option Nat} (x : T) {o : AOper} (h : ∀ i, d = some i → i ∉ o.reads) : o.args.map (s.put d x).ev = o.args.map s.ev := by
  apply List.map_congr_left
  intro a ha
  cases a with
  | t n =>
    simp only [S.ev]
    refine put_σ_ne s x ?_
    intro e
    refine h n e ?_
    simp only [AOper.reads, List.mem_append, List.mem_filterMap]
    exact .inl ⟨.t n, ha, rfl⟩
  | c x => rfl
  | f n => rfl

theorem wants_put (s : S) {d : Option Nat} (x : T) {o : AOper} (h : ∀ i, d = some i → i ∉ o.reads) : (s.put d x).wants o.guard = s.wants o.guard := by
  cases hg : o.guard with
  | none => rfl
  | some g =>
    obtain ⟨g, w⟩ := g
    have : (s.put d x).σ g = s.σ g := put_σ_ne s x fun e => h g e (by simp [AOper.reads, hg])
    simp only [S.wants, this]

/-- the memory part of an operation, and what it gives -/
structure M where
  L : Nat → Nat × List V
  h : Heap
  wt : Nat → Option (ROp × List T × V)
  fl : Nat → Bool

open Classical in
noncomputable def mem (call : CallF) (ix base : Nat) (op : AOp) (as : List T) (m : M) : Option (T × M) :=
  match op with
  | .p o => (pop o as).bind fun x => some (x, m)
  | .l o => (lop o as m.L).bind fun r => some (r.1, { m with L := r.2 })
  | .r o watch => (rop o as m.h).bind fun x =>
    if watch then (if m.wt ix = none then some (.v x, { m with wt := upd m.wt ix (some (o, as, x)) }) else none) else some (.v x, m)
  | .e o chk sl => (eop call o as m.h).bind fun r => if allDead m.h base m.fl sl = true ∧ stable m.wt r.2 chk then some (.v r.1, { m with h := r.2 }) else none
  | .m o slot => (mop o as (m.h.take base)).bind fun r =>
    if m.fl slot = false ∧ isDead m.h (base + slot) = true then some (.v (r.2 (base + slot)), { m with h := m.h.set (base + slot) r.1, fl := upd m.fl slot true }) else none

def S.m (s : S) : M := ⟨s.L, s.h, s.wt, s.fl⟩
def S.withM (s : S) (m : M) : S := { s with L := m.L, h := m.h, wt := m.wt, fl := m.fl }

theorem aop_mem (call : CallF) (ix : Nat) (dst : Option Nat) (op : AOp) (as : List T) (s : S) :
    aop call ix dst op as s = (mem call ix s.base op as s.m).bind fun r => some ((s.withM r.2).put dst r.1) := by
  unfold aop mem
  cases op with
  | p o =>
    show (pop o as).bind _ = ((pop o as).bind _).bind _
    cases pop o as <;> simp <;> rfl
  | l o =>
    show (lop o as s.L).bind _ = ((lop o as s.L).bind _).bind _
    cases lop o as s.L <;> simp <;> rfl
  | r o w =>
    show (rop o as s.h).bind _ = ((rop o as s.h).bind _).bind _
    cases rop o as s.h with
    | none => rfl
    | some x =>
      simp only [Option.bind_some]
      cases w with
      | false => rfl
      | true =>
        simp only [if_true]
        have : s.m.wt ix = s.wt ix := rfl
        rw [this]
        split <;> rfl
  | e o chk sl =>
    show (eop call o as s.h).bind _ = ((eop call o as s.h).bind _).bind _
    cases eop call o as s.h with
    | none => rfl
    | some r =>
      simp only [Option.bind_some]
      have e1 : s.m.wt = s.wt := rfl
      have e2 : s.m.h = s.h := rfl
      have e3 : s.m.fl = s.fl := rfl
      rw [e1, e2, e3]
      split <;> rfl
  | m o slot =>
    show (mop o as (s.h.take s.base)).bind _ = ((mop o as (s.h.take s.base)).bind _).bind _
    cases mop o as (s.h.take s.base) with
    | none => rfl
    | some r =>
      simp only [Option.bind_some]
      have e1 : s.m.h = s.h := rfl
      have e2 : s.m.fl = s.fl := rfl
      rw [e1, e2]
      split <;> rfl

theorem lop_comm {x y : LOp} {as bs : List T} {L : Nat → Nat × List V} {r q : T × (Nat → Nat × List V)} (hs : x.slot ≠ y.slot ∨ (x.rd = true ∧ y.rd = true)) (h1 : lop x as L = some r) (h2 : lop y bs r.2 = some q) :
    ∃ r' L', lop y bs L = some (q.1, r') ∧ lop x as r' = some (r.1, L') ∧ L' = q.2 := by
  have rdL : ∀ {z : LOp} {as : List T} {L : Nat → Nat × List V} {r : T × (Nat → Nat × List V)}, z.rd = true → lop z as L = some r → r.2 = L := by
    intro z as L r hz h
    cases z with
    | load t agg k =>
      simp only [lop] at h
      split at h
      · split at h
        · simp only [Option.bind_eq_some_iff] at h
          obtain ⟨_, _, _, _, he⟩ := h; cases he; rfl
        · cases h
      · cases h
    | _ => simp [LOp.rd] at hz
  rcases hs with hne | ⟨hx, hy⟩
  · -- other slots
    have ext : ∀ {z : LOp} {as : List T} {L : Nat → Nat × List V} {r : T × (Nat → Nat × List V)}, lop z as L = some r → (∃ c, r.2 = upd L z.slot c ∧ ∀ L0, L0 z.slot = L z.slot → lop z as L0 = some (r.1, upd L0 z.slot c)) ∨ (r.2 = L ∧ ∀ L0, L0 z.slot = L z.slot → lop z as L0 = some (r.1, L0)) := by
      intro z as L r h
      cases z with
      | alloc t z =>
        simp only [lop] at h
        split at h
        · cases h
          exact .inl ⟨_, rfl, fun L0 h0 => by simp only [lop, LOp.slot] at h0 ⊢; rw [h0]⟩
        · cases h
      | box t n =>
        simp only [lop] at h
        split at h
        · split at h
          · rename_i hc
            cases h
            exact .inl ⟨_, rfl, fun L0 h0 => by simp only [lop, LOp.slot, hc, and_self, if_true] at h0 ⊢; rw [h0]⟩
          · cases h
        · cases h
      | load t agg k =>
        simp only [lop] at h
        split at h
        · split at h
          · rename_i hc
            simp only [Option.bind_eq_some_iff] at h
            obtain ⟨cs, hcs, x, hx, he⟩ := h
            cases he
            exact .inr ⟨rfl, fun L0 h0 => by simp only [lop, LOp.slot] at h0 ⊢; rw [h0]; simp only [hc, and_self, if_true, hcs, hx, Option.bind_some]⟩
          · cases h
        · cases h
      | store t k =>
        simp only [lop] at h
        split at h
        · split at h
          · rename_i hc
            simp only [Option.bind_eq_some_iff] at h
            obtain ⟨cs, hcs, he⟩ := h
            cases he
            exact .inl ⟨_, rfl, fun L0 h0 => by simp only [lop, LOp.slot] at h0 ⊢; rw [h0]; simp only [hc, and_self, if_true, hcs, Option.bind_some]⟩
          · cases h
        · cases h
    rcases ext h1 with ⟨c1, e1, f1⟩ | ⟨e1, f1⟩ <;> rcases ext h2 with ⟨c2, e2, f2⟩ | ⟨e2, f2⟩
    · refine ⟨upd L y.slot c2, upd (upd L y.slot c2) x.slot c1, ?_, ?_, ?_⟩
      · exact f2 L (by rw [e1]; simp [upd, Ne.symm hne])
      · exact f1 _ (by simp [upd, hne])
      · rw [e2, e1, upd_comm _ _ _ (Ne.symm hne)]
    · refine ⟨L, upd L x.slot c1, f2 L (by rw [e1]; simp [upd, Ne.symm hne]), f1 L rfl, by rw [e2, e1]⟩
    · refine ⟨upd L y.slot c2, upd L y.slot c2, f2 L (by rw [e1]), f1 _ (by simp [upd, hne]), by rw [e2, e1]⟩
    · exact ⟨L, L, f2 L (by rw [e1]), f1 L rfl, by rw [e2, e1]⟩
  · have e1 := rdL hx h1
    have e2 := rdL hy h2
    rw [e1] at h2 e2
    obtain ⟨r1, r2⟩ := r
    obtain ⟨q1, q2⟩ := q
    simp only at e1 e2 h1 h2 ⊢
    subst e1; subst e2
    exact ⟨_, _, h2, h1, rfl⟩
end GL
namespace GL
open Go

theorem mop_take {o : MOp} {as : List T} {h h' : Heap} (hq : o.quiet = true) : mop o as h = mop o as h' := by
  cases o <;> first | rfl | simp [MOp.quiet] at hq

theorem mem_comm {call : CallF} (hC : FillC call) {o b : AOper} {base : Nat} {as bs : List T} {m m1 m2 : M} {x y : T} (hc : clsOK o b = true)
    (h1 : mem call o.ix base o.op as m = some (x, m1)) (h2 : mem call b.ix base b.op bs m1 = some (y, m2)) :
    ∃ m', mem call b.ix base b.op bs m = some (y, m') ∧ mem call o.ix base o.op as m' = some (x, m2) := by
  obtain ⟨oi, od, og, oo, oa⟩ := o
  obtain ⟨bi, bd, bg, bo, ba⟩ := b
  simp only at h1 h2 ⊢
  -- an operation that looks at its operands alone
  have hp1 : ∀ (p : POp) {ix : Nat} {as : List T} {m m1 : M} {x : T}, mem call ix base (.p p) as m = some (x, m1) → m1 = m ∧ ∀ m0, mem call ix base (.p p) as m0 = some (x, m0) := by
    intro p ix as m m1 x h
    simp only [mem, Option.bind_eq_some_iff] at h
    obtain ⟨r, hr, he⟩ := h
    cases he
    exact ⟨rfl, fun m0 => by simp only [mem, hr, Option.bind_some]⟩
  -- a local one
  have hl1 : ∀ (l : LOp) {ix : Nat} {as : List T} {m m1 : M} {x : T}, mem call ix base (.l l) as m = some (x, m1) → m1.h = m.h ∧ m1.wt = m.wt ∧ m1.fl = m.fl ∧ lop l as m.L = some (x, m1.L) := by
    intro l ix as m m1 x h
    simp only [mem, Option.bind_eq_some_iff] at h
    obtain ⟨r, hr, he⟩ := h
    cases he
    exact ⟨rfl, rfl, rfl, hr⟩
  -- one that is not local
  have hn1 : ∀ (q : AOp) {ix : Nat} {as : List T} {m m1 : M} {x : T}, (∀ l, q ≠ .l l) → mem call ix base q as m = some (x, m1) → m1.L = m.L ∧ ∀ L0, mem call ix base q as { m with L := L0 } = some (x, { m1 with L := L0 }) := by
    intro q ix as m m1 x hq h
    cases q with
    | l l => exact absurd rfl (hq l)
    | p p => obtain ⟨e, f⟩ := hp1 p h; subst e; exact ⟨rfl, fun L0 => f _⟩
    | r r w =>
      simp only [mem, Option.bind_eq_some_iff] at h ⊢
      obtain ⟨v, hv, he⟩ := h
      cases w with
      | false => simp at he; obtain ⟨rfl, rfl⟩ := he; exact ⟨rfl, fun L0 => ⟨v, hv, rfl⟩⟩
      | true =>
        simp only [if_true] at he
        split at he
        · rename_i hw; cases he; exact ⟨rfl, fun L0 => ⟨v, hv, by simp [hw]⟩⟩
        · cases he
    | e e chk sl =>
      simp only [mem, Option.bind_eq_some_iff] at h ⊢
      obtain ⟨v, hv, he⟩ := h
      split at he
      · rename_i hw; cases he; exact ⟨rfl, fun L0 => ⟨v, hv, by simp [hw]⟩⟩
      · cases he
    | m mo slot =>
      simp only [mem, Option.bind_eq_some_iff] at h ⊢
      obtain ⟨v, hv, he⟩ := h
      split at he
      · rename_i hw; cases he; exact ⟨rfl, fun L0 => ⟨v, hv, by simp [hw]⟩⟩
      · cases he
  by_cases hpo : ∃ p, oo = .p p
  · obtain ⟨p, rfl⟩ := hpo
    obtain ⟨e, f⟩ := hp1 p h1
    subst e
    exact ⟨m2, h2, f _⟩
  by_cases hpb : ∃ p, bo = .p p
  · obtain ⟨p, rfl⟩ := hpb
    obtain ⟨e, f⟩ := hp1 p h2
    subst e
    exact ⟨m, f _, h1⟩
  by_cases hlo : ∃ l, oo = .l l
  · obtain ⟨lo, rfl⟩ := hlo
    by_cases hlb : ∃ l, bo = .l l
    · obtain ⟨lb, rfl⟩ := hlb
      obtain ⟨a1, a2, a4, a3⟩ := hl1 lo h1
      obtain ⟨b1, b2, b4, b3⟩ := hl1 lb h2
      simp only [clsOK, Bool.or_eq_true, bne_iff_ne, ne_eq, Bool.and_eq_true] at hc
      obtain ⟨r', L', q1, q2, q3⟩ := lop_comm hc a3 b3
      refine ⟨{ m with L := r' }, by simp only [mem, q1, Option.bind_some], ?_⟩
      simp only [mem, q2, Option.bind_some]
      obtain ⟨L2, h2', w2, f2⟩ := m2
      simp only at b1 b2 b4 q3
      subst q3
      rw [a1] at b1; rw [a2] at b2; rw [a4] at b4
      subst b1; subst b2; subst b4
      rfl
    · obtain ⟨a1, a2, a4, a3⟩ := hl1 lo h1
      obtain ⟨b1, b2⟩ := hn1 bo (fun l h => hlb ⟨l, h⟩) h2
      refine ⟨{ m2 with L := m.L }, ?_, ?_⟩
      · have := b2 m.L
        have e : ({ m1 with L := m.L } : M) = m := by
          obtain ⟨L0, h0, w0, f0⟩ := m; obtain ⟨L1, h1', w1, f1⟩ := m1
          simp only at a1 a2 a4 ⊢; subst a1; subst a2; subst a4; rfl
        rw [e] at this; exact this
      · simp only [mem, a3, Option.bind_some]
        rw [← b1]
  · by_cases hlb : ∃ l, bo = .l l
    · obtain ⟨lb, rfl⟩ := hlb
      obtain ⟨a1, a2⟩ := hn1 oo (fun l h => hlo ⟨l, h⟩) h1
      obtain ⟨b1, b2, b4, b3⟩ := hl1 lb h2
      rw [a1] at b3
      refine ⟨{ m with L := m2.L }, by simp only [mem, b3, Option.bind_some], ?_⟩
      have := a2 m2.L
      rw [this]
      congr 2
      obtain ⟨L2, h2', w2, f2⟩ := m2
      simp only at b1 b2 b4 ⊢
      subst b1; subst b2; subst b4; rfl
    · -- both touch blocks
      cases oo with
      | p p => exact absurd ⟨p, rfl⟩ hpo
      | l l => exact absurd ⟨l, rfl⟩ hlo
      | r ro wo =>
        cases bo with
        | p p => exact absurd ⟨p, rfl⟩ hpb
        | l l => exact absurd ⟨l, rfl⟩ hlb
        | r rb wb =>
          simp only [mem, Option.bind_eq_some_iff] at h1 h2 ⊢
          obtain ⟨v, hv, he⟩ := h1
          obtain ⟨u, hu, hf⟩ := h2
          simp only [clsOK, Bool.or_eq_true, bne_iff_ne, ne_eq, Bool.not_eq_true', Bool.and_eq_false_iff] at hc
          cases wo <;> cases wb <;> simp only [if_true, if_false, Bool.false_eq_true] at he hf ⊢
          · cases he; cases hf; exact ⟨m, ⟨u, hu, rfl⟩, v, hv, rfl⟩
          · cases he
            split at hf
            · rename_i hw; cases hf; exact ⟨{ m with wt := upd m.wt bi (some (rb, bs, u)) }, ⟨u, hu, by rw [if_pos hw]⟩, v, hv, rfl⟩
            · cases hf
          · split at he
            · rename_i hw; cases he; cases hf; exact ⟨m, ⟨u, hu, rfl⟩, v, hv, by rw [if_pos hw]⟩
            · cases he
          · have hne : oi ≠ bi := by simpa using hc
            split at he
            · rename_i hw
              cases he
              split at hf
              · rename_i hw2
                cases hf
                have hw2' : m.wt bi = none := by simpa [upd, Ne.symm hne] using hw2
                refine ⟨{ m with wt := upd m.wt bi (some (rb, bs, u)) }, ⟨u, hu, by rw [if_pos hw2']⟩, v, hv, ?_⟩
                rw [if_pos (by simpa [upd, hne] using hw)]
                simp only [upd_comm _ _ _ hne]
              · cases hf
            · cases he
        | e eb chk sl =>
          simp only [mem, Option.bind_eq_some_iff] at h1 h2 ⊢
          obtain ⟨v, hv, he⟩ := h1
          obtain ⟨u, hu, hf⟩ := h2
          simp only [clsOK, Bool.and_eq_true, List.contains_iff_mem] at hc
          obtain ⟨rfl, hmem⟩ := hc
          simp only [if_true] at he ⊢
          split at he
          case isFalse => cases he
          rename_i hw
          cases he
          split at hf
          case isFalse => cases hf
          rename_i hst
          cases hf
          have hst' : ∀ {chk : List Nat}, stable (upd m.wt oi (some (ro, as, v))) u.2 chk → stable m.wt u.2 chk := by
            intro chk
            induction chk with
            | nil => intro _; trivial
            | cons i r ih =>
              rintro ⟨g1, g2⟩
              refine ⟨fun o as x hwx => ?_, ih g2⟩
              by_cases hi : i = oi
              · subst hi; rw [hw] at hwx; cases hwx
              · exact g1 o as x (by simpa [upd, hi] using hwx)
          have hval : ∀ {chk : List Nat}, oi ∈ chk → stable (upd m.wt oi (some (ro, as, v))) u.2 chk → rop ro as u.2 = some v := by
            intro chk
            induction chk with
            | nil => intro h; cases h
            | cons i r ih =>
              rintro hm ⟨g1, g2⟩
              rcases List.mem_cons.1 hm with rfl | hm
              · exact g1 ro as v (by simp [upd])
              · exact ih hm g2
          exact ⟨{ m with h := u.2 }, ⟨u, hu, by rw [if_pos ⟨hst.1, hst' hst.2⟩]⟩, v, hval hmem hst.2, by rw [if_pos hw]⟩
        | m mb slot =>
          simp only [mem, Option.bind_eq_some_iff] at h1 h2 ⊢
          obtain ⟨v, hv, he⟩ := h1
          obtain ⟨u, hu, hf⟩ := h2
          cases wo <;> simp only [if_true, if_false, Bool.false_eq_true] at he ⊢
          · cases he
            split at hf
            case isFalse => cases hf
            rename_i hd
            cases hf
            exact ⟨{ m with h := m.h.set (base + slot) u.1, fl := upd m.fl slot true }, ⟨u, hu, by rw [if_pos hd]⟩, v, rop_fill hd.2 hv, rfl⟩
          · split at he
            case isFalse => cases he
            rename_i hw
            cases he
            split at hf
            case isFalse => cases hf
            rename_i hd
            cases hf
            exact ⟨{ m with h := m.h.set (base + slot) u.1, fl := upd m.fl slot true }, ⟨u, hu, by rw [if_pos hd]⟩, v, rop_fill hd.2 hv, by rw [if_pos hw]⟩
      | e eo chk sl =>
        cases bo with
        | p p => exact absurd ⟨p, rfl⟩ hpb
        | l l => exact absurd ⟨l, rfl⟩ hlb
        | r => simp [clsOK] at hc
        | e => simp [clsOK] at hc
        | m mb slot =>
          simp only [clsOK, Bool.and_eq_true, List.contains_iff_mem] at hc
          simp only [mem, Option.bind_eq_some_iff] at h1 h2 ⊢
          obtain ⟨v, hv, he⟩ := h1
          obtain ⟨u, hu, hf⟩ := h2
          split at he
          case isFalse => cases he
          rename_i hst
          cases he
          split at hf
          case isFalse => cases hf
          rename_i hd
          cases hf
          simp only at hd hu ⊢
          have hfl : m.fl slot = false := hd.1
          have hd0 : isDead m.h (base + slot) = true := by
            have := List.all_eq_true.1 hst.1 slot hc.2
            simpa [hfl] using this
          obtain ⟨q1, q2⟩ := eop_fill (nb := u.1) hC hd0 hv
          refine ⟨{ m with h := m.h.set (base + slot) u.1, fl := upd m.fl slot true }, ⟨u, by rw [← hu]; exact mop_take hc.1, by rw [if_pos ⟨hfl, hd0⟩]⟩, (v.1, v.2.set (base + slot) u.1), q2, ?_⟩
          have hal : allDead (m.h.set (base + slot) u.1) base (upd m.fl slot true) sl = true := by
            have := hst.1
            simp only [allDead, List.all_eq_true, Bool.or_eq_true] at this ⊢
            intro j hj
            by_cases e : j = slot
            · exact .inl (by simp [upd, e])
            · exact (this j hj).imp (fun h => by simpa [upd, e] using h) fun h => isDead_set h (by omega)
          rw [if_pos ⟨hal, stable_fill q1 hst.2⟩]
      | m mo slot =>
        cases bo with
        | p p => exact absurd ⟨p, rfl⟩ hpb
        | l l => exact absurd ⟨l, rfl⟩ hlb
        | r => simp [clsOK] at hc
        | e => simp [clsOK] at hc
        | m mb slot2 =>
          simp only [clsOK, bne_iff_ne, ne_eq] at hc
          simp only [mem, Option.bind_eq_some_iff] at h1 h2 ⊢
          obtain ⟨v, hv, he⟩ := h1
          obtain ⟨u, hu, hf⟩ := h2
          split at he
          case isFalse => cases he
          rename_i hd
          cases he
          split at hf
          case isFalse => cases hf
          rename_i hd2
          cases hf
          have t1 : (m.h.set (base + slot) v.1).take base = m.h.take base := by
            rw [List.take_set, List.set_eq_of_length_le (by simp; omega)]
          have t2 : (m.h.set (base + slot2) u.1).take base = m.h.take base := by
            rw [List.take_set, List.set_eq_of_length_le (by simp; omega)]
          simp only [t1] at hu
          have hne : base + slot ≠ base + slot2 := by omega
          have hd2' : m.fl slot2 = false ∧ isDead m.h (base + slot2) = true := by
            refine ⟨by simpa [upd, Ne.symm hc] using hd2.1, ?_⟩
            have := hd2.2
            unfold isDead at this ⊢; rw [List.getElem?_set_ne hne] at this; exact this
          refine ⟨{ m with h := m.h.set (base + slot2) u.1, fl := upd m.fl slot2 true }, ⟨u, hu, by rw [if_pos hd2']⟩, v, by simp only [t2]; exact hv, ?_⟩
          rw [if_pos ⟨by simpa [upd, hc] using hd.1, isDead_set hd.2 (Ne.symm hne)⟩]
          simp only [List.set_comm _ _ hne, upd_comm _ _ _ hc]
end GL
namespace GL
open Go

def T.un : T := .v (.tup [])

/-- an operation's own part, guard and all -/
noncomputable def act (call : CallF) (o : AOper) (t : Bool) (base : Nat) (as : List T) (m : M) : Option (T × M) :=
  if t then mem call o.ix base o.op as m else some (.un, m)

theorem xop_act (call : CallF) (o : AOper) (s : S) :
    xop call o s = (s.wants o.guard).bind fun t => (act call o t s.base (o.args.map s.ev) s.m).bind fun r => some ((s.withM r.2).put o.dst r.1) := by
  unfold xop act
  cases s.wants o.guard with
  | none => rfl
  | some t =>
    simp only [Option.bind_some]
    cases t with
    | true => simp only [if_true]; exact aop_mem _ _ _ _ _ _
    | false => rfl

theorem act_comm {call : CallF} (hC : FillC call) {o b : AOper} {t u : Bool} {base : Nat} {as bs : List T} {m m1 m2 : M} {x y : T} (hc : clsOK o b = true)
    (h1 : act call o t base as m = some (x, m1)) (h2 : act call b u base bs m1 = some (y, m2)) :
    ∃ m', act call b u base bs m = some (y, m') ∧ act call o t base as m' = some (x, m2) := by
  unfold act at *
  cases t with
  | false =>
    simp only [Bool.false_eq_true, if_false] at h1 ⊢
    cases h1
    exact ⟨m2, h2, rfl⟩
  | true =>
    cases u with
    | false =>
      simp only [Bool.false_eq_true, if_false] at h2 ⊢
      cases h2
      exact ⟨m, rfl, h1⟩
    | true =>
      simp only [if_true] at h1 h2 ⊢
      exact mem_comm hC hc h1 h2

theorem withM_put (s : S) (m : M) (d : Option Nat) (x : T) : (s.withM m).put d x = (s.put d x).withM m := by cases d <;> rfl
theorem withM_withM (s : S) (m n : M) : (s.withM m).withM n = s.withM n := rfl
theorem m_withM (s : S) (m : M) : (s.withM m).m = m := rfl
theorem m_put (s : S) (d : Option Nat) (x : T) : (s.put d x).m = s.m := by cases d <;> rfl
theorem ev_withM (s : S) (m : M) : (s.withM m).ev = s.ev := by funext o; cases o <;> rfl
theorem wants_withM (s : S) (m : M) (g : Option (Nat × Bool)) : (s.withM m).wants g = s.wants g := by cases g <;> rfl

theorem xop_comm {call : CallF} (hC : FillC call) {o b : AOper} {s s1 s2 : S} (hi : indepB o b = true) (h1 : xop call o s = some s1) (h2 : xop call b s1 = some s2) :
    ∃ s', xop call b s = some s' ∧ xop call o s' = some s2 := by
  simp only [indepB, Bool.and_eq_true] at hi
  obtain ⟨⟨hd1, hd2⟩, hc⟩ := hi
  have e1 : ∀ i, o.dst = some i → i ∉ b.reads ∧ b.dst ≠ some i := fun i h => by
    rw [h] at hd1; simpa using hd1
  have e2 : ∀ i, b.dst = some i → i ∉ o.reads := fun i h => by
    rw [h] at hd2; simpa using hd2
  rw [xop_act] at h1 h2
  simp only [Option.bind_eq_some_iff] at h1 h2
  obtain ⟨t, ht, ⟨x, m1⟩, hx, he1⟩ := h1
  obtain ⟨u, hu, ⟨y, m2⟩, hy, he2⟩ := h2
  cases he1
  cases he2
  rw [withM_put, wants_withM, wants_put s x fun i h => (e1 i h).1] at hu
  have hargs : b.args.map ((s.withM m1).put o.dst x).ev = b.args.map s.ev := by
    rw [withM_put, ev_withM]; exact args_put s x fun i h => (e1 i h).1
  have hm : ((s.withM m1).put o.dst x).m = m1 := by rw [m_put, m_withM]
  have hb : ((s.withM m1).put o.dst x).base = s.base := by rw [put_base]; rfl
  rw [hargs, hm, hb] at hy
  obtain ⟨m', q1, q2⟩ := act_comm hC hc hx hy
  refine ⟨(s.withM m').put b.dst y, ?_, ?_⟩
  · rw [xop_act, hu]; simp only [Option.bind_some, q1]
  · rw [xop_act]
    rw [withM_put, wants_withM, wants_put s y e2, ht]
    simp only [Option.bind_some]
    have ha : o.args.map ((s.put b.dst y).withM m').ev = o.args.map s.ev := by rw [ev_withM]; exact args_put s y e2
    have hm' : ((s.put b.dst y).withM m').m = m' := rfl
    have hb' : ((s.put b.dst y).withM m').base = s.base := by rw [← withM_put, put_base]; rfl
    rw [ha, hm', hb', q2]
    simp only [Option.bind_some]
    congr 1
    simp only [withM_put, withM_withM]
    rw [put_comm s x y fun i h => (e1 i h).2]

theorem xops_append {call : CallF} (l l' : List AOper) (s : S) : xops call (l ++ l') s = (xops call l s).bind (xops call l') := by
  induction l generalizing s with
  | nil => rfl
  | cons o l ih =>
    simp only [List.cons_append, xops]
    cases xop call o s with
    | none => rfl
    | some s1 => simp only [Option.bind_some]; exact ih s1

theorem xops_past {call : CallF} (hC : FillC call) {o : AOper} : ∀ {l : List AOper} {s r : S}, (∀ b ∈ l, indepB o b = true) → xops call (o :: l) s = some r →
    ∃ s', xops call l s = some s' ∧ xop call o s' = some r
  | [], s, r, _, h => by
    simp only [xops, Option.bind_eq_some_iff] at h
    obtain ⟨s1, h1, h2⟩ := h
    cases h2
    exact ⟨s, rfl, h1⟩
  | b :: l, s, r, hi, h => by
    simp only [xops, Option.bind_eq_some_iff] at h
    obtain ⟨s1, h1, s2, h2, h3⟩ := h
    obtain ⟨s', q1, q2⟩ := xop_comm hC (hi b (List.mem_cons_self ..)) h1 h2
    obtain ⟨s'', r1, r2⟩ := xops_past hC (l := l) (s := s') (r := r) (fun c hc => hi c (List.mem_cons_of_mem _ hc)) (by simp only [xops, q2, Option.bind_some]; exact h3)
    exact ⟨s'', by simp only [xops, q1, Option.bind_some]; exact r1, r2⟩

/-- the edges of a region, as far as they bind in every order -/
def edgesOf (ops : Array Oper) (i : Nat) : List Nat := match ops[i]? with | some o => (o.after.toList.filter fun e => Region.binds .any e).map (·.on) | none => []

/-- of the first n operations: all that stand before each (a bit a number) -/
def ancs (ed : Nat → List Nat) : Nat → List Nat
  | 0 => []
  | n + 1 => let m := ancs ed n; m ++ [(ed n).foldl (fun s e => s ||| (2 ^ e ||| m.getD e 0)) 0]

theorem ancs_length (ed : Nat → List Nat) : ∀ n, (ancs ed n).length = n
  | 0 => rfl
  | n + 1 => by simp [ancs, ancs_length ed n]

theorem foldl_or (f : Nat → Nat) (D : Nat → Prop) (j : Nat) : ∀ (l : List Nat) (s : Nat), ((l.foldl (fun s e => s ||| f e) s).testBit j = true) → s.testBit j = true ∨ ∃ e ∈ l, (f e).testBit j = true
  | [], s, h => .inl h
  | e :: l, s, h => by
    simp only [List.foldl_cons] at h
    rcases foldl_or f D j l _ h with h1 | ⟨e', he, h1⟩
    · rw [Nat.testBit_or, Bool.or_eq_true] at h1
      rcases h1 with h1 | h1
      · exact .inl h1
      · exact .inr ⟨e, List.mem_cons_self .., h1⟩
    · exact .inr ⟨e', List.mem_cons_of_mem _ he, h1⟩

theorem ancs_closed {ed : Nat → List Nat} {D : Nat → Prop} (hD : ∀ i, D i → ∀ e ∈ ed i, D e) : ∀ (n i j : Nat), i < n → ((ancs ed n).getD i 0).testBit j = true → D i → D j
  | 0, i, j, h, _, _ => by omega
  | n + 1, i, j, hlt, hb, hi => by
    have hl := ancs_length ed n
    simp only [ancs] at hb
    rcases Nat.lt_or_ge i n with h | h
    · rw [List.getD_eq_getElem?_getD, List.getElem?_append_left (by omega), ← List.getD_eq_getElem?_getD] at hb
      exact ancs_closed hD n i j h hb hi
    · have : i = n := by omega
      subst this
      rw [List.getD_eq_getElem?_getD, List.getElem?_append_right (by omega)] at hb
      simp [hl] at hb
      rcases foldl_or (fun e => 2 ^ e ||| (ancs ed i).getD e 0) D j (ed i) 0 (by simpa using hb) with h0 | ⟨e, he, h1⟩
      · simp at h0
      · have hDe := hD i hi e he
        rw [Nat.testBit_or, Bool.or_eq_true] at h1
        rcases h1 with h1 | h1
        · rw [Nat.testBit_two_pow] at h1
          simp at h1; subst h1; exact hDe
        · rcases Nat.lt_or_ge e i with hei | hei
          · exact ancs_closed hD i e j hei h1 hDe
          · rw [List.getD_eq_getElem?_getD, List.getElem?_eq_none (by omega)] at h1
            simp at h1

/-- is the canonical list in order, and may what it leaves open come in any order? -/
def pairsOK (an : List Nat) : List AOper → Bool
  | [] => true
  | o :: l => (l.all fun b => (indepB o b || (an.getD b.ix 0).testBit o.ix)) && pairsOK an l

def linOK (ed : Nat → List Nat) : List Nat → List AOper → Bool
  | _, [] => true
  | done, o :: l => (ed o.ix).all done.contains && !(done.contains o.ix) && linOK ed (o.ix :: done) l

def ordOK (ops : Array Oper) (l : List AOper) : Bool :=
  l.length == ops.size && (l.all fun o => decide (o.ix < ops.size)) && linOK (edgesOf ops) [] l && pairsOK (ancs (edgesOf ops) ops.size) l
end GL
