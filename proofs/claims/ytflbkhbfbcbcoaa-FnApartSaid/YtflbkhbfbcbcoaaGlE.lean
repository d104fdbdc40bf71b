import Derived.LoopN
import Derived.Test.YtflbkhbfbcbcoaaGlD
/- GL, a small deterministic machine: its definitions, and that its calls are calls of the program. -/
set_option linter.unusedSimpArgs false
set_option linter.unusedVariables false
set_option linter.unnecessarySimpa false
namespace GL
open Go
variable {P : Program} {E : Env} {s : S} {a : Act} {w : World} {fid : Nat → FuncId}

/-- what stands between the parts of a function's code -/
def I (E : Env) (s : S) (a : Act) (w : World) : Prop :=
  ∃ ρ lam, Inv E ρ lam s a w ∧ Keep E.h0.length E.ρ0 ρ ∧ E.h0.length ≤ s.h.length

theorem J.fin {rsv : Nat} {ρ : Rho} {lam : Nat → Nat → Nat} (h : J E rsv s a w ρ lam) : I E s a w := ⟨ρ, lam, h.inv, h.keep, h.len⟩

theorem I.begin (h : I E s a w) (rsv : Nat) : ∃ ρ lam, J E rsv (s.begin rsv) a w ρ lam := by
  obtain ⟨ρ, lam, hi, hk, hl⟩ := h
  refine ⟨ρ, lam, ⟨⟨hi.rm.reserve rsv, ⟨hi.rl.cell, hi.rl.sep, fun t b blk x ht hb hx hlv => hi.rl.sepH t b blk x ht (get_rep hb hlv) hx hlv⟩, hi.li, hi.tm, hi.nt, hi.fr, ?_, hi.pre, hi.df⟩, hk, ?_, hl, ?_⟩⟩
  · intro b blk x hb hx hlv
    exact hi.oi b blk x (get_rep hb hlv) hx hlv
  · simp [S.begin]; omega
  · intro j hj _
    refine ⟨?_, hi.rm.out _ (by simp [S.begin])⟩
    simp only [isDead, S.begin]
    rw [List.getElem?_append_right (by omega)]
    simp [hj, deadBlk]

theorem J.drawn {rsv n : Nat} {ρ : Rho} {lam : Nat → Nat → Nat} (h : J E rsv s a w ρ lam) : J E rsv s a { w with drawn := n } ρ lam :=
  ⟨⟨h.inv.rm.congr rfl, ⟨h.inv.rl.cell, h.inv.rl.sep, h.inv.rl.sepH⟩, h.inv.li, h.inv.tm, h.inv.nt, h.inv.fr.drawn n, h.inv.oi, h.inv.pre, h.inv.df⟩, h.keep, h.len, h.base, h.slot⟩

def coverB (n : Nat) (l : List AOper) : Bool := (List.range n).all fun i => l.any fun o => o.ix == i

def regMt (P : Program) (fid : Nat → FuncId) (eqs : List (TypeId × List (Option IntKind))) (nt rsv : Nat) (ops : Array Oper) (draw : Bool) (l : List AOper) : Bool :=
  l.all (operMt P fid eqs nt rsv ops) && (if draw then ordOK ops l && coverB ops.size l else l.map (·.ix) == List.range ops.size)

variable {call : CallF} {eqs : List (TypeId × List (Option IntKind))} {nt : Nat}

theorem textSim (hC : CallOK P E.fid call) (hE : ∀ t sh, (t, sh) ∈ eqs → EqOK P t sh) (hnt : nt ≤ E.nt) {rsv : Nat} {ops : Array Oper} {Q : Exit → Act → World → Prop} {sf : S}
    (hQ : ∀ a' w' ρ' lam', J E rsv sf a' w' ρ' lam' → Q .normal a' w') :
    ∀ (l : List AOper) (s : S) (a : Act) (w : World) (ρ : Rho) (lam : Nat → Nat → Nat), l.all (operMt P E.fid eqs nt rsv ops) = true → xops call l s = some sf → J E rsv s a w ρ lam → wpOps P ops Q (l.map (·.ix)) a w
  | [], s, a, w, ρ, lam, _, hx, hj => by
    simp only [xops, Option.some.injEq] at hx
    subst hx
    exact hQ _ _ _ _ hj
  | o :: l, s, a, w, ρ, lam, hm, hx, hj => by
    simp only [xops, Option.bind_eq_some_iff] at hx
    obtain ⟨s1, h1, h2⟩ := hx
    simp only [List.all_cons, Bool.and_eq_true] at hm
    rw [List.map_cons, wpOps_cons]
    exact operSim hC hE hnt hm.1 h1 hj fun a' w' ρ' lam' hj' => textSim hC hE hnt hQ l s1 a' w' ρ' lam' hm.2 h2 hj'

theorem ordOK_lin {ops : Array Oper} {l : List AOper} (h : ordOK ops l = true) (hc : coverB ops.size l = true) : LinT ops l := by
  simp only [ordOK, Bool.and_eq_true, beq_iff_eq, List.all_eq_true, decide_eq_true_eq] at h
  obtain ⟨⟨⟨h1, h2⟩, h3⟩, h4⟩ := h
  refine ⟨h3, h4, h2, fun i hi => ?_⟩
  have := List.all_eq_true.1 hc i (List.mem_range.2 hi)
  obtain ⟨x, hx, he⟩ := List.any_eq_true.1 this
  exact ⟨x, hx, by simpa using he⟩

theorem regSim (hmix : P.follows .mixedOrders = true) (hC : CallOK P E.fid call) (hE : ∀ t sh, (t, sh) ∈ eqs → EqOK P t sh) (hnt : nt ≤ E.nt) {rsv id : Nat} {ops : Array Oper} {draw : Bool} {l : List AOper} {sf : S}
    (hm : regMt P E.fid eqs nt rsv ops draw l = true) (hx : xops call l (s.begin rsv) = some sf) (hi : I E s a w) {Q : Exit → Act → World → Prop} (hQ : ∀ a' w', I E sf a' w' → Q .normal a' w') :
    (Go.Code.region id ops draw).wp P Q a w := by
  simp only [regMt, Bool.and_eq_true] at hm
  obtain ⟨hm, hd⟩ := hm
  obtain ⟨ρ, lam, hj⟩ := hi.begin rsv
  cases draw with
  | false =>
    simp only [Bool.false_eq_true, if_false, beq_iff_eq] at hd
    refine wp_region ?_
    rw [← hd]
    exact textSim hC hE hnt (fun a' w' ρ' lam' hj' => hQ _ _ hj'.fin) l _ a w ρ lam hm hx hj
  | true =>
    simp only [if_true, Bool.and_eq_true] at hd
    obtain ⟨hd, hcov⟩ := hd
    have hT := ordOK_lin hd hcov
    refine wp_region_any hmix ?_
    have hmem : ∀ o ∈ l, operMt P E.fid eqs nt rsv ops o = true := List.all_eq_true.1 hm
    have hno : ∀ i, Dof (Array.replicate ops.size false) i = false := fun i => by
      simp only [Dof, Array.getD_eq_getD_getElem?, Array.getElem?_replicate]
      split <;> rfl
    refine wpAny_gl (I := fun s a w => ∃ ρ lam, J E rsv s a w ρ lam) hC.fill hT hx (fun a' w' ⟨ρ', lam', h⟩ => hQ _ _ h.fin) ?_ ops.size _ a _ (s.begin rsv) (by simp) ?_ ?_ ?_ ⟨ρ, lam, hj.drawn⟩
    · intro o ho s1 s2 a1 w1 hx1 ⟨ρ1, lam1, hj1⟩ K hK
      exact operSim hC hE hnt (hmem o ho) hx1 hj1 fun a' w' ρ' lam' hj' => hK _ _ ⟨ρ', lam', hj'⟩
    · intro i hi; rw [hno] at hi; cases hi
    · simp only [ordOK, Bool.and_eq_true, beq_iff_eq] at hd
      have : (l.filter fun o => !Dof (Array.replicate ops.size false) o.ix).length ≤ l.length := List.length_filter_le _ _
      omega
    · have : sel (Dof (Array.replicate ops.size false)) l = [] := by
        unfold sel
        rw [List.filter_eq_nil_iff]
        intro o _
        rw [hno]; decide
      rw [this]; rfl

def codeMt (P : Program) (fid : Nat → FuncId) (eqs : List (TypeId × List (Option IntKind))) (nt : Nat) (c : Go.Code) (c' : Code) : Bool :=
  match c' with
  | .bad => true
  | .skip => match c with | .skip => true | .label _ => true | _ => false
  | .reg rsv l => match c with | .region _ ops draw => regMt P fid eqs nt rsv ops draw l | _ => false
  | .seq a' b' => match c with | .seq a b => codeMt P fid eqs nt a a' && codeMt P fid eqs nt b b' | _ => false
  | .cond c' a' b' => match c with | .cond c a b => opdMt fid c c' && codeMt P fid eqs nt a a' && codeMt P fid eqs nt b b' | _ => false
  | .block i' c' => match c with | .block i c => i == i' && codeMt P fid eqs nt c c' | _ => false
  | .loop c' => match c with | .loop c => codeMt P fid eqs nt c c' | _ => false
  | .exit i' => match c with | .exit i => i == i' | _ => false
  | .ret => match c with | .ret => true | _ => false

def exOf : Ex → Exit
  | .norm => .normal
  | .exit i => .exit i
  | .ret => .ret

def SoundC (P : Program) (E : Env) (call : CallF) (fuel : Nat) (c : Go.Code) (c' : Code) : Prop :=
  ∀ (s : S) (a : Act) (w : World) (e : Ex) (s' : S) (Q : Exit → Act → World → Prop), xC call fuel c' s = some (e, s') → I E s a w → (∀ a' w', I E s' a' w' → Q (exOf e) a' w') → c.wp P Q a w

theorem loopSim {c : Go.Code} {c' : Code} {fuel : Nat} (hb : SoundC P E call fuel c c') : ∀ (n : Nat) (s : S) (a : Act) (w : World) (e : Ex) (s' : S) (Q : Exit → Act → World → Prop),
    loopN (xC call fuel c') n s = some (e, s') → I E s a w → (∀ a' w', I E s' a' w' → Q (exOf e) a' w') → Code.rounds P c Q n a w
  | 0, _, _, _, _, _, _, h, _, _ => by simp [loopN] at h
  | n + 1, s, a, w, e, s', Q, h, hi, hQ => by
    simp only [loopN, Option.bind_eq_some_iff] at h
    obtain ⟨⟨e1, s1⟩, h1, h2⟩ := h
    rw [rounds_succ]
    refine hb s a w e1 s1 _ h1 hi fun a' w' hi' => ?_
    cases e1 with
    | norm => exact loopSim hb n s1 a' w' e s' Q h2 hi' hQ
    | exit i => cases h2; exact hQ a' w' hi'
    | ret => cases h2; exact hQ a' w' hi'

theorem codeSim (hmix : P.follows .mixedOrders = true) (hC : CallOK P E.fid call) (hE : ∀ t sh, (t, sh) ∈ eqs → EqOK P t sh) (hnt : nt ≤ E.nt) (fuel : Nat) : ∀ (c' : Code) (c : Go.Code), codeMt P E.fid eqs nt c c' = true → SoundC P E call fuel c c' := by
  intro c'
  induction c' with
  | bad =>
    intro c hm s a w e s' Q hx hi hQ
    simp [xC] at hx
  | skip =>
    intro c hm s a w e s' Q hx hi hQ
    simp only [xC] at hx; cases hx
    cases c <;> simp only [codeMt, Bool.false_eq_true] at hm
    · exact wp_skip (hQ a w hi)
    · exact wp_label (hQ a w hi)
  | reg rsv l =>
    intro c hm s a w e s' Q hx hi hQ
    cases c <;> simp only [codeMt, Bool.false_eq_true] at hm
    simp only [xC, Option.bind_eq_some_iff] at hx
    obtain ⟨s1, h1, h2⟩ := hx
    cases h2
    exact regSim hmix hC hE hnt hm h1 hi hQ
  | seq x y ihx ihy =>
    intro c hm s a w e s' Q hx hi hQ
    cases c <;> simp only [codeMt, Bool.false_eq_true, Bool.and_eq_true] at hm
    simp only [xC, Option.bind_eq_some_iff] at hx
    obtain ⟨⟨e1, s1⟩, h1, h2⟩ := hx
    refine wp_seq (ihx _ hm.1 s a w e1 s1 _ h1 hi fun a' w' hi' => ?_)
    cases e1 with
    | norm => exact ihy _ hm.2 s1 a' w' e s' Q h2 hi' hQ
    | exit i => cases h2; exact hQ a' w' hi'
    | ret => cases h2; exact hQ a' w' hi'
  | cond c0 x0 y0 ihx ihy =>
    intro c hm s a w e s' Q hx hi hQ
    cases c <;> simp only [codeMt, Bool.false_eq_true, Bool.and_eq_true] at hm
    rename_i c x y
    obtain ⟨⟨hc, hx0⟩, hy0⟩ := hm
    obtain ⟨ρ, lam, hinv, _, _⟩ := id hi
    have hr := opd_sound hinv.tm hc
    simp only [xC] at hx
    split at hx
    · rename_i hb
      rw [hb] at hr
      exact wp_cond_true (by generalize a.eval c = z at hr; cases hr; rfl) (ihx _ hx0 s a w e s' Q hx hi hQ)
    · rename_i hb
      rw [hb] at hr
      exact wp_cond_false (by generalize a.eval c = z at hr; cases hr; rfl) (ihy _ hy0 s a w e s' Q hx hi hQ)
    · cases hx
  | block id c0 ih =>
    intro c hm s a w e s' Q hx hi hQ
    cases c <;> simp only [codeMt, Bool.false_eq_true, Bool.and_eq_true, beq_iff_eq] at hm
    obtain ⟨rfl, hm⟩ := hm
    simp only [xC, Option.bind_eq_some_iff] at hx
    obtain ⟨⟨e1, s1⟩, h1, h2⟩ := hx
    refine wp_block (ih _ hm s a w e1 s1 _ h1 hi fun a' w' hi' => ?_)
    cases e1 with
    | norm => cases h2; exact hQ a' w' hi'
    | exit i =>
      simp only at h2
      split at h2
      · rename_i he
        cases h2
        simp only [exOf, Exit.inBlock, he, if_true]
        exact hQ a' w' hi'
      · rename_i he
        cases h2
        simp only [exOf, Exit.inBlock, he, if_false]
        exact hQ a' w' hi'
    | ret => cases h2; exact hQ a' w' hi'
  | loop c0 ih =>
    intro c hm s a w e s' Q hx hi hQ
    cases c <;> simp only [codeMt, Bool.false_eq_true] at hm
    simp only [xC] at hx
    exact wp_loop_rounds fuel (loopSim (ih _ hm) fuel s a w e s' Q hx hi hQ)
  | exit id =>
    intro c hm s a w e s' Q hx hi hQ
    cases c <;> simp only [codeMt, Bool.false_eq_true, beq_iff_eq] at hm
    subst hm
    simp only [xC] at hx; cases hx
    exact wp_exit (hQ a w hi)
  | ret =>
    intro c hm s a w e s' Q hx hi hQ
    cases c <;> simp only [codeMt, Bool.false_eq_true] at hm
    simp only [xC] at hx; cases hx
    exact wp_ret (hQ a w hi)
end GL
namespace GL
open Go
variable {P : Program} {E : Env} {s : S} {a : Act} {w : World} {fid : Nat → FuncId}

def resMt (P : Program) : ResultVar → Res → Bool
  | .tmp t, .tmp t' => t == t'
  | .cell b T, .cellL b' _ agg k => b == b' && (aggP P T == some agg && sizeP P T == some k && (agg || k == 1))
  | .cell b T, .cellH b' agg k => b == b' && (aggP P T == some agg && sizeP P T == some k && (agg || k == 1))
  | _, _ => false

def ressMt (P : Program) : List ResultVar → List Res → Bool
  | [], [] => true
  | x :: xs, y :: ys => resMt P x y && ressMt P xs ys
  | _, _ => false

def resM (tmps : Array Value) : ResultVar → Sem Value
  | .tmp t => pure (tmps.getD t undef)
  | .cell a t => do loadVar t (← asAddr (tmps.getD a undef))

theorem resSim {ρ : Rho} {lam : Nat → Nat → Nat} (hi : Inv E ρ lam s a w) {r : ResultVar} {r' : Res} (hm : resMt P r r' = true) {x : V} (hx : resV s r' = some x) :
    ∃ y, (resM a.tmps r).run P w = .ok y w ∧ RV E.fid ρ x y := by
  cases r with
  | tmp t =>
    cases r' <;> simp only [resMt, Bool.false_eq_true, beq_iff_eq] at hm
    subst hm
    have h1 := hi.tm t
    simp only [resV] at hx
    split at hx
    · rename_i x' he
      cases hx
      rw [he] at h1
      exact ⟨_, by simp [resM], h1⟩
    · cases hx
  | cell b T =>
    cases r' with
    | tmp => simp [resMt] at hm
    | cellL b' t agg k =>
      simp only [resMt, Bool.and_eq_true, beq_iff_eq, Bool.or_eq_true] at hm
      obtain ⟨rfl, ⟨ha, hk⟩, h1k⟩ := hm
      have h1 := hi.tm b
      simp only [resV, Option.bind_eq_some_iff] at hx
      obtain ⟨r, hp, hx⟩ := hx
      simp only [lop] at hp
      split at hp
      case h_2 => cases hp
      rename_i t' g off heq
      simp only [List.cons.injEq, and_true] at heq
      rw [heq] at h1
      split at hp
      case isFalse => cases hp
      rename_i hc
      obtain ⟨rfl, rfl⟩ := hc
      simp only [Option.bind_eq_some_iff] at hp
      obtain ⟨cs, hcs, x1, hx1, hr⟩ := hp
      cases hr
      cases hx
      obtain ⟨g1, g2, he⟩ := h1
      obtain ⟨arr, T', hb, hrv⟩ := hi.rl.cell t' g1
      obtain ⟨q1, q2, q3⟩ := cut_sound hrv hcs
      have hrun : (loadVar T ⟨lam t' (s.L t').1, off, none⟩).run P w = .ok (mkW agg ((arr.toList.drop off).take k)) w := by
        refine run_loadVar ha hk (by simp at q3 ⊢; omega) (fun e => ?_) (fun j v hj => ?_)
        · rcases h1k with h | h
          · rw [h] at e; cases e
          · exact h
        · rw [cell?_arr hb]
          rw [List.getElem?_take] at hj
          split at hj
          · rw [List.getElem?_drop] at hj; simpa using hj
          · cases hj
      refine ⟨_, ?_, mkV_sound q1 hx1⟩
      simp only [resM, he]
      simp [asAddr, hrun]
    | cellH b' agg k =>
      simp only [resMt, Bool.and_eq_true, beq_iff_eq, Bool.or_eq_true] at hm
      obtain ⟨rfl, ⟨ha, hk⟩, h1k⟩ := hm
      have h1 := hi.tm b
      simp only [resV, rop] at hx
      split at hx
      case h_2 => cases hx
      rename_i b1 off heq
      simp only [List.cons.injEq, and_true] at heq
      rw [heq] at h1
      simp only [Option.bind_eq_some_iff] at hx
      obtain ⟨cs, hcs, hx1⟩ := hx
      generalize he : a.tmps.getD b undef = z at h1
      cases h1 with
      | ptr hb =>
        obtain ⟨vs, q1, q2, q3⟩ := rdH_sound hi.rm hcs hb
        refine ⟨mkW agg vs, ?_, mkV_sound q2 hx1⟩
        have hrun := run_loadVar (P := P) (w := w) ha hk q1 (fun e => by
          rcases h1k with h | h
          · rw [h] at e; cases e
          · exact h) q3
        simp only [resM, he]
        simp [asAddr, hrun]

theorem ressSim {ρ : Rho} {lam : Nat → Nat → Nat} (hi : Inv E ρ lam s a w) : ∀ {rs : List ResultVar} {rs' : List Res} {xs : List V}, ressMt P rs rs' = true → resVs s rs' = some xs →
    ∃ ys, (rs.mapM (resM a.tmps)).run P w = .ok ys w ∧ RVs E.fid ρ xs ys
  | [], [], xs, _, hx => by
    simp [resVs] at hx; subst hx
    exact ⟨[], by simp, .nil⟩
  | r :: rs, r' :: rs', xs, hm, hx => by
    simp only [ressMt, Bool.and_eq_true] at hm
    simp only [resVs, Option.bind_eq_some_iff] at hx
    obtain ⟨x, hx1, xs1, hx2, he⟩ := hx
    cases he
    obtain ⟨y, q1, q2⟩ := resSim hi hm.1 hx1
    obtain ⟨ys, q3, q4⟩ := ressSim hi hm.2 hx2
    exact ⟨y :: ys, by simp [List.mapM_cons, q1, q3], .cons q2 q4⟩
  | [], _ :: _, _, hm, _ => by simp [ressMt] at hm
  | _ :: _, [], _, hm, _ => by simp [ressMt] at hm

theorem results_eq (fn : Func) (tmps : Array Value) : results fn tmps = (do
    let vs ← fn.results.mapM (resM tmps)
    pure (if h : vs.size = 1 then vs[0] else .tuple vs)) := by
  unfold results
  congr 1

theorem finishSim {ρ : Rho} {lam : Nat → Nat → Nat} (hi : Inv E ρ lam s a w) {fn : Func} {rs' : List Res} (hm : ressMt P fn.results.toList rs' = true) {e : Ex} {v : V} {h' : Heap} (hx : finish rs' (e, s) = some (v, h')) :
    (∀ i, e ≠ .exit i) ∧ h' = s.h ∧ ∃ y, (results fn a.tmps).run P w = .ok y w ∧ RV E.fid ρ v y := by
  have key : (resVs s rs').bind (fun xs => match xs with | [x] => some (x, s.h) | xs => some (.tup xs, s.h)) = some (v, h') →
      h' = s.h ∧ ∃ y, (results fn a.tmps).run P w = .ok y w ∧ RV E.fid ρ v y := fun h => by
    simp only [Option.bind_eq_some_iff] at h
    obtain ⟨xs, hxs, h⟩ := h
    obtain ⟨ys, q1, q2⟩ := ressSim (P := P) hi hm hxs
    have hrun : (fn.results.mapM (resM a.tmps)).run P w = .ok ys.toArray w := by
      rw [← Array.toArray_toList (xs := fn.results), List.mapM_toArray]
      simp only [Sem.run_map, q1]
      rfl
    have hres : (results fn a.tmps).run P w = .ok (if h : ys.toArray.size = 1 then ys.toArray[0] else .tuple ys.toArray) w := by
      rw [results_eq]; simp [hrun]
    split at h
    · cases h
      cases q2 with
      | cons q2 q3 =>
        cases q3
        exact ⟨rfl, _, by rw [hres]; simp, q2⟩
    · rename_i hne
      cases h
      refine ⟨rfl, _, hres, ?_⟩
      have hl := q2.length
      have : ¬ ys.toArray.size = 1 := by
        intro e1
        simp at e1
        rw [e1] at hl
        obtain ⟨x, hx⟩ := List.length_eq_one_iff.1 hl
        exact hne x hx
      rw [dif_neg this]
      exact .tup q2
  cases e with
  | norm => exact ⟨fun i => by simp, key hx⟩
  | exit i => simp [finish] at hx
  | ret => exact ⟨fun i => by simp, key hx⟩

/-- is a function of the machine this function of the program? -/
def fnMt (P : Program) (fid : Nat → FuncId) (eqs : List (TypeId × List (Option IntKind))) (F : Func) (fn : Fn) : Bool :=
  !(F.name == "runtime.NumGoroutine") && ressMt P F.results.toList fn.res && (match F.body with | some c => codeMt P fid eqs F.ntmps c fn.body | none => false)

theorem fnSim (hmix : P.follows .mixedOrders = true) {call : CallF} (hC : CallOK P fid call) {eqs : List (TypeId × List (Option IntKind))} (hE : ∀ t sh, (t, sh) ∈ eqs → EqOK P t sh) {f : FuncId} {F : Func} {fn : Fn} (hF : P.funcs[f]? = some F)
    (hm : fnMt P fid eqs F fn = true) {fuel : Nat} {args : List V} {h : Heap} {v : V} {h' : Heap} {ρ : Rho} {w : World} {as : List Value} (hx : (xC call fuel fn.body (init args h)).bind (finish fn.res) = some (v, h'))
    (hr : RM fid ρ h w) (ha : RVs fid ρ args as) :
    (∃ F, P.funcs[f]? = some F ∧ (F.name == "runtime.NumGoroutine") = false ∧ F.body.isNone = false) ∧ Calls P f as.toArray w fun e w' => ∃ y, e = .returned y ∧ HS fid ρ h w v h' y w' := by
  simp only [fnMt, Bool.and_eq_true, Bool.not_eq_true'] at hm
  obtain ⟨⟨hn, hres⟩, hb⟩ := hm
  split at hb
  case h_2 => cases hb
  rename_i c hc
  refine ⟨⟨F, hF, hn, by rw [hc]; rfl⟩, ?_⟩
  simp only [Option.bind_eq_some_iff] at hx
  obtain ⟨⟨e, s'⟩, hx, hfin⟩ := hx
  refine calls_of_wp hF hc ?_
  let E : Env := ⟨fid, ρ, h, w, as.length + (F.ntmps - as.length), fun b blk hb hl => hr.has b blk hb hl⟩
  have hget : ∀ i, (as.toArray ++ Array.replicate (F.ntmps - as.toArray.size) undef).getD i undef = (as[i]?).getD undef := fun i => by
    simp only [Array.getD_eq_getD_getElem?]
    rcases Nat.lt_or_ge i as.length with hlt | hge
    · rw [Array.getElem?_append_left (by simpa using hlt)]; simp
    · rw [Array.getElem?_append_right (by simpa using hge), List.getElem?_eq_none hge]
      rw [Array.getElem?_replicate]
      split <;> rfl
  have hi : I E (init args h) { tmps := as.toArray ++ Array.replicate (F.ntmps - as.toArray.size) undef, defers := [] } w := by
    refine ⟨ρ, fun _ _ => 0, ⟨hr, ⟨fun t ht => ?_, fun t t' _ ht => ?_, fun t b blk x ht => ?_⟩, fun t ht => ?_, fun i => ?_, by simp [E], Fr.refl _ _, OI.refl _ _ _, Ext.refl _, rfl⟩, Keep.refl _ _, Nat.le_refl _⟩
    · simp [init] at ht
    · simp [init] at ht
    · simp [init] at ht
    · simp [init] at ht
    · rw [hget]
      simp only [init]
      cases hg : args[i]? with
      | none =>
        have : as[i]? = none := by
          rw [List.getElem?_eq_none_iff] at hg ⊢
          rw [← ha.length]; exact hg
        rw [this]
        exact RV.tup .nil
      | some x =>
        obtain ⟨y, hy, hr'⟩ := ha.get hg
        rw [hy]
        exact hr'
  refine codeSim (E := E) hmix hC hE (by simp [E]; omega) fuel fn.body c hb (init args h) _ w e s' _ hx hi fun a' w' ⟨ρ', lam', hinv, hk, hl⟩ => ?_
  obtain ⟨hne, he, y, hy, hv⟩ := finishSim (P := P) hinv hres hfin
  subst he
  have hhs : HS fid ρ h w v s'.h y w' := ⟨ρ', hinv.rm, hk, hinv.fr, hinv.oi, hv⟩
  cases e with
  | norm => exact ⟨hinv.df, y, hy, y, rfl, hhs⟩
  | exit i => exact absurd rfl (hne i)
  | ret => exact ⟨hinv.df, y, hy, y, rfl, hhs⟩

/-- the machine's program is the program's -/
structure ProgOK (P : Program) (fid : Nat → FuncId) (eqs : List (TypeId × List (Option IntKind))) (p : Prog) : Prop where
  mixed : P.follows .mixedOrders = true
  eqOK : ∀ t sh, (t, sh) ∈ eqs → EqOK P t sh
  fn : ∀ f fn, p.fn f = some fn → ∃ F, P.funcs[fid f]? = some F ∧ fnMt P fid eqs F fn = true
  ext : ∀ f e, p.ext f = some e → CallOK P fid fun g args h => if g = f then e args h else none

theorem callN_ok {eqs : List (TypeId × List (Option IntKind))} {p : Prog} (hp : ProgOK P fid eqs p) : ∀ n, CallOK P fid (callN p n) := by
  have hfill : ∀ n, FillC (callN p n) := callN_fill fun f e he => fun g args h v h' q blk hr hd => by
    have := (hp.ext f e he).fill f args h v h' q blk (by simpa using hr) hd
    simpa using this
  have hlen : ∀ n, LenC (callN p n) := callN_len fun f e he => fun g args h v h' hr => (hp.ext f e he).len f args h v h' (by simpa using hr)
  intro n
  induction n with
  | zero => exact ⟨fun f args h v h' ρ w as hx => by simp [callN] at hx, hfill 0, hlen 0⟩
  | succ n ih =>
    refine ⟨fun f args h v h' ρ w as hx hr ha => ?_, hfill _, hlen _⟩
    simp only [callN] at hx
    split at hx
    · rename_i e he
      exact (hp.ext f e he).sound f args h v h' ρ w as (by simpa using hx) hr ha
    · split at hx
      case h_2 => cases hx
      rename_i fn hfn
      obtain ⟨F, hF, hm⟩ := hp.fn f fn hfn
      exact fnSim hp.mixed ih hp.eqOK hF hm hx hr ha
end GL
