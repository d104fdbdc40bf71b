import Derived.Orders
import Derived.Test.YtflbkhbfbcbcoaaGlC
/- GL, a small deterministic machine: its definitions, and that its calls are calls of the program. -/
set_option linter.unusedSimpArgs false
set_option linter.unusedVariables false
set_option linter.unnecessarySimpa false
namespace GL
open Go

def sel (D : Nat → Bool) (l : List AOper) : List AOper := l.filter fun o => D o.ix

theorem linOK_fresh {ed : Nat → List Nat} : ∀ {done : List Nat} {l : List AOper}, linOK ed done l = true → ∀ o ∈ l, o.ix ∉ done
  | done, [], _, o, ho => by cases ho
  | done, x :: l, h, o, ho => by
    simp only [linOK, Bool.and_eq_true, Bool.not_eq_true'] at h
    rcases List.mem_cons.1 ho with rfl | ho
    · have := h.1.2
      intro hm
      rw [List.contains_iff_mem.2 hm] at this; cases this
    · intro hm
      exact linOK_fresh h.2 o ho (List.mem_cons_of_mem _ hm)

theorem linOK_split {ed : Nat → List Nat} : ∀ {done : List Nat} {A B : List AOper} {o : AOper}, linOK ed done (A ++ o :: B) = true → (∀ x ∈ A, x.ix ≠ o.ix) ∧ (∀ x ∈ B, x.ix ≠ o.ix)
  | done, [], B, o, h => by
    refine ⟨(fun x hx => nomatch hx), fun x hx e => ?_⟩
    simp only [List.nil_append, linOK, Bool.and_eq_true] at h
    exact linOK_fresh h.2 x hx (by rw [e]; exact List.mem_cons_self ..)
  | done, a :: A, B, o, h => by
    simp only [List.cons_append, linOK, Bool.and_eq_true] at h
    obtain ⟨h1, h2⟩ := linOK_split h.2
    refine ⟨fun x hx => ?_, h2⟩
    rcases List.mem_cons.1 hx with rfl | hx
    · intro e
      exact linOK_fresh h.2 o (by simp) (by rw [← e]; exact List.mem_cons_self ..)
    · exact h1 x hx

theorem first_open {ed : Nat → List Nat} {D : Nat → Bool} : ∀ {done : List Nat} {l : List AOper}, linOK ed done l = true → (∀ i ∈ done, D i = true) → (∃ o ∈ l, D o.ix = false) →
    ∃ o ∈ l, D o.ix = false ∧ ∀ e ∈ ed o.ix, D e = true
  | done, [], _, _, h => by obtain ⟨o, ho, _⟩ := h; cases ho
  | done, x :: l, h, hd, hex => by
    simp only [linOK, Bool.and_eq_true, List.all_eq_true, List.contains_iff_mem] at h
    by_cases hx : D x.ix = true
    · obtain ⟨o, ho, hf⟩ := hex
      rcases List.mem_cons.1 ho with rfl | ho
      · rw [hx] at hf; cases hf
      · obtain ⟨o', h1, h2⟩ := first_open h.2 (fun i hi => by
          rcases List.mem_cons.1 hi with rfl | hi
          · exact hx
          · exact hd i hi) ⟨o, ho, hf⟩
        exact ⟨o', List.mem_cons_of_mem _ h1, h2⟩
    · exact ⟨x, List.mem_cons_self .., by simpa using hx, fun e he => hd e (h.1.1 e he)⟩

theorem pairsOK_mem {an : List Nat} : ∀ {A B : List AOper} {o : AOper}, pairsOK an (A ++ o :: B) = true → ∀ b ∈ B, indepB o b = true ∨ (an.getD b.ix 0).testBit o.ix = true
  | [], B, o, h, b, hb => by
    simp only [List.nil_append, pairsOK, Bool.and_eq_true, List.all_eq_true, Bool.or_eq_true] at h
    exact h.1 b hb
  | a :: A, B, o, h, b, hb => by
    simp only [List.cons_append, pairsOK, Bool.and_eq_true] at h
    exact pairsOK_mem h.2 b hb

structure LinT (ops : Array Oper) (l : List AOper) : Prop where
  lin : linOK (edgesOf ops) [] l = true
  pairs : pairsOK (ancs (edgesOf ops) ops.size) l = true
  lt : ∀ o ∈ l, o.ix < ops.size
  all : ∀ i, i < ops.size → ∃ o ∈ l, o.ix = i

def Closed (ops : Array Oper) (D : Nat → Bool) : Prop := ∀ i, D i = true → ∀ e ∈ edgesOf ops i, D e = true

theorem sel_add {D : Nat → Bool} {A : List AOper} {i : Nat} (h : ∀ x ∈ A, x.ix ≠ i) : sel (upd D i true) A = sel D A := by
  apply List.filter_congr
  intro x hx
  simp [upd, h x hx]

theorem step_sel {call : CallF} (hC : FillC call) {ops : Array Oper} {l : List AOper} (hT : LinT ops l) {D : Nat → Bool} (hD : Closed ops D) {o : AOper} (ho : o ∈ l) (hf : D o.ix = false)
    {s0 r : S} (h : xops call (sel (upd D o.ix true) l) s0 = some r) : ∃ s, xops call (sel D l) s0 = some s ∧ xop call o s = some r := by
  obtain ⟨A, B, rfl⟩ := List.append_of_mem ho
  obtain ⟨hA, hB⟩ := linOK_split hT.lin
  have e1 : sel (upd D o.ix true) (A ++ o :: B) = sel D A ++ o :: sel D B := by
    unfold sel
    rw [List.filter_append, List.filter_cons]
    have : upd D o.ix true o.ix = true := by simp [upd]
    rw [if_pos this]
    rw [show A.filter (fun x => upd D o.ix true x.ix) = A.filter (fun x => D x.ix) from sel_add hA, show B.filter (fun x => upd D o.ix true x.ix) = B.filter (fun x => D x.ix) from sel_add hB]
  have e2 : sel D (A ++ o :: B) = sel D A ++ sel D B := by
    unfold sel
    rw [List.filter_append, List.filter_cons, if_neg (by rw [hf]; decide)]
  rw [e1, xops_append] at h
  simp only [Option.bind_eq_some_iff] at h
  obtain ⟨sA, h1, h2⟩ := h
  have hind : ∀ b ∈ sel D B, indepB o b = true := by
    intro b hb
    obtain ⟨hbB, hbD⟩ := List.mem_filter.1 hb
    rcases pairsOK_mem hT.pairs b hbB with h | h
    · exact h
    · have hlt := hT.lt b (by simp [hbB])
      have := ancs_closed (D := fun i => D i = true) hD ops.size b.ix o.ix hlt h hbD
      rw [hf] at this; cases this
  obtain ⟨s', q1, q2⟩ := xops_past hC hind h2
  exact ⟨s', by rw [e2, xops_append, h1]; exact q1, q2⟩

theorem closed_add {ops : Array Oper} {D : Nat → Bool} (hD : Closed ops D) {i : Nat} (he : ∀ e ∈ edgesOf ops i, D e = true) : Closed ops (upd D i true) := by
  intro j hj e hej
  simp only [upd] at hj ⊢
  split
  · rfl
  · by_cases h : j = i
    · subst h; exact he e hej
    · rw [if_neg h] at hj; exact hD j hj e hej

theorem sel_exists {call : CallF} (hC : FillC call) {ops : Array Oper} {l : List AOper} (hT : LinT ops l) {s0 sf : S} (hf : xops call l s0 = some sf) :
    ∀ (n : Nat) (D : Nat → Bool), (l.filter fun o => !D o.ix).length = n → Closed ops D → ∃ s, xops call (sel D l) s0 = some s := by
  intro n
  induction n with
  | zero =>
    intro D hn _
    have : sel D l = l := by
      apply List.filter_eq_self.2
      intro o ho
      have h0 := List.length_eq_zero_iff.1 hn
      rw [List.filter_eq_nil_iff] at h0
      simpa using h0 o ho
    exact ⟨sf, by rw [this]; exact hf⟩
  | succ n ih =>
    intro D hn hD
    have hex : ∃ o ∈ l, D o.ix = false := by
      have hne : (l.filter fun o => !D o.ix) ≠ [] := by intro e; rw [e] at hn; simp at hn
      obtain ⟨o, ho⟩ := List.exists_mem_of_ne_nil _ hne
      obtain ⟨h1, h2⟩ := List.mem_filter.1 ho
      exact ⟨o, h1, by simpa using h2⟩
    obtain ⟨o, ho, hf', he⟩ := first_open (D := D) hT.lin (fun i hi => by cases hi) hex
    have hcount : (l.filter fun x => !upd D o.ix true x.ix).length = n := by
      obtain ⟨A, B, rfl⟩ := List.append_of_mem ho
      obtain ⟨hA, hB⟩ := linOK_split hT.lin
      have g : ∀ (C : List AOper), (∀ x ∈ C, x.ix ≠ o.ix) → (C.filter fun x => !upd D o.ix true x.ix) = C.filter fun x => !D x.ix := fun C hC => by
        apply List.filter_congr
        intro x hx
        simp [upd, hC x hx]
      rw [List.filter_append, List.filter_cons, g A hA, g B hB, if_neg (by simp [upd])]
      rw [List.filter_append, List.filter_cons, if_pos (by simp [hf'])] at hn
      simp at hn ⊢; omega
    obtain ⟨r, hr⟩ := ih (upd D o.ix true) hcount (closed_add hD he)
    obtain ⟨s, hs, _⟩ := step_sel hC hT hD ho hf' hr
    exact ⟨s, hs⟩

def Dof (listed : Array Bool) : Nat → Bool := fun i => listed.getD i false

theorem Dof_set {listed : Array Bool} {i : Nat} (h : i < listed.size) : Dof (listed.setIfInBounds i true) = upd (Dof listed) i true := by
  funext j
  simp only [Dof, upd, Array.getD_eq_getD_getElem?]
  by_cases e : j = i
  · subst e; simp [h]
  · rw [Array.getElem?_setIfInBounds_ne (Ne.symm e), if_neg e]

theorem wpAny_gl {P : Program} {Q : Exit → Act → World → Prop} {call : CallF} (hC : FillC call) {ops : Array Oper} {l : List AOper} (hT : LinT ops l) {s0 sf : S} (hf : xops call l s0 = some sf)
    {I : S → Act → World → Prop} (hI : ∀ a w, I sf a w → Q .normal a w)
    (hop : ∀ o ∈ l, ∀ (s s' : S) (a : Act) (w : World), xop call o s = some s' → I s a w → ∀ K : Act → World → Prop, (∀ a' w', I s' a' w' → K a' w') → wpOp P ops Q o.ix K a w) :
    ∀ (fuel : Nat) (listed : Array Bool) (a : Act) (w : World) (s : S), listed.size = ops.size → Closed ops (Dof listed) → (l.filter fun o => !Dof listed o.ix).length ≤ fuel →
      xops call (sel (Dof listed) l) s0 = some s → I s a w → wpAny P .any ops Q fuel listed a w := by
  have hmr : ∀ (listed : Array Bool) (j : Nat), listed.size = ops.size → (j ∈ Region.ready .any ops listed ↔ j < ops.size ∧ Dof listed j = false ∧ ∀ e ∈ edgesOf ops j, Dof listed e = true) := by
    intro listed j hsz
    unfold Region.ready
    simp only [List.mem_filter, List.mem_range, Bool.and_eq_true, Bool.not_eq_true']
    constructor
    · rintro ⟨h1, h2, h3⟩
      have ho : ops[j]? = some ops[j] := Array.getElem?_eq_getElem h1
      refine ⟨h1, ?_, ?_⟩
      · simp only [Dof, Array.getD_eq_getD_getElem?] at h2 ⊢
        have hlt : j < listed.size := by omega
        simpa [hlt] using h2
      · intro e he
        simp only [edgesOf, ho, List.mem_map, List.mem_filter] at he
        obtain ⟨ed, ⟨hed1, hed2⟩, rfl⟩ := he
        rw [ho] at h3
        simp only [Option.map_some, Option.getD_some, Array.all_eq_true] at h3
        have := h3
        obtain ⟨i, hi, hie⟩ := Array.mem_iff_getElem.1 (Array.mem_toList_iff.1 hed1)
        have h4 := h3 i hi
        rw [hie] at h4
        simpa [hed2, Dof] using h4
    · rintro ⟨h1, h2, h3⟩
      have ho : ops[j]? = some ops[j] := Array.getElem?_eq_getElem h1
      refine ⟨h1, ?_, ?_⟩
      · simp only [Dof, Array.getD_eq_getD_getElem?] at h2 ⊢
        have hlt : j < listed.size := by omega
        simpa [hlt] using h2
      · rw [ho]
        simp only [Option.map_some, Option.getD_some, Array.all_eq_true]
        intro i hi
        by_cases hb : Region.binds .any (ops[j].after[i]) = true
        · have := h3 (ops[j].after[i]).on (by
            simp only [edgesOf, ho, List.mem_map, List.mem_filter]
            exact ⟨_, ⟨Array.mem_toList_iff.2 (Array.getElem_mem hi), hb⟩, rfl⟩)
          simp only [Dof] at this
          simp [this]
        · simp [hb]
  have hall : ∀ (listed : Array Bool), listed.size = ops.size → Region.ready .any ops listed = [] → ∀ o ∈ l, Dof listed o.ix = true := by
    intro listed hsz hr o ho
    by_cases h : Dof listed o.ix = true
    · exact h
    · obtain ⟨o', h1, h2, h3⟩ := first_open (D := Dof listed) hT.lin (fun i hi => by cases hi) ⟨o, ho, by simpa using h⟩
      have := (hmr listed o'.ix hsz).2 ⟨hT.lt o' h1, h2, h3⟩
      rw [hr] at this; cases this
  have hfin : ∀ (listed : Array Bool) (s : S), (∀ o ∈ l, Dof listed o.ix = true) → xops call (sel (Dof listed) l) s0 = some s → s = sf := by
    intro listed s h hs
    have : sel (Dof listed) l = l := List.filter_eq_self.2 h
    rw [this, hf] at hs; cases hs; rfl
  intro fuel
  induction fuel with
  | zero =>
    intro listed a w s hsz hD hn hs hI'
    have h0 : ∀ o ∈ l, Dof listed o.ix = true := by
      have := List.length_eq_zero_iff.1 (Nat.le_zero.1 hn)
      rw [List.filter_eq_nil_iff] at this
      intro o ho; simpa using this o ho
    have hs' := hfin listed s h0 hs
    subst hs'
    refine ⟨?_, hI a w hI'⟩
    apply List.eq_nil_iff_forall_not_mem.2
    intro j hj
    obtain ⟨h1, h2, _⟩ := (hmr listed j hsz).1 hj
    obtain ⟨o, ho, rfl⟩ := hT.all j h1
    rw [h0 o ho] at h2; cases h2
  | succ fuel ih =>
    intro listed a w s hsz hD hn hs hI'
    refine ⟨fun hr => ?_, fun j hj => ?_⟩
    · have hs' := hfin listed s (hall listed hsz hr) hs
      subst hs'
      exact hI a w hI'
    · obtain ⟨h1, h2, h3⟩ := (hmr listed j hsz).1 hj
      obtain ⟨o, ho, rfl⟩ := hT.all j h1
      have hD' := closed_add hD h3
      obtain ⟨r, hr⟩ := sel_exists hC hT hf _ (upd (Dof listed) o.ix true) rfl hD'
      obtain ⟨s', q1, q2⟩ := step_sel hC hT hD ho h2 hr
      rw [hs] at q1; cases q1
      refine hop o ho s r a w q2 hI' _ fun a' w' hI2 => ?_
      have hset := Dof_set (listed := listed) (i := o.ix) (by omega)
      refine ih _ a' w' r (by simpa using hsz) (by rw [hset]; exact hD') ?_ (by rw [hset]; exact hr) hI2
      rw [hset]
      obtain ⟨A, B, rfl⟩ := List.append_of_mem ho
      obtain ⟨hA, hB⟩ := linOK_split hT.lin
      have g : ∀ (C : List AOper), (∀ x ∈ C, x.ix ≠ o.ix) → (C.filter fun x => !upd (Dof listed) o.ix true x.ix) = C.filter fun x => !Dof listed x.ix := fun C hC => by
        apply List.filter_congr
        intro x hx
        simp [upd, hC x hx]
      rw [List.filter_append, List.filter_cons, g A hA, g B hB, if_neg (by simp [upd])]
      rw [List.filter_append, List.filter_cons, if_pos (by simp [h2])] at hn
      simp at hn ⊢; omega
end GL
namespace GL
open Go

/-- calls give up no block's number -/
def LenC (call : CallF) : Prop := ∀ (f : Nat) (args : List V) (h : Heap) (v : V) (h' : Heap), call f args h = some (v, h') → h.length ≤ h'.length

theorem wrH_len {h h' : Heap} {b off : Nat} {xs : List V} (hw : wrH h b off xs = some h') : h'.length = h.length := by
  unfold wrH at hw
  split at hw
  case h_2 => cases hw
  split at hw
  case isFalse => cases hw
  simp only [Option.bind_eq_some_iff] at hw
  obtain ⟨cs, _, hx⟩ := hw
  cases hx; simp

theorem appH_len {k bytes n : Nat} {s : V} {xs : List V} {h : Heap} {r : V × Heap} (hr : appH k bytes s n xs h = some r) : h.length ≤ r.2.length := by
  unfold appH at hr
  split at hr
  · simp only [Option.bind_eq_some_iff] at hr
    obtain ⟨_, _, hx⟩ := hr
    cases hx; exact Nat.le_refl _
  · split at hr
    · split at hr
      · cases hr; simp
      · cases hr
    · split at hr
      · simp only [Option.bind_eq_some_iff] at hr
        obtain ⟨h', hw, hx⟩ := hr
        cases hx; exact Nat.le_of_eq (wrH_len hw).symm
      · split at hr
        · simp only [Option.bind_eq_some_iff] at hr
          obtain ⟨_, _, hx⟩ := hr
          cases hx; simp
        · cases hr
    · split at hr
      case h_2 => cases hr
      split at hr
      case isFalse => cases hr
      split at hr
      · simp only [Option.bind_eq_some_iff] at hr
        obtain ⟨h', hw, hx⟩ := hr
        cases hx; exact Nat.le_of_eq (wrH_len hw).symm
      · split at hr
        · simp only [Option.bind_eq_some_iff] at hr
          obtain ⟨_, _, hx⟩ := hr
          cases hx; simp
        · cases hr
    · cases hr

theorem eop_len {call : CallF} (hC : LenC call) {o : EOp} {as : List T} {h : Heap} {r : V × Heap} (hr : eop call o as h = some r) : h.length ≤ r.2.length := by
  cases o with
  | store k =>
    simp only [eop] at hr
    split at hr
    case h_2 => cases hr
    split at hr
    case isFalse => cases hr
    simp only [Option.bind_eq_some_iff] at hr
    obtain ⟨h', hw, hx⟩ := hr
    cases hx; exact Nat.le_of_eq (wrH_len hw).symm
  | new o =>
    simp only [eop, Option.bind_eq_some_iff] at hr
    obtain ⟨_, _, hx⟩ := hr
    cases hx; simp
  | append k bytes =>
    simp only [eop] at hr
    split at hr
    case h_2 => cases hr
    simp only [Option.bind_eq_some_iff] at hr
    obtain ⟨_, _, _, _, hx⟩ := hr
    exact appH_len hx
  | appendZ k bytes z =>
    simp only [eop] at hr
    split at hr
    case h_2 => cases hr
    split at hr
    case isFalse => cases hr
    exact appH_len hr
  | copy k =>
    simp only [eop] at hr
    split at hr
    case h_2 => cases hr
    simp only [Option.bind_eq_some_iff] at hr
    obtain ⟨_, _, _, _, hr⟩ := hr
    split at hr
    · cases hr; exact Nat.le_refl _
    · simp only [Option.bind_eq_some_iff] at hr
      obtain ⟨_, _, hr⟩ := hr
      split at hr
      case h_2 => cases hr
      simp only [Option.bind_eq_some_iff] at hr
      obtain ⟨h', hw, hx⟩ := hr
      cases hx; exact Nat.le_of_eq (wrH_len hw).symm
  | clear k z =>
    simp only [eop] at hr
    split at hr
    case h_2 => cases hr
    split at hr
    · cases hr; exact Nat.le_refl _
    · split at hr
      · cases hr; exact Nat.le_refl _
      · simp only [Option.bind_eq_some_iff] at hr
        obtain ⟨h', hw, hx⟩ := hr
        cases hx; exact Nat.le_of_eq (wrH_len hw).symm
    · cases hr
  | call =>
    simp only [eop] at hr
    split at hr
    case h_2 => cases hr
    simp only [Option.bind_eq_some_iff] at hr
    obtain ⟨_, _, hx⟩ := hr
    exact hC _ _ _ _ _ hx

theorem xop_len {call : CallF} (hC : LenC call) {o : AOper} {s s' : S} (hr : xop call o s = some s') : s.h.length ≤ s'.h.length ∧ s'.base = s.base := by
  unfold xop at hr
  simp only [Option.bind_eq_some_iff] at hr
  obtain ⟨b, hw, hx⟩ := hr
  cases b with
  | false =>
    simp at hx
    subst hx
    rw [put_h, put_base]; exact ⟨Nat.le_refl _, rfl⟩
  | true =>
    simp only [if_true] at hx
    unfold aop at hx
    split at hx
    · simp only [Option.bind_eq_some_iff] at hx
      obtain ⟨x, hp, hx⟩ := hx
      cases hx
      rw [put_h, put_base]; exact ⟨Nat.le_refl _, rfl⟩
    · simp only [Option.bind_eq_some_iff] at hx
      obtain ⟨x, hp, hx⟩ := hx
      cases hx
      rw [put_h, put_base]; exact ⟨Nat.le_refl _, rfl⟩
    · simp only [Option.bind_eq_some_iff] at hx
      obtain ⟨x, hp, hx⟩ := hx
      split at hx
      · split at hx
        · cases hx; rw [put_h, put_base]; exact ⟨Nat.le_refl _, rfl⟩
        · cases hx
      · cases hx; rw [put_h, put_base]; exact ⟨Nat.le_refl _, rfl⟩
    · simp only [Option.bind_eq_some_iff] at hx
      obtain ⟨x, hp, hx⟩ := hx
      split at hx
      · cases hx; rw [put_h, put_base]; exact ⟨eop_len hC hp, rfl⟩
      · cases hx
    · simp only [Option.bind_eq_some_iff] at hx
      obtain ⟨x, hp, hx⟩ := hx
      split at hx
      · cases hx; rw [put_h, put_base]; exact ⟨by simp, rfl⟩
      · cases hx

theorem xops_len {call : CallF} (hC : LenC call) : ∀ {l : List AOper} {s s' : S}, xops call l s = some s' → s.h.length ≤ s'.h.length
  | [], s, s', hr => by simp [xops] at hr; subst hr; exact Nat.le_refl _
  | o :: l, s, s', hr => by
    simp only [xops, Option.bind_eq_some_iff] at hr
    obtain ⟨s1, h1, h2⟩ := hr
    exact Nat.le_trans (xop_len hC h1).1 (xops_len hC h2)

theorem loopN_len {f : S → Option (Ex × S)} (hf : ∀ s e s', f s = some (e, s') → s.h.length ≤ s'.h.length) : ∀ n s e s', loopN f n s = some (e, s') → s.h.length ≤ s'.h.length
  | 0, _, _, _, h => by simp [loopN] at h
  | n + 1, s, e, s', h => by
    simp only [loopN, Option.bind_eq_some_iff] at h
    obtain ⟨⟨e1, s1⟩, h1, h2⟩ := h
    have := hf _ _ _ h1
    cases e1 with
    | norm => exact Nat.le_trans this (loopN_len hf n s1 e s' h2)
    | exit i => cases h2; exact this
    | ret => cases h2; exact this

theorem xC_len {call : CallF} (hC : LenC call) {fuel : Nat} : ∀ (c : Code) (s : S) (e : Ex) (s' : S), xC call fuel c s = some (e, s') → s.h.length ≤ s'.h.length
  | .skip, s, e, s', h => by simp only [xC] at h; cases h; exact Nat.le_refl _
  | .reg rsv ops, s, e, s', h => by
    simp only [xC, Option.bind_eq_some_iff] at h
    obtain ⟨s1, h1, h2⟩ := h
    cases h2
    have := xops_len hC h1
    simp [S.begin] at this
    omega
  | .seq a b, s, e, s', h => by
    simp only [xC, Option.bind_eq_some_iff] at h
    obtain ⟨⟨e1, s1⟩, h1, h2⟩ := h
    have := xC_len hC a s e1 s1 h1
    cases e1 with
    | norm => exact Nat.le_trans this (xC_len hC b s1 e s' h2)
    | exit i => cases h2; exact this
    | ret => cases h2; exact this
  | .cond c a b, s, e, s', h => by
    simp only [xC] at h
    split at h
    · exact xC_len hC a s e s' h
    · exact xC_len hC b s e s' h
    · cases h
  | .block id c, s, e, s', h => by
    simp only [xC, Option.bind_eq_some_iff] at h
    obtain ⟨⟨e1, s1⟩, h1, h2⟩ := h
    have := xC_len hC c s e1 s1 h1
    cases e1 with
    | norm => cases h2; exact this
    | exit i =>
      simp only at h2
      split at h2 <;> (cases h2; exact this)
    | ret => cases h2; exact this
  | .loop c, s, e, s', h => by
    simp only [xC] at h
    exact loopN_len (fun s e s' => xC_len hC c s e s') fuel s e s' h
  | .exit id, s, e, s', h => by simp only [xC] at h; cases h; exact Nat.le_refl _
  | .ret, s, e, s', h => by simp only [xC] at h; cases h; exact Nat.le_refl _
  | .bad, s, e, s', h => by simp [xC] at h

theorem finish_h {e : Ex} {s : S} {rs : List Res} {v : V} {h' : Heap} (h : finish rs (e, s) = some (v, h')) : h' = s.h := by
  unfold finish at h
  split at h
  · cases h
  · rename_i e1 e2
    cases e2
    simp only [Option.bind_eq_some_iff] at h
    obtain ⟨xs, _, hx⟩ := h
    split at hx <;> (cases hx; rfl)

theorem callN_len {p : Prog} (hE : ∀ f e, p.ext f = some e → LenC fun _ => e) : ∀ n, LenC (callN p n)
  | 0 => fun _ _ _ _ _ h => by simp [callN] at h
  | n + 1 => fun f args h v h' hr => by
    simp only [callN] at hr
    split at hr
    · rename_i e he
      exact hE f e he 0 args h v h' hr
    · split at hr
      case h_2 => cases hr
      rename_i fn hfn
      simp only [Option.bind_eq_some_iff] at hr
      obtain ⟨⟨e, s⟩, h1, h2⟩ := hr
      have := xC_len (callN_len hE n) fn.body _ e s h1
      rw [finish_h h2]; exact this
end GL
namespace GL
open Go
variable {P : Program} {E : Env} {ρ : Rho} {lam : Nat → Nat → Nat} {s : S} {a : Act} {w : World} {fid : Nat → FuncId} {h : Heap}

theorem get_rep {h : Heap} {n b : Nat} {blk : Blk} (hb : (h ++ List.replicate n deadBlk)[b]? = some blk) (hl : blk.st ≠ .dead) : h[b]? = some blk := by
  rcases Nat.lt_or_ge b h.length with h1 | h1
  · rwa [List.getElem?_append_left h1] at hb
  · rw [List.getElem?_append_right h1, List.getElem?_replicate] at hb
    split at hb
    · cases hb; exact absurd rfl hl
    · cases hb

theorem RM.reserve (hm : RM fid ρ h w) (n : Nat) : RM fid ρ (h ++ List.replicate n deadBlk) w where
  out := fun b hb => hm.out b (by simp at hb; omega)
  has := fun b blk hb hl => hm.has b blk (get_rep hb hl) hl
  bd := fun b blk a hb ha hl => hm.bd b blk a (get_rep hb hl) ha hl
  cell := fun b blk a i v hb ha hl hv => hm.cell b blk a i v (get_rep hb hl) ha hl hv
  cel := fun b blk hb hl => hm.cel b blk (get_rep hb hl) hl
  own := fun b blk a hb ha ho => hm.own b blk a (get_rep hb (by rw [ho]; decide)) ha ho
  sep := fun b b' blk blk' a a' hne hb hb' ha ha' ho hl => hm.sep b b' blk blk' a a' hne (get_rep hb (by rw [ho]; decide)) (get_rep hb' hl) ha ha' ho hl

/-- a block that was kept free is made -/
theorem RM.fill (hm : RM fid ρ h w) {b : Nat} (hd : isDead h b = true) (hn : ρ b = none) {cells : List V} {arr : Array Value} {T : TypeId} (hq : allCell cells = true) (hs : cells.length ≤ arr.size)
    (hc : ∀ (i : Nat) (v : V), cells[i]? = some v → ∃ x, arr[i]? = some x ∧ RV fid (pushR ρ b ⟨w.heap.size, 0, arr.size⟩) v x) :
    RM fid (pushR ρ b ⟨w.heap.size, 0, arr.size⟩) (h.set b ⟨.own, cells⟩) (pushO w (.cells arr T (0, 0))) where
  out := fun c hb => by
    have := isDead_lt hd
    simp at hb
    unfold pushR; rw [if_neg (by omega)]; exact hm.out c hb
  has := fun c blk hb hl => by
    rcases get_set hb with ⟨hne, hb⟩ | ⟨rfl, rfl, _⟩
    · obtain ⟨a, ha⟩ := hm.has c blk hb hl
      exact ⟨a, by unfold pushR; rw [if_neg hne]; exact ha⟩
    · exact ⟨_, pushR_self _ _ _⟩
  bd := fun c blk a hb ha hl => by
    show a.cb < (w.heap.push _).size
    rw [Array.size_push]
    rcases get_set hb with ⟨hne, hb⟩ | ⟨rfl, rfl, _⟩ <;> rcases at_push ha with ⟨h1, ha⟩ | ⟨h1, rfl⟩ <;> first | contradiction | skip
    · exact Nat.lt_succ_of_lt (hm.bd c blk a hb ha hl)
    · exact Nat.lt_succ_self _
  cell := fun c blk a i v hb ha hl hv => by
    have e := Ext.push hn (⟨w.heap.size, 0, arr.size⟩ : At)
    rcases get_set hb with ⟨hne, hb⟩ | ⟨rfl, rfl, _⟩ <;> rcases at_push ha with ⟨h1, ha⟩ | ⟨h1, rfl⟩ <;> first | contradiction | skip
    · obtain ⟨x, hx, hr⟩ := hm.cell c blk a i v hb ha hl hv
      exact ⟨x, by rw [cell?_block (pushO_old _ _ (hm.bd c blk a hb ha hl))]; exact hx, hr.ext e⟩
    · obtain ⟨x, hx, hr⟩ := hc i v hv
      exact ⟨x, by rw [cell?_arr (pushO_new _ _)]; simpa using hx, hr⟩
  cel := fun c blk hb hl => by
    rcases get_set hb with ⟨hne, hb⟩ | ⟨rfl, rfl, _⟩
    · exact hm.cel c blk hb hl
    · exact hq
  own := fun c blk a hb ha hl => by
    rcases get_set hb with ⟨hne, hb⟩ | ⟨rfl, rfl, _⟩ <;> rcases at_push ha with ⟨h1, ha⟩ | ⟨h1, rfl⟩ <;> first | contradiction | skip
    · obtain ⟨h2, arr', T', h3, h4⟩ := hm.own c blk a hb ha hl
      exact ⟨h2, arr', T', by rw [pushO_old _ _ (hm.bd c blk a hb ha (by rw [hl]; decide))]; exact h3, h4⟩
    · exact ⟨hs, arr, T, pushO_new _ _, by simp⟩
  sep := fun c c' blk blk' a a' hne hb hb' ha ha' ho hl => by
    rcases get_set hb with ⟨n1, hb⟩ | ⟨rfl, rfl, _⟩ <;> rcases get_set hb' with ⟨n2, hb'⟩ | ⟨rfl, rfl, _⟩ <;>
      rcases at_push ha with ⟨h1, ha⟩ | ⟨e1, e1'⟩ <;> rcases at_push ha' with ⟨h2, ha'⟩ | ⟨e2, e2'⟩ <;> first | contradiction | skip
    · exact hm.sep c c' blk blk' a a' hne hb hb' ha ha' ho hl
    · subst e2'; exact Nat.ne_of_lt (hm.bd c blk a (by assumption) ha (by rw [ho]; decide))
    · subst e1'; exact Nat.ne_of_gt (hm.bd c' blk' a' hb' ha' hl)

theorem OI.fill {b : Nat} (hd : isDead h b = true) (blk : Blk) {at' : At} (hc : w.heap.size ≤ at'.cb) : OI ρ h w (pushR ρ b at') (h.set b blk) := fun c bk x hb hx _ => by
  rcases get_set hb with ⟨hne, hb⟩ | ⟨rfl, rfl, _⟩
  · exact .inl ⟨bk, hb, rfl⟩
  · rcases at_push hx with ⟨h2, _⟩ | ⟨_, rfl⟩
    · exact absurd rfl h2
    · exact .inr (.inr hc)

theorem rdH_take {n b off k : Nat} {xs : List V} (hr : rdH (h.take n) b off k = some xs) : rdH h b off k = some xs := by
  unfold rdH at hr ⊢
  split at hr
  case h_2 => cases hr
  rename_i blk hb
  rw [List.getElem?_take] at hb
  split at hb
  · rw [hb]; exact hr
  · cases hb

theorem rdS_take {n k m : Nat} {x : V} {xs : List V} (hr : rdS (h.take n) k x m = some xs) : rdS h k x m = some xs := by
  unfold rdS at hr ⊢
  split at hr
  · split at hr
    case isFalse => cases hr
    rename_i h1
    simp only [h1, if_true]
    split at hr
    · rename_i h2; simp only [h2, if_true]; exact hr
    · rename_i h2; simp only [h2, if_false]; exact rdH_take hr
  · exact hr
  · cases hr

theorem mop_prefix {o : MOp} {as : List T} {n : Nat} {r : Blk × (Nat → V)} (hr : mop o as (h.take n) = some r) : mop o as h = some r := by
  cases o with
  | alloc => exact hr
  | box => exact hr
  | lit => exact hr
  | make => exact hr
  | appendN k bytes =>
    simp only [mop] at hr ⊢
    split at hr
    case h_2 => cases hr
    simp only [Option.bind_eq_some_iff] at hr
    obtain ⟨n, hn, xs, hxs, hx⟩ := hr
    simp only [hn, Option.bind_some, rdS_take hxs]
    split at hx
    · split at hx
      case isFalse => cases hx
      rename_i hc
      simp only [hc, and_self, if_true]
      simp only [Option.bind_eq_some_iff] at hx
      obtain ⟨old, hold, hx⟩ := hx
      simp only [rdS_take hold, Option.bind_some]; exact hx
    · exact hx
    · cases hx

/-- calls of the machine are calls of the program -/
def SoundCall (P : Program) (fid : Nat → FuncId) (call : CallF) : Prop :=
  ∀ (f : Nat) (args : List V) (h : Heap) (v : V) (h' : Heap) (ρ : Rho) (w : World) (as : List Value),
    call f args h = some (v, h') → RM fid ρ h w → RVs fid ρ args as →
    (∃ F, P.funcs[fid f]? = some F ∧ (F.name == "runtime.NumGoroutine") = false ∧ F.body.isNone = false) ∧
    Calls P (fid f) as.toArray w fun e w' => ∃ y, e = .returned y ∧ HS fid ρ h w v h' y w'

def guardMt (ops : Array Oper) : Option (Nat × Bool) → Option (Nat × Bool) → Bool
  | none, none => true
  | some (j, want), some (g, want') => want == want' && (match ops[j]? with | some o => o.dst == some g | none => false)
  | _, _ => false

def clsMt (P : Program) (fid : Nat → FuncId) (eqs : List (TypeId × List (Option IntKind))) (rsv : Nat) (o : Oper) (op : AOp) (args : List Opd) : Bool :=
  match op with
  | .p p => popMt P fid eqs o.op p args
  | .l l => lopMt P fid o.op o.dst l args
  | .r r _ => ropMt P fid o.op r args
  | .e e _ _ => eopMt P fid o.op e args
  | .m m j => mopMt P fid o.op m args && decide (j < rsv)

def operMt (P : Program) (fid : Nat → FuncId) (eqs : List (TypeId × List (Option IntKind))) (nt rsv : Nat) (ops : Array Oper) (ao : AOper) : Bool :=
  match ops[ao.ix]? with
  | some o => o.dst == ao.dst && (match o.dst with | some t => decide (t < nt) | none => true) && guardMt ops o.guard ao.guard && clsMt P fid eqs rsv o ao.op ao.args
  | none => false

/-- what stands between the operations of a region -/
structure J (E : Env) (rsv : Nat) (s : S) (a : Act) (w : World) (ρ : Rho) (lam : Nat → Nat → Nat) : Prop where
  inv : Inv E ρ lam s a w
  keep : Keep E.h0.length E.ρ0 ρ
  len : E.h0.length ≤ s.h.length
  base : E.h0.length ≤ s.base
  slot : ∀ j, j < rsv → s.fl j = false → isDead s.h (s.base + j) = true ∧ ρ (s.base + j) = none

theorem wants_sound (ht : ∀ i, RT E.fid ρ lam s.L (s.σ i) (a.tmps.getD i undef)) {ops : Array Oper} {o : Oper} {g : Option (Nat × Bool)} (hg : guardMt ops o.guard g = true) {b : Bool} (hw : s.wants g = some b) :
    Region.wanted o (yielded ops a.tmps) = b := by
  unfold Region.wanted
  cases hog : o.guard with
  | none =>
    rw [hog] at hg
    cases g with
    | none => simp only [S.wants, Option.some.injEq] at hw; simpa using hw
    | some g => simp [guardMt] at hg
  | some jw =>
    obtain ⟨j, want⟩ := jw
    rw [hog] at hg
    cases g with
    | none => simp [guardMt] at hg
    | some g =>
      obtain ⟨g, want'⟩ := g
      simp only [guardMt, Bool.and_eq_true, beq_iff_eq] at hg
      obtain ⟨rfl, hd⟩ := hg
      split at hd
      case h_2 => cases hd
      rename_i o' ho'
      simp only [beq_iff_eq] at hd
      simp only [yielded, ho', Option.bind_some, hd]
      have h1 := ht g
      simp only [S.wants] at hw
      split at hw
      · rename_i b' hb
        cases hw
        rw [hb] at h1
        have h2 : a.tmps.getD g undef = .bool b' := by generalize a.tmps.getD g undef = z at h1; cases h1; rfl
        rw [Array.getD_eq_getD_getElem?] at h2
        cases h3 : a.tmps[g]? with
        | none => rw [h3] at h2; simp [undef] at h2
        | some x => rw [h3] at h2; simp at h2; subst h2; simp
      · rename_i hb
        cases hw
        rw [hb] at h1
        have h2 : ∃ vs : List Value, a.tmps.getD g undef = .tuple vs.toArray := by generalize a.tmps.getD g undef = z at h1; cases h1; exact ⟨_, rfl⟩
        obtain ⟨vs, h2⟩ := h2
        rw [Array.getD_eq_getD_getElem?] at h2
        cases h3 : a.tmps[g]? with
        | none => rfl
        | some x => rw [h3] at h2; simp at h2; subst h2; rfl
      · cases hw

theorem eval_args (a : Act) (xs : Array Operand) : (xs.map a.eval).toList = xs.toList.map a.eval := by simp

theorem J.put {rsv : Nat} (hj : J E rsv s a w ρ lam) {d : Option Nat} {x : T} {y : Value} (hi : Inv E ρ lam (s.put d x) (a.put d y) w) : J E rsv (s.put d x) (a.put d y) w ρ lam where
  inv := hi
  keep := hj.keep
  len := by rw [put_h]; exact hj.len
  base := by rw [put_base]; exact hj.base
  slot := fun j h1 h2 => by
    rw [put_h, put_base]
    refine hj.slot j h1 ?_
    rw [← h2]; cases d <;> rfl

theorem callSim {call : CallF} (hS : SoundCall P E.fid call) {oper : Oper} {args : List Opd} {r : V × Heap} (hmt : eopMt P E.fid oper.op .call args = true)
    (ht : ∀ i, RT E.fid ρ lam s.L (s.σ i) (a.tmps.getD i undef)) (hm : RM E.fid ρ s.h w) (hp : eop call .call (args.map s.ev) s.h = some r) {K : Act → World → Prop} {Q : Exit → Act → World → Prop}
    (hk : ∀ y w', HS E.fid ρ s.h w r.1 r.2 y w' → K (a.put oper.dst y) w') : oper.wp P a w K Q := by
  simp only [eopMt] at hmt
  split at hmt
  case h_2 => cases hmt
  rename_i f xs ts hop
  have hs := args_sound ht hmt
  simp only [eop] at hp
  split at hp
  case h_2 => cases hp
  rename_i fn capt as heq
  rw [heq] at hs
  simp only [List.map_cons] at hs
  generalize hgx : (xs.toList.map a.eval) = gx at hs
  generalize hgf : a.eval f = gf at hs
  cases hs with
  | cons h1 h2 =>
    simp only [Option.bind_eq_some_iff] at hp
    obtain ⟨vs, hvs, hp⟩ := hp
    have hrv := vals_sound h2 hvs
    cases h1 with
    | fn h1 =>
      rename_i cs
      obtain ⟨⟨F, hF, hn, hb⟩, hc⟩ := hS fn (vs ++ capt) s.h r.1 r.2 ρ w _ hp hm (hrv.append h1)
      unfold Oper.wp
      have hxs : xs.map a.eval = gx.toArray := by apply Array.toList_inj.1; simpa using hgx
      have hrun : (execOp a.eval oper).run P w = .ok (.enter (E.fid fn) (gx ++ cs).toArray) w := by
        have hn' : ¬ F.name = "runtime.NumGoroutine" := by simpa using hn
        have hb' : ¬ F.body = none := by intro e; rw [e] at hb; cases hb
        rw [execOp]
        simp [hop, resolve, Deferred.ofValue, hgf, invoke, callFunc, run_program, hF, hn', hb', hxs]
      rw [hrun]
      simp only [Oper.upon]
      exact hc.mono fun e w' ⟨y, he, hhs⟩ => by subst he; exact hk y w' hhs
end GL
namespace GL
open Go
variable {P : Program} {E : Env} {ρ : Rho} {lam : Nat → Nat → Nat} {s : S} {a : Act} {w : World} {fid : Nat → FuncId} {h : Heap}

theorem Keep.trans' {n m : Nat} {a b c : Rho} (h1 : Keep n a b) (h2 : Keep m b c) (hl : n ≤ m) : Keep n a c := fun i hi => by rw [h2 i (by omega), h1 i hi]

theorem HS.ext {v : V} {h' : Heap} {y : Value} {w' : World} (hm : RM fid ρ h w) (hs : HS fid ρ h w v h' y w') :
    ∃ ρ', RM fid ρ' h' w' ∧ Keep h.length ρ ρ' ∧ Ext ρ ρ' ∧ Fr (Owned ρ h) w w' ∧ OI ρ h w ρ' h' ∧ RV fid ρ' v y := by
  obtain ⟨ρ', h1, h2, h3, h4, h5⟩ := hs
  exact ⟨ρ', h1, h2, h2.ext hm, h3, h4, h5⟩

structure CallOK (P : Program) (fid : Nat → FuncId) (call : CallF) : Prop where
  sound : SoundCall P fid call
  fill : FillC call
  len : LenC call

theorem operSim {call : CallF} (hC : CallOK P E.fid call) {eqs : List (TypeId × List (Option IntKind))} (hE : ∀ t sh, (t, sh) ∈ eqs → EqOK P t sh) {nt rsv : Nat} (hnt : nt ≤ E.nt) {ops : Array Oper} {ao : AOper} {s s' : S}
    (hmt : operMt P E.fid eqs nt rsv ops ao = true) (hx : xop call ao s = some s') (hj : J E rsv s a w ρ lam) {K : Act → World → Prop} {Q : Exit → Act → World → Prop}
    (hk : ∀ a' w' ρ' lam', J E rsv s' a' w' ρ' lam' → K a' w') : wpOp P ops Q ao.ix K a w := by
  unfold operMt at hmt
  split at hmt
  case h_2 => cases hmt
  rename_i o ho
  simp only [Bool.and_eq_true, beq_iff_eq] at hmt
  obtain ⟨⟨⟨hdst, hd0⟩, hg⟩, hcls⟩ := hmt
  have hd : ∀ t, o.dst = some t → t < E.nt := fun t ht => by rw [ht] at hd0; exact Nat.lt_of_lt_of_le (by simpa using hd0) hnt
  unfold xop at hx
  simp only [Option.bind_eq_some_iff] at hx
  obtain ⟨b, hw, hx⟩ := hx
  have hwant := wants_sound hj.inv.tm hg hw
  unfold wpOp
  simp only [ho, hwant]
  cases b with
  | false =>
    simp only [Bool.false_eq_true, if_false] at hx ⊢
    simp at hx
    subst hx
    exact hk _ _ ρ lam (by rw [← hdst]; exact hj.put (hj.inv.put hd (RV.tup .nil)))
  | true =>
    simp only [if_true] at hx ⊢
    refine .inl ?_
    have ht := hj.inv.tm
    unfold aop at hx
    cases hop : ao.op with
    | p p =>
      rw [hop] at hx hcls
      simp only [Option.bind_eq_some_iff] at hx
      obtain ⟨x, hp, hx⟩ := hx
      cases hx
      obtain ⟨y, hy, hr⟩ := popSim (w := w) hE hcls ht hp
      exact Outs.wp (.inl hy) (hk _ _ ρ lam (by rw [← hdst]; exact hj.put (hj.inv.put hd hr)))
    | l l =>
      rw [hop] at hx hcls
      simp only [Option.bind_eq_some_iff] at hx
      obtain ⟨x, hp, hx⟩ := hx
      cases hx
      obtain ⟨y, w', lam', hy, hi'⟩ := lopSim hd hcls hj.inv hp
      refine Outs.wp hy (hk _ _ ρ lam' ?_)
      rw [← hdst]
      have hj' : J E rsv s a w ρ lam := hj
      refine ⟨hi', hj.keep, by rw [put_h]; exact hj.len, by rw [put_base]; exact hj.base, fun j h1 h2 => ?_⟩
      rw [put_h, put_base]
      refine hj.slot j h1 ?_
      rw [← h2]; cases o.dst <;> rfl
    | r ro watch =>
      rw [hop] at hx hcls
      simp only [Option.bind_eq_some_iff] at hx
      obtain ⟨x, hp, hx⟩ := hx
      obtain ⟨y, hy, hr⟩ := ropSim hcls ht hj.inv.rm hp
      have hi' : Inv E ρ lam (s.put o.dst (.v x)) (a.put o.dst y) w := hj.inv.put hd hr
      cases watch with
      | false =>
        simp at hx
        subst hx
        exact Outs.wp (.inl hy) (hk _ _ ρ lam (by rw [← hdst]; exact hj.put hi'))
      | true =>
        simp only [if_true] at hx
        split at hx
        case isFalse => cases hx
        cases hx
        refine Outs.wp (.inl hy) (hk _ _ ρ lam ?_)
        rw [← hdst]
        have hj2 : J E rsv { s with wt := upd s.wt ao.ix (some (ro, ao.args.map s.ev, x)) } a w ρ lam :=
          ⟨⟨hj.inv.rm, hj.inv.rl, hj.inv.li, hj.inv.tm, hj.inv.nt, hj.inv.fr, hj.inv.oi, hj.inv.pre, hj.inv.df⟩, hj.keep, hj.len, hj.base, hj.slot⟩
        exact hj2.put (hj2.inv.put hd hr)
    | e eo chk sl =>
      rw [hop] at hx hcls
      simp only [Option.bind_eq_some_iff] at hx
      obtain ⟨r, hp, hx⟩ := hx
      split at hx
      case isFalse => cases hx
      cases hx
      have fin : ∀ y w', HS E.fid ρ s.h w r.1 r.2 y w' → K (a.put o.dst y) w' := fun y w' hhs => by
        obtain ⟨ρ', h1, h2, h3, h4, h5, h6⟩ := hhs.ext hj.inv.rm
        have hi1 := hj.inv.mem h1 h3 h4 h5
        have hlen := eop_len hC.len hp
        have hj1 : J E rsv { s with h := r.2 } a w' ρ' lam := by
          refine ⟨hi1, hj.keep.trans' h2 hj.len, Nat.le_trans hj.len hlen, hj.base, fun j q1 q2 => ?_⟩
          obtain ⟨d1, d2⟩ := hj.slot j q1 q2
          refine ⟨(eop_fill (nb := deadBlk) hC.fill d1 hp).1, ?_⟩
          show ρ' (s.base + j) = none
          rw [h2 _ (isDead_lt d1)]; exact d2
        refine hk _ _ ρ' lam ?_
        rw [← hdst]
        exact hj1.put (hj1.inv.put hd h6)
      by_cases hc : eo = .call
      · subst hc
        exact callSim hC.sound hcls ht hj.inv.rm hp fin
      · obtain ⟨y, w', hy, hhs⟩ := eopSim hc hcls ht hj.inv.rm hp
        exact Outs.wp hy (fin y w' hhs)
    | m mo slot =>
      rw [hop] at hx hcls
      simp only [clsMt, Bool.and_eq_true, decide_eq_true_eq] at hcls
      obtain ⟨hcls, hslot⟩ := hcls
      simp only [Option.bind_eq_some_iff] at hx
      obtain ⟨⟨blk, mk⟩, hp, hx⟩ := hx
      split at hx
      case isFalse => cases hx
      rename_i hsl
      cases hx
      obtain ⟨hfl, hdead⟩ := hsl
      obtain ⟨d1, d2⟩ := hj.slot slot hslot hfl
      obtain ⟨y, w', arr, hy, hn⟩ := mopSim (E := E) hcls ht hj.inv.rm (mop_prefix hp)
      obtain ⟨d, T, hw'⟩ := hn.ex
      obtain ⟨st, cells⟩ := blk
      have hst := hn.st
      simp at hst
      subst hst
      have e := Ext.push d2 (⟨w.heap.size, 0, arr.size⟩ : At)
      have hm' : RM E.fid ρ s.h { w with drawn := d } := hj.inv.rm.congr rfl
      have hm2 : RM E.fid (pushR ρ (s.base + slot) ⟨w.heap.size, 0, arr.size⟩) (s.h.set (s.base + slot) ⟨.own, cells⟩) w' := by
        rw [hw']
        exact RM.fill hm' d1 d2 hn.cel hn.sz fun i v hv => by
          obtain ⟨x, hx, hr⟩ := hn.cell i v hv
          exact ⟨x, hx, hr.ext e⟩
      have hf : Fr (Owned ρ s.h) w w' := by
        rw [hw']
        have := Fr.push (Owned ρ s.h) { w with drawn := d } (.cells arr T (0, 0))
        exact ⟨this.os, this.tape, this.output, this.size, this.block⟩
      have ho' : OI ρ s.h w (pushR ρ (s.base + slot) ⟨w.heap.size, 0, arr.size⟩) (s.h.set (s.base + slot) ⟨.own, cells⟩) := OI.fill d1 _ (Nat.le_refl _)
      have hi1 := hj.inv.mem hm2 e hf ho'
      have hj1 : J E rsv { s with h := s.h.set (s.base + slot) ⟨.own, cells⟩, fl := upd s.fl slot true } a w' (pushR ρ (s.base + slot) ⟨w.heap.size, 0, arr.size⟩) lam := by
        refine ⟨⟨hi1.rm, hi1.rl, hi1.li, hi1.tm, hi1.nt, hi1.fr, hi1.oi, hi1.pre, hi1.df⟩, fun i hi => ?_, by simp; exact hj.len, hj.base, fun j q1 q2 => ?_⟩
        · have := hj.base
          unfold pushR; rw [if_neg (by omega)]; exact hj.keep i hi
        · have hne : j ≠ slot := by
            intro e; subst e; simp [upd] at q2
          simp only [upd, hne, if_false] at q2
          obtain ⟨g1, g2⟩ := hj.slot j q1 q2
          refine ⟨isDead_set g1 (fun e => hne (by exact (Nat.add_left_cancel e).symm)), ?_⟩
          unfold pushR; rw [if_neg (fun e => hne (Nat.add_left_cancel e))]; exact g2
      refine Outs.wp hy (hk _ _ (pushR ρ (s.base + slot) ⟨w.heap.size, 0, arr.size⟩) lam ?_)
      rw [← hdst]
      exact hj1.put (hj1.inv.put hd (hn.val _ _ e (pushR_self _ _ _)))
end GL
