import Derived.ChangeArms
import Derived.IntWalk
import Derived.WideShapes
import Derived.Test.YtmgbbehacaldlaaGuFnDoneA
/- What the functions of the law do, on the machine. -/
set_option linter.unusedSimpArgs false
set_option linter.unusedVariables false
set_option linter.unnecessarySimpa false
namespace GL
open Go

/-- all that one leads to, and that lead back -/
noncomputable def groupL (l : List (List Int)) (a : Int) : List Int := (reachL l a).filter fun b => decide (a ∈ reachL l b)
def InR (l : List (List Int)) (a : Int) : Prop := 0 ≤ a ∧ a < l.length
theorem groupL_rising (l : List (List Int)) (a : Int) : (groupL l a).Pairwise (· < ·) := (reachL_rising l a).filter _
section
variable {l : List (List Int)} (hg : linksB l = true)
include hg
theorem mem_groupL {a b : Int} (ha : InR l a) : b ∈ groupL l a ↔ Rch l a b ∧ Rch l b a := by
  simp only [groupL, List.mem_filter, decide_eq_true_eq]
  rw [mem_reachL hg ha]
  constructor
  · rintro ⟨h1, h2⟩; exact ⟨h1, (mem_reachL hg (h1.lt hg ha)).1 h2⟩
  · rintro ⟨h1, h2⟩; exact ⟨h1, (mem_reachL hg (h1.lt hg ha)).2 h2⟩
theorem self_groupL {a : Int} (ha : InR l a) : a ∈ groupL l a := (mem_groupL hg ha).2 ⟨.refl _, .refl _⟩
theorem groupL_in {a b : Int} (ha : InR l a) (hb : b ∈ groupL l a) : InR l b := ((mem_groupL hg ha).1 hb).1.lt hg ha
theorem groupL_eq {a b : Int} (ha : InR l a) (hb : b ∈ groupL l a) : groupL l b = groupL l a := by
  have hb' := groupL_in hg ha hb
  have h := (mem_groupL hg ha).1 hb
  refine rising_ext (groupL_rising l b) (groupL_rising l a) fun x => ?_
  rw [mem_groupL hg ha, mem_groupL hg hb']
  exact ⟨fun ⟨p, q⟩ => ⟨h.1.trans p, q.trans h.2⟩, fun ⟨p, q⟩ => ⟨h.2.trans p, q.trans h.1⟩⟩
theorem groupL_len {a : Int} (ha : InR l a) : (groupL l a).length ≤ l.length := rising_len (groupL_rising l a) fun x hx => groupL_in hg ha hx
end

def readyB (l : List (List Int)) (done : List Int) (k : Int) : Prop := ∀ x ∈ reachL l k, x ∈ done ∨ x ∈ groupL l k
noncomputable instance (l : List (List Int)) (done : List Int) (k : Int) : Decidable (readyB l done k) := by unfold readyB; infer_instance
def nodes (l : List (List Int)) : List Int := (List.range l.length).map fun (i : Nat) => (i : Int)
theorem mem_nodes {l : List (List Int)} {a : Int} : a ∈ nodes l ↔ InR l a := by
  simp only [nodes, List.mem_map, List.mem_range, InR]
  exact ⟨fun ⟨i, hi, e⟩ => by omega, fun ⟨h1, h2⟩ => ⟨a.toNat, by omega, by omega⟩⟩
theorem nodes_rising (l : List (List Int)) : (nodes l).Pairwise (· < ·) := range_rising _
noncomputable def nextK (l : List (List Int)) (done : List Int) : Option Int := (nodes l).find? fun k => decide (k ∉ done ∧ readyB l done k)
noncomputable def groupsF (l : List (List Int)) : Nat → List Int → List (List Int)
  | 0, _ => []
  | f + 1, done => match nextK l done with
    | none => []
    | some k => groupL l k :: groupsF l f (done ++ groupL l k)
/-- all groups, each behind all that it leads to -/
noncomputable def groupsL (l : List (List Int)) : List (List Int) := groupsF l l.length []

/-- nothing leads out of these -/
structure Cl (l : List (List Int)) (done : List Int) : Prop where
  lt : ∀ x ∈ done, InR l x
  cl : ∀ x ∈ done, ∀ y, Rch l x y → y ∈ done

theorem Cl.nil (l : List (List Int)) : Cl l [] := ⟨by simp, by simp⟩
section
variable {l : List (List Int)} (hg : linksB l = true)
include hg
theorem ready_iff {done : List Int} {k : Int} (hk : InR l k) : readyB l done k ↔ ∀ x, Rch l k x → x ∈ done ∨ Rch l x k := by
  constructor
  · intro h x r
    rcases h x ((mem_reachL hg hk).2 r) with h | h
    · exact .inl h
    · exact .inr ((mem_groupL hg hk).1 h).2
  · intro h x hx
    have r := (mem_reachL hg hk).1 hx
    rcases h x r with h | h
    · exact .inl h
    · exact .inr ((mem_groupL hg hk).2 ⟨r, h⟩)
theorem ready_exists {done : List Int} : ∀ (n : Nat) (k : Int), InR l k → k ∉ done → (reachL l k).length ≤ n → ∃ k, InR l k ∧ k ∉ done ∧ readyB l done k
  | 0, k, hk, _, hn => by
    have : k ∈ reachL l k := (mem_reachL hg hk).2 (.refl _)
    rw [List.length_eq_zero_iff.1 (Nat.le_zero.1 hn)] at this; cases this
  | n + 1, k, hk, hd, hn => by
    by_cases hr : readyB l done k
    · exact ⟨k, hk, hd, hr⟩
    · have : ∃ x, Rch l k x ∧ x ∉ done ∧ ¬ Rch l x k := by
        refine Classical.byContradiction fun hc => hr ((ready_iff hg hk).2 fun x r => ?_)
        by_cases h1 : x ∈ done
        · exact .inl h1
        · by_cases h2 : Rch l x k
          · exact .inr h2
          · exact absurd ⟨x, r, h1, h2⟩ hc
      obtain ⟨x, r, h1, h2⟩ := this
      have hx := r.lt hg hk
      refine ready_exists n x hx h1 ?_
      have hnd : (k :: reachL l x).Nodup := by
        rw [List.nodup_cons]
        exact ⟨fun h => h2 ((mem_reachL hg hx).1 h), (reachL_rising l x).imp fun h => by omega⟩
      have := hnd.length_le_of_subset (l₂ := reachL l k) fun y hy => by
        rcases List.mem_cons.1 hy with rfl | hy
        · exact (mem_reachL hg hk).2 (.refl _)
        · exact (mem_reachL hg hk).2 (r.trans ((mem_reachL hg hx).1 hy))
      simp at this; omega
theorem next_none {done : List Int} (h : nextK l done = none) {k : Int} (hk : InR l k) : k ∈ done := by
  refine Classical.byContradiction fun hd => ?_
  obtain ⟨j, hj, h1, h2⟩ := ready_exists hg _ k hk hd (Nat.le_refl _)
  have := List.find?_eq_none.1 h j (mem_nodes.2 hj)
  simp [h1, h2] at this
theorem next_some {done : List Int} {k : Int} (h : nextK l done = some k) : InR l k ∧ k ∉ done ∧ readyB l done k ∧ ∀ j, InR l j → j ∉ done → readyB l done j → k ≤ j := by
  have _ := hg
  obtain ⟨h1, as, bs, h2, h3⟩ := List.find?_eq_some_iff_append.1 h
  have hk : k ∈ nodes l := by rw [h2]; simp
  simp only [decide_eq_true_eq] at h1
  refine ⟨mem_nodes.1 hk, h1.1, h1.2, fun j hj j1 j2 => ?_⟩
  have hjn := mem_nodes.2 hj
  have hr := nodes_rising l
  rw [h2] at hjn hr
  rw [List.pairwise_append, List.pairwise_cons] at hr
  rcases List.mem_append.1 hjn with h | h
  · have := h3 j h
    simp [j1, j2] at this
  · rcases List.mem_cons.1 h with rfl | h
    · exact Int.le_refl _
    · exact Int.le_of_lt (hr.2.1.1 j h)
theorem next_rep {done : List Int} (hc : Cl l done) {k : Int} (h : nextK l done = some k) : ∀ b ∈ groupL l k, k ≤ b := by
  obtain ⟨hk, h1, h2, h3⟩ := next_some hg h
  intro b hb
  have hb' := groupL_in hg hk hb
  have ⟨r1, r2⟩ := (mem_groupL hg hk).1 hb
  refine h3 b hb' (fun hbd => h1 (hc.cl b hbd k r2)) ((ready_iff hg hb').2 fun x r => ?_)
  rcases (ready_iff hg hk).1 h2 x (r1.trans r) with h | h
  · exact .inl h
  · exact .inr (h.trans r1)
theorem Cl.next {done : List Int} (hc : Cl l done) {k : Int} (hk : InR l k) (h2 : readyB l done k) : Cl l (done ++ groupL l k) := by
  refine ⟨fun x hx => ?_, fun x hx y r => ?_⟩
  · rcases List.mem_append.1 hx with h | h
    · exact hc.lt x h
    · exact groupL_in hg hk h
  · rcases List.mem_append.1 hx with h | h
    · exact List.mem_append_left _ (hc.cl x h y r)
    · have ⟨r1, r2⟩ := (mem_groupL hg hk).1 h
      rcases (ready_iff hg hk).1 h2 y (r1.trans r) with h | h
      · exact List.mem_append_left _ h
      · exact List.mem_append_right _ ((mem_groupL hg hk).2 ⟨r1.trans r, h⟩)
theorem nodup_next {done : List Int} (hc : Cl l done) (hn : done.Nodup) {k : Int} (hk : InR l k) (h1 : k ∉ done) : (done ++ groupL l k).Nodup := by
  rw [List.nodup_append]
  refine ⟨hn, (groupL_rising l k).imp fun h => by omega, fun a ha b hb e => ?_⟩
  subst e
  exact h1 (hc.cl a ha k ((mem_groupL hg hk).1 hb).2)
theorem groupsF_spec : ∀ (f : Nat) (done : List Int), Cl l done → done.Nodup → l.length ≤ f + done.length →
    (done ++ (groupsF l f done).flatten).Nodup ∧ (∀ x, InR l x ↔ x ∈ done ++ (groupsF l f done).flatten) ∧ ∀ i (hi : i < (groupsF l f done).length), ∃ k, InR l k ∧ (groupsF l f done)[i] = groupL l k ∧ ∀ x, Rch l k x → x ∈ done ++ ((groupsF l f done).take (i + 1)).flatten
  | 0, done, hc, hn, hf => by
    refine ⟨by simpa [groupsF] using hn, fun x => ?_, fun i hi => by simp [groupsF] at hi⟩
    simp only [groupsF, List.flatten_nil, List.append_nil]
    refine ⟨fun hx => ?_, hc.lt x⟩
    refine Classical.byContradiction fun hd => ?_
    have hnd : (x :: done).Nodup := List.nodup_cons.2 ⟨hd, hn⟩
    have := nodup_len (n := l.length) hnd fun y hy => by
      rcases List.mem_cons.1 hy with rfl | hy
      · exact hx
      · exact hc.lt y hy
    simp at this; omega
  | f + 1, done, hc, hn, hf => by
    cases h : nextK l done with
    | none =>
      simp only [groupsF, h, List.flatten_nil, List.append_nil]
      exact ⟨hn, fun x => ⟨fun hx => next_none hg h hx, hc.lt x⟩, fun i hi => by simp at hi⟩
    | some k =>
      obtain ⟨hk, h1, h2, _⟩ := next_some hg h
      have hne : 0 < (groupL l k).length := List.length_pos_of_mem (self_groupL hg hk)
      obtain ⟨p1, p2, p3⟩ := groupsF_spec f (done ++ groupL l k) (hc.next hg hk h2) (nodup_next hg hc hn hk h1) (by simp; omega)
      simp only [groupsF, h, List.flatten_cons]
      refine ⟨by rw [← List.append_assoc]; exact p1, fun x => by rw [← List.append_assoc]; exact p2 x, fun i hi => ?_⟩
      cases i with
      | zero =>
        refine ⟨k, hk, rfl, fun x r => ?_⟩
        rcases (ready_iff hg hk).1 h2 x r with h | h
        · exact List.mem_append_left _ h
        · simp; exact .inr ((mem_groupL hg hk).2 ⟨r, h⟩)
      | succ i =>
        obtain ⟨k', hk', e, q⟩ := p3 i (by simpa using hi)
        refine ⟨k', hk', by simpa using e, fun x r => ?_⟩
        have := q x r
        simpa [List.append_assoc] using this
end
end GL

namespace GL
open Go

theorem links1_eq {h : Heap} {b : Nat} {u : V} {l : List (List Int)} {F : List Nat} (hb : h[b]? = some ⟨.own, [u]⟩) (hu : SdF h u l F) {v : V} {xs : List Int} (hs : Sl h v xs) : call p 559 [v, .ptr b 0] h = some (.bool !risB 0 ((l.length : Int) - 1) xs, h) := by
  refine go_eq (fn := g559) rfl rfl fun R hR => ?_
  have hbd := hu.bd
  have w : IntKind.i64.wrap ((l.length : Int) - 1) = (l.length : Int) - 1 := by rw [IntWalk.i64_in] <;> omega
  simp [g559, rdH_at hb, hu.len, w, isRising_eq hs]; exact hR
theorem GoodLinks_ok {h : Heap} {v : V} {l : List (List Int)} {F : List Nat} (hs : SdF h v l F) : ∃ r h', call p 500 [v] h = some (r, h') ∧ r = .bool (linksB l) ∧ Keeps h h' ∧ h.length ≤ h'.length := by
  refine go (fn := g500) rfl rfl fun R hR => ?_
  have k0 : Keeps h (h ++ [⟨.own, [v]⟩]) := Keeps.append _ _
  have hb0 : (h ++ [⟨.own, [v]⟩])[h.length]? = some ⟨.own, [v]⟩ := get_last _ _
  have r0 : rdH (h ++ [⟨.own, [v]⟩]) h.length 0 1 = some [v] := by rw [rdH_at hb0 (by simp)]; rfl
  have e1 := containsL_eq (hs.keep k0) (f := 559) (capt := [.ptr h.length 0]) (q := fun xs => !risB 0 ((l.length : Int) - 1) xs) fun x xs G hx => links1_eq hb0 (hs.keep k0) hx.sl
  have ea : (l.any fun xs => !risB 0 ((l.length : Int) - 1) xs) = !(l.all fun xs => risB 0 ((l.length : Int) - 1) xs) := by rw [List.not_all_eq_any_not]
  rw [ea] at e1
  by_cases hl : l.length ≤ 12
  · have hl2 : (l.length : Int) ≤ 12 := by omega
    cases hall : (l.all fun xs => risB 0 ((l.length : Int) - 1) xs) <;>
    · rw [hall] at e1
      simp [g500, hs.cells, hs.cell, r0, hs.len, hl2, e1]
      exact hR _ _ ⟨by simp [linksB, hl, hall], k0, by simp⟩
  · have hl2 : ¬ (l.length : Int) ≤ 12 := by omega
    simp [g500, hs.cells, hs.cell, r0, hs.len, hl2]
    exact hR _ _ ⟨by simp [linksB, hl], k0, by simp⟩
theorem GoodLinksS_eq {h : Heap} {v : V} {l : List (List Int)} {F : List Nat} (hs : SdF h v l F) : call p 550 [v] h = some (.bool (linksB l), h) := by
  refine go_eq (fn := g550) rfl rfl fun R hR => ?_
  have hbd := hs.bd
  have w : IntKind.i64.wrap ((l.length : Int) - 1) = (l.length : Int) - 1 := by rw [IntWalk.i64_in] <;> omega
  simp [g550, hs.len]
  refine Wc_upM (M := [2, 4, 7, 8, 9, 10, 11, 12, 13, 14, 15, 16, 17]) rfl l.length (fun i s => s.σ 7 = .v (vi i) ∧ s.h = h ∧ ∀ xs ∈ l.take i, risB 0 ((l.length : Int) - 1) xs = true) 0 (by simp) fun i s ⟨g7, gh, hall⟩ hM J hJ => ?_
  by_cases hn : i < l.length
  · obtain ⟨x, F2, ex, hx, _⟩ := hs.loadL i hn
    have e1 := l1Rising_eq hx.sl 0 ((l.length : Int) - 1)
    cases hr : risB 0 ((l.length : Int) - 1) l[i] with
    | false =>
      rw [hr] at e1
      simp [g550_0, hM, g7, gh, hn, hs.idx, ex, hs.len, w, e1]
      have : linksB l = false := by
        have : (l.all fun xs => risB 0 ((l.length : Int) - 1) xs) = false := List.all_eq_false.2 ⟨_, List.getElem_mem hn, by simp [hr]⟩
        simp [linksB, this]
      rw [this] at hR; exact hR
    | true =>
      rw [hr] at e1
      simp [g550_0, hM, g7, gh, hn, hs.idx, ex, hs.len, w, e1, hs.step hn]
      exact hJ _ hn ⟨by simp, rfl, (all_take_succ hn).2 ⟨hall, hr⟩⟩
  · rw [List.take_of_length_le (by omega)] at hall
    have ha : (l.all fun xs => risB 0 ((l.length : Int) - 1) xs) = true := List.all_eq_true.2 hall
    by_cases hl : l.length ≤ 12
    · have hl2 : (l.length : Int) ≤ 12 := by omega
      simp [g550_0, hM, g7, gh, hn, hs.len, hl2]
      simpa [linksB, ha, hl] using hR
    · have hl2 : ¬ (l.length : Int) ≤ 12 := by omega
      simp [g550_0, hM, g7, gh, hn, hs.len, hl2]
      simpa [linksB, ha, hl] using hR

def nodeB (l : List (List Int)) (k : Int) : Bool := linksB l && decide (0 ≤ k ∧ k ≤ (l.length : Int) - 1)
theorem nodeB_facts {l : List (List Int)} {k : Int} (h : nodeB l k = true) : linksB l = true ∧ InR l k := by
  simp only [nodeB, Bool.and_eq_true, decide_eq_true_eq] at h
  exact ⟨h.1, h.2.1, by omega⟩
/-- what was read stands as it was -/
theorem stab1 {A B C : Type} {a : A} {b : B} {c : C} {P : A → B → C → Prop} : (∀ o as x, some (a, b, c) = some (o, as, x) → P o as x) ↔ P a b c := ⟨fun h => h _ _ _ rfl, fun h o as x e => by cases e; exact h⟩

theorem group_ok {h : Heap} {v : V} {l : List (List Int)} {F : List Nat} (hs : SdF h v l F) (hg : linksB l = true) (a : Int) (ha : InR l a) :
    ∃ r h', call p 560 [v, vi a] h = some (r, h') ∧ ∃ G, SdF h' r (groupL l a) G ∧ Fresh h.length h' G ∧ Keeps h h' ∧ h.length ≤ h'.length := by
  refine go (fn := g560) rfl rfl fun R hR => ?_
  have k1 : Keeps h (h ++ [⟨.own, [v]⟩, ⟨.own, [vi a]⟩]) := Keeps.append _ _
  have hb1 : (h ++ [⟨.own, [v]⟩, ⟨.own, [vi a]⟩])[h.length]? = some ⟨.own, [v]⟩ := by simp
  have hb2 : (h ++ [⟨.own, [v]⟩, ⟨.own, [vi a]⟩])[h.length + 1]? = some ⟨.own, [vi a]⟩ := by simp
  have r1 : rdH (h ++ [⟨.own, [v]⟩, ⟨.own, [vi a]⟩]) h.length 0 1 = some [v] := by rw [rdH_at hb1 (by simp)]; rfl
  have r2 : rdH (h ++ [⟨.own, [v]⟩, ⟨.own, [vi a]⟩]) (h.length + 1) 0 1 = some [vi a] := by rw [rdH_at hb2 (by simp)]; rfl
  obtain ⟨r, h2, e2, G, s2, f2, k2, l2⟩ := reach_ok (hs.keep k1) hg a ha
  simp at l2
  have hc1 := k2 _ _ hb1 (by simp)
  have hc2 := k2 _ _ hb2 (by simp)
  have f2' : ∀ b ∈ G, h.length + 2 ≤ b := fun b hb => by have := f2.ge b hb; simpa using this
  obtain ⟨r3, h3, e3, G3, s3, f3, k3, l3⟩ := deleteIg_ok s2 f2 (f := 576) (capt := [.ptr h.length 0, .ptr (h.length + 1) 0]) (q := fun b => !decide (a ∈ reachL l b)) fun h' hk hl n hn => by
    have d1 := hk _ _ (fun hm => by have := f2' _ hm; omega) hc1 (by simp)
    have d2 := hk _ _ (fun hm => by have := f2' _ hm; omega) hc2 (by simp)
    have kk : Keeps h h' := Keeps.far (n := h.length) (k1.trans k2) hk (Nat.le_refl _) fun i hi hm => by have := f2' i hm; omega
    have hn' : InR l n := ((mem_reachL hg ha).1 hn).lt hg ha
    obtain ⟨r4, h4, e4, G4, s4, f4, k4, l4⟩ := reach_ok (hs.keep kk) hg n hn'
    have : ∃ r h'', call p 576 [vi n, .ptr h.length 0, .ptr (h.length + 1) 0] h' = some (r, h'') ∧ r = .bool (!decide (a ∈ reachL l n)) ∧ h'' = h4 := by
      refine go (fn := g576) rfl rfl fun R hR => ?_
      have t1 : rdH h' h.length 0 1 = some [v] := by rw [rdH_at d1 (by simp)]; rfl
      have t2 : rdH h' (h.length + 1) 0 1 = some [vi a] := by rw [rdH_at d2 (by simp)]; rfl
      have t3 := rdH_keep k4 t2
      simp [g576, t1, t2, e4, stable, stab1, t3, containsI_eq s4.sl]
      exact hR _ _ ⟨rfl, rfl⟩
    obtain ⟨_, _, e, rfl, rfl⟩ := this
    exact ⟨_, e, k4, l4⟩
  have hf : (reachL l a).filter (fun n => !(!decide (a ∈ reachL l n))) = groupL l a := by unfold groupL; congr 1; funext n; simp
  rw [hf] at s3
  simp [g560, hs.cells, hs.cell, r1, r2, e2, e3]
  exact hR _ _ ⟨G3, s3, f3.mono (by simp), Keeps.far (n := h.length) (k1.trans k2) k3 (Nat.le_refl _) fun i hi hm => by have := f2' i hm; omega, by omega⟩
end GL

namespace GL
open Go

theorem hasAll_ok {h : Heap} {v w : V} {as bs : List Int} (hs : Sl h v as) (ht : Sl h w bs) : ∃ r h', call p 552 [v, w] h = some (r, h') ∧ r = .bool (bs.all fun n => decide (n ∈ as)) ∧ Keeps h h' ∧ h.length ≤ h'.length := by
  have k0 : Keeps h (h ++ [⟨.own, [v]⟩]) := Keeps.append _ _
  have hb0 : (h ++ [⟨.own, [v]⟩])[h.length]? = some ⟨.own, [v]⟩ := get_last _ _
  have r0 : rdH (h ++ [⟨.own, [v]⟩]) h.length 0 1 = some [v] := by rw [rdH_at hb0 (by simp)]; rfl
  have e1 := containsFh_eq (ht.keeps k0) 572 [.ptr h.length 0] (fun n => !decide (n ∈ as)) fun n => by
    refine go_eq (fn := g572) rfl rfl fun R hR => ?_
    simp [g572, r0, containsI_eq (hs.keeps k0)]; simpa using hR
  have ea : (bs.any fun n => !decide (n ∈ as)) = !(bs.all fun n => decide (n ∈ as)) := by rw [List.not_all_eq_any_not]
  rw [ea] at e1
  generalize (bs.all fun n => decide (n ∈ as)) = q at e1 ⊢
  refine go (fn := g552) rfl rfl fun R hR => ?_
  simp [g552, hs.cells, hs.cell, e1]
  exact hR _ _ ⟨rfl, k0, by simp⟩

theorem Out.mono {α : Type} [Flat α] {lo lo' : Nat} {h : Heap} {v : V} {xs : List α} (o : Out lo' h v xs) (hl : lo ≤ lo') : Out lo h v xs := by
  obtain ⟨h1, h2, ⟨rfl, rfl⟩ | ⟨b, rfl, hb, h3⟩ | ⟨b, rfl, rfl, h3, h4⟩⟩ := o
  · exact ⟨h1, by omega, .inl ⟨rfl, rfl⟩⟩
  · exact ⟨h1, by omega, .inr (.inl ⟨b, rfl, hb, by omega⟩)⟩
  · exact ⟨h1, by omega, .inr (.inr ⟨b, rfl, rfl, by omega, h4⟩)⟩

theorem l9Group_ok {h : Heap} {v : V} {l : List (List Int)} {F : List Nat} (hs : SdF h v l F) (hg : linksB l = true) (a : Int) (ha : InR l a) :
    ∃ r h', call p 562 [v, vi a] h = some (r, h') ∧ Out h.length h' r (groupL l a) ∧ Keeps h h' ∧ h.length ≤ h'.length := by
  obtain ⟨r, h1, e1, G, s1, k1, l1⟩ := l9Reach_ok hs hg a ha
  have hlen := reachL_len hg ha
  obtain ⟨g12, _⟩ := linksB_facts hg
  refine go (fn := g562) rfl rfl fun R hR => ?_
  simp [g562, e1, s1.len]
  refine Wc_upM (M := [5, 7, 12, 13, 14, 15, 16, 17, 18, 19, 20, 21, 22, 23, 24, 25]) rfl (reachL l a).length (fun i s => s.σ 12 = .v (vi i) ∧ ∃ v5, s.σ 5 = .v v5 ∧ Out h1.length s.h v5 (((reachL l a).take i).filter fun b => decide (a ∈ reachL l b)) ∧ Keeps h1 s.h ∧ h1.length ≤ s.h.length) 0
    ⟨by simp, .nils, by simp, by simpa using Out.nil (Nat.le_refl _), Keeps.refl _, Nat.le_refl _⟩ fun i s ⟨g12', v5, g5, ho, hk, hl⟩ hM J hJ => ?_
  by_cases hn : i < (reachL l a).length
  · have s1' := s1.keep hk
    have ht := List.take_succ_eq_append_getElem hn
    have hin : InR l (reachL l a)[i] := ((mem_reachL hg ha).1 (List.getElem_mem hn)).lt hg ha
    obtain ⟨r2, h2, e2, G2, s2, k2, l2⟩ := l9Reach_ok ((hs.keep k1).keep hk) hg _ hin
    have e3 := l1Has_eq s2.sl a
    have ho2 : Out h1.length h2 v5 _ := ho.keeps (k2.p fun _ => True) (fun _ _ => trivial) l2
    by_cases hm : a ∈ reachL l (reachL l a)[i]
    · rw [decide_eq_true hm] at e3
      have hle : (((reachL l a).take i).filter fun b => decide (a ∈ reachL l b)).length ≤ 2 ^ 20 := Nat.le_trans (List.length_filter_le ..) (by simp; omega)
      obtain ⟨v6, h3, e4, o3, k3, l3⟩ := ho2.one (reachL l a)[i] hle
      have s1'' := s1'.sl.loadI i hn
      have ij := s1'.idx 1 .i64 i hn
      simp only [Nat.mul_one] at ij
      simp [g562_0, hM, g12', g5, hn, ij, s1'', e2, e3, fillL, rdS_last, e4, s1.step hn]
      refine hJ _ hn ⟨by simp, v6, by simp, ?_, ho2.far (hk.trans k2) k3 (Nat.le_refl _), by show h1.length ≤ h3.length; omega⟩
      rw [ht, List.filter_append]; simpa [hm] using o3
    · rw [decide_eq_false hm] at e3
      have s1'' := s1'.sl.loadI i hn
      have ij := s1'.idx 1 .i64 i hn
      simp only [Nat.mul_one] at ij
      simp [g562_0, hM, g12', g5, hn, ij, s1'', e2, e3, s1.step hn]
      refine hJ _ hn ⟨by simp, v5, by simp [g5], ?_, hk.trans k2, by show h1.length ≤ h2.length; omega⟩
      rw [ht, List.filter_append]; simpa [hm] using ho2
  · rw [List.take_of_length_le (by omega)] at ho
    simp [g562_0, hM, g12', g5, hn]
    exact hR _ _ ⟨ho.mono l1, k1.trans hk, by omega⟩
/-- one of a list of lists of one's own is taken out, in place -/
theorem deleteL_ok {h : Heap} {b off n : Nat} {l : List (List Int)} {F : List Nat} (hs : SdF h (.slice b off n (.o 1)) l F) (hn : b ∉ F.tail) (ho : OwnB h b) {i : Nat} (hi : i < l.length) (hl : l.length ≤ 2 ^ 20) :
    ∃ r h', call p 575 [.slice b off n (.o 1), vi i, vi (i + 1 : Nat)] h = some (r, h') ∧ ∃ F', r = .slice b off (n - 1) (.o 1) ∧ SdF h' r (l.take i ++ l.drop (i + 1)) F' ∧ (∀ c ∈ F', c ∈ F) ∧ b ∉ F'.tail ∧ (F.Nodup → F'.Nodup) ∧ OwnB h' b ∧ KeepsP (fun c => c ≠ b) h h' ∧ h'.length = h.length := by
  have hs0 := hs
  obtain ⟨hbd, ⟨e, _⟩ | ⟨b', off', cap, e, hcap, hs⟩⟩ := hs
  · cases e
  injection e with e1 e2 e3 e4
  subst e1; subst e2; subst e4
  have hnl : n = l.length := by omega
  subst hnl
  rcases hs with ⟨rfl, _⟩ | ⟨blk, cs, G, rfl, hb, hlv, hc, hr⟩
  · simp at hi
  obtain ⟨ds, hd⟩ := ho
  rw [hd] at hb; cases hb
  have hbG : b ∉ G := by simpa using hn
  have hcl := hr.len
  rw [show l.length * Data.sz (List Int) = l.length from Nat.mul_one _] at hc hcl
  have hoff : off + l.length ≤ ds.length := by
    unfold cut at hc; split at hc
    · assumption
    · cases hc
  have hcs : (ds.drop off).take l.length = cs := by
    unfold cut at hc; rw [if_pos hoff] at hc; exact Option.some.inj hc
  obtain ⟨F1, F2, F3, hG, r2, r1, r3⟩ := hr.get i hi
  rw [show i * Data.sz (List Int) = i from Nat.mul_one _] at r1 r2
  rw [show (i + 1) * Data.sz (List Int) = i + 1 from Nat.mul_one _] at r3
  have hblt := get_lt hd
  obtain ⟨n, hn0⟩ : ∃ n, n = l.length := ⟨_, rfl⟩
  rw [← hn0] at hi hl hc hcl hoff hcs hbd ⊢
  -- what is laid
  have hdl : (cs.drop (i + 1)).length = n - (i + 1) := by simp; omega
  obtain ⟨ds', hds'⟩ : ∃ x, x = ds.take (off + i) ++ cs.drop (i + 1) ++ ds.drop (off + i + (n - (i + 1))) := ⟨_, rfl⟩
  have hl1 : ds'.length = ds.length := by rw [hds']; simp; omega
  have c13 : slcV 1 (.slice b off n (.o 1)) (some i) (some (i + 1)) (some n) = some (.slice b (if n = i then off else off + i * 1) (i + 1 - i) (.k (n - i))) := by
    simp only [slcV, Option.getD_some]; rw [if_pos ⟨by omega, by omega, Nat.le_refl _⟩]
  have c22 : slcV 1 (.slice b off n (.o 1)) none (some i) none = some (.slice b (off + 0 * 1) (i - 0) (.o 1)) := by
    simp only [slcV, Option.getD_some, Option.getD_none]; rw [if_pos ⟨trivial, by omega, by omega⟩]
  have c25 : slcV 1 (.slice b off n (.o 1)) (some (i + 1)) none none = some (.slice b (off + (i + 1) * 1) (n - (i + 1)) (.o 1)) := by
    simp only [slcV, Option.getD_some, Option.getD_none]; rw [if_pos ⟨trivial, by omega, by omega⟩]
  have hrd : rdS h 1 (.slice b (off + (i + 1) * 1) (n - (i + 1)) (.o 1)) (n - (i + 1)) = some (cs.drop (i + 1)) := by
    simp only [rdS, Nat.le_refl, if_true]
    split
    · rename_i h0
      rw [List.drop_of_length_le (by omega)]
    · simp only [rdH, hd, cut]
      rw [if_neg (by simp), if_pos (by omega), ← hcs, List.drop_take, List.drop_drop]
      simp
  obtain ⟨h1, e26, d1, k1, l1⟩ : ∃ h1, appH 1 24 (.slice b (off + 0 * 1) (i - 0) (.o 1)) (n - (i + 1)) (cs.drop (i + 1)) h = some (.slice b off (n - 1) (.o 1), h1) ∧ h1[b]? = some ⟨.own, ds'⟩ ∧ KeepsP (fun c => c ≠ b) h h1 ∧ h1.length = h.length := by
    by_cases h0 : n - (i + 1) = 0
    · refine ⟨h, ?_, ?_, KeepsP.refl _ _, rfl⟩
      · rw [h0]; simp [appH, lenV_s]; omega
      · rw [hd, hds', List.drop_of_length_le (by omega), h0]; simp
    · refine ⟨h.set b ⟨.own, ds'⟩, ?_, by simp [hblt], fun c blk hc hb2 _ => by rw [List.getElem?_set_ne (Ne.symm hc)]; exact hb2, by simp⟩
      simp only [appH, hd]
      rw [if_neg h0, if_pos ⟨trivial, trivial, by decide⟩, if_pos (by omega), wrH_at hd rfl]
      have : lay ds (off + 0 * 1 + (i - 0) * 1) (cs.drop (i + 1)) = some ds' := by
        unfold lay; rw [if_pos (by omega), hdl, hds']; simp
      rw [this]
      simp only [Option.bind_some, Option.some.injEq, Prod.mk.injEq, V.slice.injEq, and_true, true_and]
      omega
  have e31 : rop (.sliceX 1) [.v (.slice b off (n - 1) (.o 1)), .v (.int .i64 ((n - 1 : Nat) : Int)), .v (.int .i64 (n : Int))] h1 = some (.slice b (off + (n - 1) * 1) (n - (n - 1)) (.o 1)) := by
    simp only [rop, natV_i, d1]
    rw [if_pos (by omega), if_pos (by omega)]
    simp only [Option.bind_some, Int.toNat_natCast]
    rw [if_pos ⟨trivial, by omega, trivial, by decide, by omega⟩]
  obtain ⟨ds2, hds2⟩ : ∃ x, x = ds'.take (off + (n - 1)) ++ [V.nils] ++ ds'.drop (off + (n - 1) + 1) := ⟨_, rfl⟩
  have h1lt : b < h1.length := by omega
  have e32 : eop (call p) (.clear 1 [.nils]) [.v (.slice b (off + (n - 1) * 1) (n - (n - 1)) (.o 1))] h1 = some (.tup [], h1.set b ⟨.own, ds2⟩) := by
    rw [eop_clear, if_neg (by omega), show n - (n - 1) = 1 by omega]
    simp only [List.replicate, List.flatten_cons, List.flatten_nil, List.append_nil]
    rw [wrH_at d1 rfl]
    have : lay ds' (off + (n - 1) * 1) [V.nils] = some ds2 := by
      unfold lay; rw [if_pos (by simp; omega), hds2]; simp
    rw [this]; rfl
  have hl2 : ds2.length = ds.length := by rw [hds2]; simp; omega
  have htk : ds2.take (off + (n - 1)) = ds.take (off + i) ++ cs.drop (i + 1) := by
    rw [hds2, List.append_assoc, List.take_append_of_le_length (by simp; omega), List.take_take, Nat.min_self, hds', List.take_append_of_le_length (by simp; omega), List.take_of_length_le (by simp; omega)]
  have hcut : cut ds2 off (n - 1) = some (cs.take i ++ cs.drop (i + 1)) := by
    unfold cut
    rw [if_pos (by omega)]
    have e : (ds2.drop off).take (n - 1) = (ds2.take (off + (n - 1))).drop off := by
      rw [List.drop_take]; congr 1; omega
    rw [e, htk, List.drop_append_of_le_length (by simp; omega), List.drop_take, ← hcs, List.take_take]
    congr 3; omega
  have kk : KeepsP (fun c => c ≠ b) h (h1.set b ⟨.own, ds2⟩) := k1.trans fun c blk hc hb2 _ => by rw [List.getElem?_set_ne (Ne.symm hc)]; exact hb2
  simp only [Nat.zero_mul, Nat.add_zero, Nat.sub_zero, Nat.mul_one] at c13 c22 c25 hrd e26 e31 e32
  have w1 : ¬ (i : Int) = ((i + 1 : Nat) : Int) := by omega
  refine go (fn := g575) rfl rfl fun R hR => ?_
  simp [g575, bounds, takeB, c13, c22, c25, w1, hrd, e26, e31, e32, -Int.natCast_add]
  have hsub : ∀ c ∈ F1 ++ F3, c ∈ G := fun c hc => by rw [hG]; simp at hc ⊢; rcases hc with h | h <;> simp [h]
  have hkG : KeepsP (fun c => c ∈ F1 ++ F3) h (h1.set b ⟨.own, ds2⟩) := kk.mono fun c hc e => hbG (by rw [← e]; exact hsub c hc)
  refine hR _ _ ⟨b :: (F1 ++ F3), rfl, ⟨by simp; omega, .inr ⟨b, off, .o 1, by simp; omega, rfl, .inr ⟨⟨.own, ds2⟩, cs.take i ++ cs.drop (i + 1), F1 ++ F3, rfl, by simp [h1lt], by simp, ?_, (r1.append r3).keeps hkG⟩⟩⟩, fun c hc => ?_, ?_, fun hnd => ?_, ⟨ds2, by simp [h1lt]⟩, kk, by simp; omega⟩
  · rw [show (l.take i ++ l.drop (i + 1)).length * Data.sz (List Int) = n - 1 by rw [show Data.sz (List Int) = 1 from rfl]; simp; omega]
    exact hcut
  · rcases List.mem_cons.1 hc with rfl | h
    · simp
    · exact List.mem_cons_of_mem _ (hsub c h)
  · simpa using fun h => hbG (hsub b h)
  · rw [List.nodup_cons] at hnd ⊢
    refine ⟨fun h => hbG (hsub b h), ?_⟩
    rw [hG, List.append_assoc, List.nodup_append] at hnd
    have h2 := List.nodup_append.1 hnd.2.2.1
    rw [List.nodup_append]
    exact ⟨hnd.2.1, h2.2.1, fun a ha b hb => hnd.2.2.2 a ha b (List.mem_append_right _ hb)⟩
end GL

namespace GL
open Go

noncomputable def reps (l : List (List Int)) : List Int := (nodes l).filter fun k => decide ((groupL l k)[0]? = some k)
noncomputable def leftK (l : List (List Int)) (done : List Int) : List Int := (reps l).filter fun k => decide (k ∉ done)
noncomputable def leftL (l : List (List Int)) (done : List Int) : List (List Int) := (leftK l done).map (groupL l)
noncomputable def ownQ (l : List (List Int)) (done : List Int) (own : List Int) : Bool := match own with
  | [] => false
  | a :: _ => (reachL l a).all fun n => decide (n ∈ done ++ own)
theorem rising_head {xs : List Int} (hr : xs.Pairwise (· < ·)) {k : Int} (hk : k ∈ xs) : xs[0]? = some k ↔ ∀ b ∈ xs, k ≤ b := by
  cases xs with
  | nil => cases hk
  | cons a r =>
    rw [List.pairwise_cons] at hr
    simp only [List.getElem?_cons_zero, Option.some.injEq]
    constructor
    · rintro rfl b hb
      rcases List.mem_cons.1 hb with rfl | hb
      · exact Int.le_refl _
      · exact Int.le_of_lt (hr.1 b hb)
    · intro h
      have h1 := h a (by simp)
      rcases List.mem_cons.1 hk with h2 | h2
      · exact h2.symm
      · have := hr.1 k h2; omega
theorem leftK_rising (l : List (List Int)) (done : List Int) : (leftK l done).Pairwise (· < ·) := ((nodes_rising l).filter _).filter _
section
variable {l : List (List Int)} (hg : linksB l = true)
include hg
theorem mem_leftK {done : List Int} {k : Int} : k ∈ leftK l done ↔ InR l k ∧ k ∉ done ∧ ∀ b ∈ groupL l k, k ≤ b := by
  simp only [leftK, reps, List.mem_filter, mem_nodes, decide_eq_true_eq]
  constructor
  · rintro ⟨⟨h1, h2⟩, h3⟩
    exact ⟨h1, h3, (rising_head (groupL_rising l k) (self_groupL hg h1)).1 h2⟩
  · rintro ⟨h1, h2, h3⟩
    exact ⟨⟨h1, (rising_head (groupL_rising l k) (self_groupL hg h1)).2 h3⟩, h2⟩
theorem ownQ_eq {done : List Int} {k : Int} (hk : k ∈ leftK l done) : ownQ l done (groupL l k) = true ↔ readyB l done k := by
  obtain ⟨h1, h2, h3⟩ := (mem_leftK hg).1 hk
  have h4 := (rising_head (groupL_rising l k) (self_groupL hg h1)).2 h3
  unfold readyB
  cases he : groupL l k with
  | nil => rw [he] at h4; simp at h4
  | cons a r =>
    rw [he] at h4; simp at h4; subst h4
    simp only [ownQ, List.all_eq_true, decide_eq_true_eq, List.mem_append]
theorem left_next {done : List Int} (hc : Cl l done) {k : Int} (h : nextK l done = some k) : k ∈ leftK l done := by
  obtain ⟨h1, h2, _, _⟩ := next_some hg h
  exact (mem_leftK hg).2 ⟨h1, h2, next_rep hg hc h⟩
theorem left_first {done : List Int} (hc : Cl l done) {kk : Int} (hf : FirstP (ownQ l done) (leftL l done) kk) (hne : leftL l done ≠ []) :
    ∃ (i : Nat) (k : Int) (hi : i < (leftL l done).length), kk = i ∧ nextK l done = some k ∧ (leftL l done)[i] = groupL l k ∧ (leftL l done).take i ++ (leftL l done).drop (i + 1) = leftL l (done ++ groupL l k) := by
  have hks := leftK_rising l done
  have hex : ∃ k, nextK l done = some k := by
    cases hn : nextK l done with
    | some k => exact ⟨k, rfl⟩
    | none =>
      obtain ⟨g, hg'⟩ := List.exists_mem_of_ne_nil _ hne
      obtain ⟨k, hk, _⟩ := List.mem_map.1 hg'
      obtain ⟨h1, h2, _⟩ := (mem_leftK hg).1 hk
      exact absurd (next_none hg hn h1) h2
  obtain ⟨k, hn⟩ := hex
  obtain ⟨q1, q2, q3, q4⟩ := next_some hg hn
  have hk := left_next hg hc hn
  obtain ⟨j, hj, hjk⟩ := List.getElem_of_mem hk
  have hlen : (leftL l done).length = (leftK l done).length := by simp [leftL]
  rcases hf with ⟨_, hall⟩ | ⟨i, hi, rfl, hq, hall⟩
  · have := hall (groupL l k) (List.mem_map.2 ⟨k, hk, rfl⟩)
    rw [(ownQ_eq hg hk).2 q3] at this; cases this
  · have hi' : i < (leftK l done).length := by omega
    have hgi : (leftL l done)[i] = groupL l (leftK l done)[i] := by simp [leftL]
    have hmi := List.getElem_mem hi'
    obtain ⟨m1, m2, m3⟩ := (mem_leftK hg).1 hmi
    rw [hgi] at hq
    have hle := q4 _ m1 m2 ((ownQ_eq hg hmi).1 hq)
    have hij : i ≤ j := by
      rcases Nat.lt_or_ge j i with h | h
      · have : groupL l k ∈ (leftL l done).take i := by
          rw [leftL, ← List.map_take]
          exact List.mem_map.2 ⟨k, by rw [← hjk]; exact List.mem_take_iff_getElem.2 ⟨j, by omega, rfl⟩, rfl⟩
        have := hall _ this
        rw [(ownQ_eq hg hk).2 q3] at this; cases this
      · exact h
    have hik : (leftK l done)[i] = k := by
      rcases Nat.lt_or_eq_of_le hij with h | h
      · have := List.pairwise_iff_getElem.1 hks i j hi' hj h
        omega
      · subst h; exact hjk
    refine ⟨i, k, hi, rfl, hn, by rw [hgi, hik], ?_⟩
    have e : leftK l (done ++ groupL l k) = (leftK l done).take i ++ (leftK l done).drop (i + 1) := by
      have e1 : leftK l (done ++ groupL l k) = (leftK l done).filter fun x => decide (x ∉ groupL l k) := by
        simp only [leftK, List.filter_filter]
        congr 1; funext x; simp [Bool.and_comm]
      have hsplit : leftK l done = (leftK l done).take i ++ k :: (leftK l done).drop (i + 1) := by
        rw [← hik, ← List.drop_eq_getElem_cons hi', List.take_append_drop]
      have hkg : k ∈ groupL l k := self_groupL hg q1
      have keep : ∀ x ∈ leftK l done, x ≠ k → x ∉ groupL l k := fun x hx hne hxg => by
        obtain ⟨a1, _, a3⟩ := (mem_leftK hg).1 hx
        obtain ⟨b1, _, b3⟩ := (mem_leftK hg).1 hk
        have := groupL_eq hg q1 hxg
        have := a3 k (by rw [this]; exact hkg)
        have := b3 x hxg
        omega
      rw [e1]
      conv => lhs; rw [hsplit]
      rw [List.filter_append, List.filter_cons, if_neg (by simpa using hkg)]
      have hp := hks
      rw [hsplit, List.pairwise_append, List.pairwise_cons] at hp
      congr 1
      · exact List.filter_eq_self.2 fun x hx => by simpa using keep x (List.mem_of_mem_take hx) (by have := hp.2.2 x hx k (by simp); omega)
      · exact List.filter_eq_self.2 fun x hx => by simpa using keep x (List.mem_of_mem_drop hx) (by have := hp.2.1.1 x hx; omega)
    rw [leftL, ← List.map_take, ← List.map_drop, ← List.map_append, ← e]; rfl
theorem left_end {done : List Int} (hc : Cl l done) (h : leftL l done = []) (f : Nat) : groupsF l f done = [] := by
  cases f with
  | zero => rfl
  | succ f =>
    cases hn : nextK l done with
    | none => simp [groupsF, hn]
    | some k =>
      have := left_next hg hc hn
      simp only [leftL, List.map_eq_nil_iff] at h
      rw [h] at this; cases this
end

/-- the question that 'groups' asks of each group left -/
theorem groups1_ok {h : Heap} {b1 b2 : Nat} {v w x : V} {l : List (List Int)} {F Ft Gx : List Nat} {done own : List Int} (hb1 : h[b1]? = some ⟨.own, [w]⟩) (hb2 : h[b2]? = some ⟨.own, [v]⟩) (hs : SdF h v l F) (hg : linksB l = true) (ht : SdF h w done Ft) (hx : SdF h x own Gx)
    {a : Int} {r : List Int} (ho : own = a :: r) (ha : InR l a) (hl : done.length + own.length ≤ 2 ^ 20) : ∃ h', call p 574 [x, .ptr b1 0, .ptr b2 0] h = some (.bool (ownQ l done own), h') ∧ Keeps h h' ∧ h.length ≤ h'.length := by
  have r1 : rdH h b1 0 1 = some [w] := by rw [rdH_at hb1 (by simp)]; rfl
  have r2 : rdH h b2 0 1 = some [v] := by rw [rdH_at hb2 (by simp)]; rfl
  have hp : 0 < own.length := by rw [ho]; simp
  have i0 := hx.sl.idx 1 .i64 0 hp
  have e0 := hx.sl.loadI 0 hp
  have h00 : own[0] = a := by simp [ho]
  rw [h00] at e0
  simp at i0 e0
  have kl := Keeps.append h [⟨.own, [w, x]⟩]
  have hr : Reps h [done, own] [w, x] (Ft ++ Gx) := by
    have a : Reps h [done] [w] Ft := .one (show Data.rep h done [w] Ft from ⟨w, rfl, ht⟩)
    have b : Reps h [own] [x] Gx := .one (show Data.rep h own [x] Gx from ⟨x, rfl, hx⟩)
    exact a.append b
  have hls := SdF.lit hr 2 rfl (by simp)
  have hfl : [done, own].flatten = done ++ own := by simp
  obtain ⟨o, h1, e1, G1, s1, f1, k1, l1⟩ := concat_ok hls (by rw [hfl]; simp; omega)
  rw [hfl] at s1
  have k01 := kl.trans k1
  obtain ⟨o2, h2, e2, G2, s2, f2, k2, l2⟩ := reach_ok (hs.keep k01) hg a ha
  obtain ⟨_, h3, e3, rfl, k3, l3⟩ := hasAll_ok (s1.keep k2).sl s2.sl
  have q0 : ownQ l done own = (reachL l a).all fun n => decide (n ∈ done ++ own) := by rw [ho]; rfl
  rw [q0]
  generalize (reachL l a).all (fun n => decide (n ∈ done ++ own)) = q at e3 ⊢
  have : ∃ r h'', call p 574 [x, .ptr b1 0, .ptr b2 0] h = some (r, h'') ∧ r = .bool q ∧ h'' = h3 := by
    refine go (fn := g574) rfl rfl fun R hR => ?_
    have t2 := rdH_keep k01 r2
    have t0 := rdH_keep k01 e0
    have t2' := rdH_keep kl r2
    have t0' := rdH_keep kl e0
    simp [g574, r1, r2, i0, e0, ht.cells, ht.cell, hx.cells, hx.cell, fillL, e1, e2, e3, stable, t2, t0, t2', t0']
    exact hR _ _ ⟨rfl, rfl⟩
  obtain ⟨_, _, e, rfl, rfl⟩ := this
  simp at l1
  exact ⟨_, e, (k01.trans k2).trans k3, by omega⟩
end GL

namespace GL
open Go

theorem OdF.keep {α : Type} [Data α] {lo : Nat} {h h' : Heap} {v : V} {xs : List α} {G : List Nat} (o : OdF lo h v xs G) (hk : Keeps h h') (hl : h.length ≤ h'.length) : OdF lo h' v xs G :=
  ⟨o.1.keeps (hk.p fun _ => True) (fun _ _ => trivial) (fun _ _ => trivial) hl, o.2.keeps (hk.p _)⟩

/-- the groups of the first nodes that are the least of theirs -/
noncomputable def leftN (l : List (List Int)) (i : Nat) : List (List Int) := ((((List.range i).map fun (j : Nat) => (j : Int)).filter fun k => decide ((groupL l k)[0]? = some k))).map (groupL l)
theorem leftN_succ (l : List (List Int)) (i : Nat) : leftN l (i + 1) = if (groupL l (i : Int))[0]? = some (i : Int) then leftN l i ++ [groupL l (i : Int)] else leftN l i := by
  simp only [leftN, List.range_succ, List.map_append, List.filter_append, List.map_cons, List.map_nil]
  split
  · rename_i h; simp [List.filter_cons, h]
  · rename_i h; simp [List.filter_cons, h]
theorem leftN_len (l : List (List Int)) (i : Nat) : (leftN l i).length ≤ i := by
  simp only [leftN, List.length_map]
  exact Nat.le_trans (List.length_filter_le ..) (by simp)
theorem leftN_all (l : List (List Int)) : leftN l l.length = leftL l [] := by
  simp [leftN, leftL, leftK, reps, nodes]

theorem groups_fst {v : V} {l : List (List Int)} {F : List Nat} {h : Heap} (hs : SdF h v l F) (hg : linksB l = true) (s0 : S) (K : Ex → S → Prop) (g1 : s0.σ 1 = .v (.ptr h.length 0)) (g3 : s0.σ 3 = .v (.slice (h.length + 1) 0 0 (.k 0))) (g11 : s0.σ 11 = .v (vi l.length)) (g12 : s0.σ 12 = .v (vi 0))
    (gh : s0.h = h ++ [(⟨.own, [v]⟩ : Blk), ⟨.own, []⟩])
    (hK : ∀ s v3 G3, (∀ k, k ∉ [3, 4, 5, 12, 13, 14, 15, 16, 17, 18, 19, 20, 21, 22, 23, 24, 25, 26, 27] → s.σ k = s0.σ k) → s.σ 3 = .v v3 → OdF (h.length + 1) s.h v3 (leftL l []) G3 → Keeps (h ++ [(⟨.own, [v]⟩ : Blk)]) s.h → h.length + 1 ≤ s.h.length → K (.exit 0) s) : Wc p (.loop g557_0) s0 K := by
  obtain ⟨l12, _⟩ := linksB_facts hg
  refine Wc_upM (M := [3, 4, 5, 12, 13, 14, 15, 16, 17, 18, 19, 20, 21, 22, 23, 24, 25, 26, 27]) rfl l.length (fun i s => i ≤ l.length ∧ s.σ 12 = .v (vi i) ∧ (∃ v3 G3, s.σ 3 = .v v3 ∧ OdF (h.length + 1) s.h v3 (leftN l i) G3) ∧ Keeps (h ++ [(⟨.own, [v]⟩ : Blk)]) s.h ∧ h.length + 1 ≤ s.h.length) 0
    ⟨by omega, g12, ⟨_, [], g3, by rw [gh]; exact OdF.empty (Nat.le_refl _) (by simp)⟩, by
      rw [gh]; have := Keeps.append (h ++ [(⟨.own, [v]⟩ : Blk)]) [⟨.own, []⟩]; simpa using this, by rw [gh]; simp⟩ fun i s ⟨gi, g12, ⟨v3, G3, g3, ho⟩, hk, hl⟩ hM J hJ => ?_
  have hkh : Keeps h s.h := (Keeps.append h [(⟨.own, [v]⟩ : Blk)]).trans hk
  by_cases hn : i < l.length
  · have hb1 : s.h[h.length]? = some ⟨.own, [v]⟩ := hk _ _ (get_last _ _) (by simp)
    have r1 : rdH s.h h.length 0 1 = some [v] := by rw [rdH_at hb1 (by simp)]; rfl
    have hin : InR l (i : Int) := ⟨by omega, by omega⟩
    obtain ⟨r, h2, e2, G, s2, f2, k2, l2⟩ := group_ok (hs.keep hkh) hg (i : Int) hin
    have hp : 0 < (groupL l (i : Int)).length := List.length_pos_of_mem (self_groupL hg hin)
    have i0 := s2.sl.idx 1 .i64 0 hp
    have e0 := s2.sl.loadI 0 hp
    simp at i0 e0
    have hlen := leftN_len l i
    have w1 : IntKind.i64.wrap ((i : Int) + 1) = (i + 1 : Nat) := by rw [IntWalk.i64_in] <;> omega
    have ix : (groupL l (i : Int))[0]? = some (groupL l (i : Int))[0] := List.getElem?_eq_getElem hp
    by_cases he : (groupL l (i : Int))[0] = (i : Int)
    · obtain ⟨v4, h3, e3, o3, kk3, l3⟩ := ho.one k2 l2 f2 (x := groupL l (i : Int)) (cs := [r]) ⟨r, rfl, s2⟩ (by omega) (k := 1) rfl (bytes := 24) (by decide)
      simp [g557_0, hM, g12, g11, g1, g3, hn, r1, e2, i0, e0, he, s2.cells, s2.cell, fillL, rdS_last, e3, w1, -Int.natCast_add]
      refine hJ _ hn ⟨hn, by simp, ⟨v4, G3 ++ G, by simp, ?_⟩, kk3 _ hk (by simp), by show h.length + 1 ≤ h3.length; omega⟩
      rw [leftN_succ, if_pos (by rw [ix, he])]; exact o3
    · simp [g557_0, hM, g12, g11, g1, g3, hn, r1, e2, i0, e0, he, w1, -Int.natCast_add]
      refine hJ _ hn ⟨hn, by simp, ⟨v3, G3, by simp [g3], ?_⟩, hk.trans k2, by show h.length + 1 ≤ h2.length; omega⟩
      rw [leftN_succ, if_neg (by rw [ix]; simpa using he)]; exact ho.keep k2 l2
  · have : i = l.length := by omega
    subst this
    rw [leftN_all] at ho
    simp [g557_0, hM, g12, g11]
    exact hK _ v3 G3 (fun k hk => by simp only [List.mem_cons, not_or] at hk; simp [hk, hM]) (by simp [g3]) ho hk hl
end GL

namespace GL
open Go

theorem leftL_mem {l : List (List Int)} (hg : linksB l = true) {done own : List Int} (h : own ∈ leftL l done) : ∃ a r, own = a :: r ∧ InR l a ∧ own = groupL l a := by
  obtain ⟨k, hk, rfl⟩ := List.mem_map.1 h
  obtain ⟨h1, h2, h3⟩ := (mem_leftK hg).1 hk
  have h4 := (rising_head (groupL_rising l k) (self_groupL hg h1)).2 h3
  cases he : groupL l k with
  | nil => rw [he] at h4; simp at h4
  | cons a r => rw [he] at h4; simp at h4; subst h4; exact ⟨a, r, rfl, h1, he.symm⟩
theorem leftL_len {l : List (List Int)} (hg : linksB l = true) (done : List Int) : (leftL l done).length ≤ l.length := by
  rw [leftL, List.length_map]
  exact rising_len (leftK_rising l done) fun x hx => ((mem_leftK hg).1 hx).1

theorem groups_snd {v : V} {l : List (List Int)} {F : List Nat} {h H1 : Heap} (hs : SdF h v l F) (hg : linksB l = true) (s0 : S) (K : Ex → S → Prop) {v3 : V} {G3 : List Nat} (g1 : s0.σ 1 = .v (.ptr h.length 0)) (g3 : s0.σ 3 = .v v3) (g6 : s0.σ 6 = .v (.slice H1.length 0 0 (.k 0))) (g7 : s0.σ 7 = .v (.ptr (H1.length + 2) 0))
    (ho : OdF (h.length + 1) H1 v3 (leftL l []) G3) (hk1 : Keeps (h ++ [(⟨.own, [v]⟩ : Blk)]) H1) (hl1 : h.length + 1 ≤ H1.length)
    (gh : s0.h = H1 ++ [(⟨.own, []⟩ : Blk), ⟨.own, []⟩, ⟨.own, [.slice (H1.length + 1) 0 0 (.k 0)]⟩])
    (hK : ∀ s v6 G, s.σ 6 = .v v6 → SdF s.h v6 (groupsL l) G → Keeps h s.h → h.length ≤ s.h.length → K (.exit 2) s) : Wc p (.loop g557_1) s0 K := by
  obtain ⟨l12, _⟩ := linksB_facts hg
  obtain ⟨F0, hsd0, hF0⟩ := ho.1.sd
  have hfr := ho.2
  -- where the list of what is left lies
  have form : leftL l [] = [] ∨ ∃ bl, v3 = .slice bl 0 (leftL l []).length (.o 1) ∧ OwnB H1 bl ∧ F0 = bl :: G3 ∧ bl ∉ G3 ∧ h.length + 1 ≤ bl := by
    obtain ⟨_, _, ⟨_, e, _⟩ | ⟨b, cs, e, hb, h3, hr, hn⟩ | ⟨b, _, e, _⟩⟩ := ho.1
    · exact .inl e
    · rcases hF0 with rfl | ⟨rfl, _⟩
      · by_cases h0 : leftL l [] = []
        · exact .inl h0
        · have := hsd0.bIn (List.length_pos_iff.2 h0)
          rw [e] at this; exact absurd this hn
      · refine .inr ⟨b, e, ⟨cs, hb⟩, by rw [e]; rfl, hn, h3⟩
    · exact .inl e
  obtain ⟨bl, hbl⟩ : ∃ bl, bl = bOf v3 := ⟨_, rfl⟩
  have hGlt : ∀ b ∈ G3, b < H1.length := fun b hb => (hfr.own b hb).lt
  refine Wc_dnM (M := [3, 6, 8, 30, 31, 32, 33, 34, 35, 36, 37, 38, 39, 40, 41, 42, 43, 44, 45, 46, 47, 48, 49, 50, 51, 52, 53]) rfl
    (fun m s => ∃ (done : List Int) (outs : List (List Int)) (v3 v6 vt : V) (FL GO : List Nat) (f : Nat), s.σ 3 = .v v3 ∧ s.σ 6 = .v v6 ∧ s.h[H1.length + 2]? = some ⟨.own, [vt]⟩ ∧ Out H1.length s.h vt done ∧ Od H1.length s.h v6 outs GO ∧
      (∀ b, vB v6 b → ¬ vB vt b ∧ b ≠ H1.length + 2) ∧ (∀ b, vB vt b → b ≠ H1.length + 2) ∧ (∀ b ∈ GO, b ∈ G3) ∧
      (leftL l done = [] ∨ (∃ off n, v3 = .slice bl off n (.o 1) ∧ SdF s.h v3 (leftL l done) FL ∧ OwnB s.h bl ∧ bl ∉ FL.tail ∧ (∀ b ∈ FL, b = bl ∨ b ∈ G3) ∧ bl ∉ G3 ∧ h.length + 1 ≤ bl ∧ bl < H1.length)) ∧ lenV v3 = some (leftL l done).length ∧
      KeepsP (fun b => b < H1.length ∧ (b = bl → bl < h.length + 1)) H1 s.h ∧ H1.length + 3 ≤ s.h.length ∧ l.length ≤ f + done.length ∧
      groupsL l = outs ++ groupsF l f done ∧ Cl l done ∧ done.Nodup ∧ outs.length + (leftL l done).length ≤ 100 ∧ m = (leftL l done).length) (leftL l []).length
    ⟨[], [], v3, .slice H1.length 0 0 (.k 0), .slice (H1.length + 1) 0 0 (.k 0), F0, [], l.length, g3, g6, by rw [gh]; simp, by rw [gh]; exact Out.empty (by omega) (by simp), by rw [gh]; exact Od.empty (Nat.le_refl _) (by simp), ?_, ?_, by simp, ?_, by rw [hsd0.len], by rw [gh]; exact (Keeps.append H1 _).p _, by rw [gh]; simp, by simp, by simp [groupsL], Cl.nil l, List.nodup_nil, by have := leftL_len hg []; simp; omega, rfl⟩ fun m s ⟨done, outs, v3, v6, vt, FL, GO, f, g3, g6, ht, hto, hoo, sp1, sp2, hGO, hleft, hlen, hk, hln, hfl, hgl, hcl, hnd, hcnt, hm⟩ hM J hJ => ?_
  · rintro b ⟨_, _, _, e⟩; injection e with e1; subst e1
    exact ⟨fun ⟨_, _, _, e⟩ => by injection e with e1; omega, by omega⟩
  · rintro b ⟨_, _, _, e⟩; injection e with e1; omega
  · rcases form with e | ⟨b, e, hb, hF, hnb, hge⟩
    · exact .inl e
    · have : bl = b := by rw [hbl, e]; rfl
      subst this
      have kk := Keeps.append H1 [(⟨.own, []⟩ : Blk), ⟨.own, []⟩, ⟨.own, [.slice (H1.length + 1) 0 0 (.k 0)]⟩]
      refine .inr ⟨0, _, e, by rw [gh]; exact hsd0.keep kk, by rw [gh]; exact hb.keep kk, by rw [hF]; exact hnb, fun b hb => ?_, hnb, hge, hb.lt⟩
      rw [hF] at hb
      exact List.mem_cons.1 hb
  have hk1h : Keeps h H1 := (Keeps.append h [(⟨.own, [v]⟩ : Blk)]).trans hk1
  have hkh : Keeps h s.h := Keeps.far (n := h.length) hk1h hk (Nat.le_refl _) fun b hb => ⟨by omega, fun e => by omega⟩
  by_cases he : leftL l done = []
  · have hfin : groupsL l = outs := by rw [hgl, left_end hg hcl he f, List.append_nil]
    obtain ⟨F', hF', _⟩ := hoo.sd
    rw [he] at hlen
    simp [g557_1, hM, g3, hlen]
    exact hK _ v6 F' (by simp [g6]) (by rw [hfin]; exact hF') hkh (by show h.length ≤ s.h.length; omega)
  · rcases hleft with h0 | ⟨off, n, rfl, hsd, hown, hnt, hFL, hbG, hge, hblt⟩
    · exact absurd h0 he
    have hb1 : s.h[h.length]? = some ⟨.own, [v]⟩ := hk _ _ ⟨by omega, by omega⟩ (hk1 _ _ (get_last _ _) (by simp)) (by simp)
    obtain ⟨Ft, hst, frt⟩ := hto.fr
    have hdl : done.length ≤ l.length := nodup_len hnd hcl.lt
    obtain ⟨_, h2, e2, kk, rfl, hfirst, k2, l2⟩ := indexLg_ok hsd (f := 574) (capt := [.ptr (H1.length + 2) 0, .ptr h.length 0]) (q := ownQ l done) fun h' hk' => fun x own G hmem hx => by
      obtain ⟨a, r, e, ha, e'⟩ := leftL_mem hg hmem
      exact groups1_ok (hk' _ _ ht (by simp)) (hk' _ _ hb1 (by simp)) (hs.keep (hkh.trans hk')) hg (hst.keep hk') hx e ha (by have := groupL_len hg ha; rw [e']; omega)
    obtain ⟨i, k, hi, rfl, hnext, hgi, herase⟩ := left_first hg hcl hfirst he
    obtain ⟨hkin, hknd, hkr, _⟩ := next_some hg hnext
    cases f with
    | zero =>
      exfalso
      have hnd2 : (k :: done).Nodup := List.nodup_cons.2 ⟨hknd, hnd⟩
      have := nodup_len (n := l.length) hnd2 fun y hy => by
        rcases List.mem_cons.1 hy with rfl | hy
        · exact hkin
        · exact hcl.lt y hy
      simp at this hfl; omega
    | succ f =>
    have hgl2 : groupsL l = (outs ++ [groupL l k]) ++ groupsF l f (done ++ groupL l k) := by
      rw [hgl]; simp [groupsF, hnext]
    have hkg : 0 < (groupL l k).length := List.length_pos_of_mem (self_groupL hg hkin)
    have hkl := groupL_len hg hkin
    -- the group, where it lies
    have hsd2 := hsd.keep k2
    obtain ⟨cs, F1, Gx, F3, ex, ⟨x, rfl, hx⟩, hFe⟩ := hsd2.load i hi
    rw [show i * Data.sz (List Int) = i from Nat.mul_one i] at ex
    change rdH _ _ _ 1 = _ at ex
    rw [hgi] at hx
    have hGx : ∀ b ∈ Gx, b ∈ G3 := fun b hb => by
      have h1 : b ∈ FL := by rw [hFe]; simp [hb]
      rcases hFL b h1 with rfl | h
      · exact absurd (by rw [hFe]; simp [hb]) hnt
      · exact h
    have ix := hsd.idx 1 .i64 i hi
    simp only [Nat.mul_one] at ix
    have ht2 := k2 _ _ ht (by simp)
    have rt2 : rdH h2 (H1.length + 2) 0 1 = some [vt] := by rw [rdH_at ht2 (by simp)]; rfl
    have kl : Keeps h2 (h2 ++ [⟨.own, [x]⟩]) := Keeps.append _ _
    have rt3 := rdH_keep kl rt2
    have ex3 := rdH_keep kl ex
    have no6 : ∀ b, b < H1.length → ¬ vB v6 b := fun b hb hv => by have := (hoo.ge hv).1; omega
    have noT : ∀ b, b < H1.length → ¬ vB vt b := fun b hb hv => by have := (hto.ge hv).1; omega
    have hoo3 : Od H1.length (h2 ++ [⟨.own, [x]⟩]) v6 outs GO := hoo.keeps ((k2.trans kl).p fun _ => True) (fun _ _ => trivial) (fun _ _ => trivial) (by simp; omega)
    obtain ⟨v6', h4, e4, o4, k4, l4, b4⟩ := hoo3.app (zs := [groupL l k]) (ys := [x]) (G := Gx) (by simp) (.one (show Data.rep _ (groupL l k) [x] Gx from ⟨x, rfl, hx.keep kl⟩)) (fun b hb => no6 b (hGlt b (hGx b hb))) (bytes := 24) (by decide) (by simp; omega) (k := 1) rfl (n := 1) rfl
    have ht4 : h4[H1.length + 2]? = some ⟨.own, [vt]⟩ := k4 _ _ (fun hv => (sp1 _ hv).2 rfl) (kl _ _ ht2 (by simp)) (by simp)
    have rt4 : rdH h4 (H1.length + 2) 0 1 = some [vt] := by rw [rdH_at ht4 (by simp)]; rfl
    have hx4 : SdF h4 x (groupL l k) Gx := (hx.keep kl).keeps (k4.mono fun b hb => no6 b (hGlt b (hGx b hb)))
    have hFlt : ∀ b ∈ FL, b < H1.length := fun b hb => by
      rcases hFL b hb with rfl | h
      · exact hblt
      · exact hGlt b h
    have hsd4 : SdF h4 (.slice bl off n (.o 1)) (leftL l done) FL := (hsd2.keep kl).keeps (k4.mono fun b hb => no6 b (hFlt b hb))
    have ex4 : rdH h4 (bOf (.slice bl off n (.o 1))) (oOf (.slice bl off n (.o 1)) + i) 1 = some [x] := by
      obtain ⟨blk, hb, hl⟩ := hsd2.lt (i := bl) (by rw [hFe]; simp [bOf])
      have h3b := kl _ _ hb hl
      have h4b := k4 _ _ (no6 _ hblt) h3b hl
      rw [rdH_at (by exact hb) hl] at ex
      rw [rdH_at (by exact h4b) hl]; exact ex
    have hto4 : Out H1.length h4 vt done := (hto.keeps ((k2.trans kl).p fun _ => True) (fun _ _ => trivial) (by simp; omega)).keeps k4 (fun b hb hv => (sp1 b hv).1 hb) (by simp at l4 ⊢; omega)
    have e5r := hx4.sl.rdS (groupL l k).length (Nat.le_refl _)
    rw [List.take_length] at e5r
    change rdS _ 1 _ _ = _ at e5r
    obtain ⟨vt', h5, e5, o5, k5, l5, b5⟩ := hto4.app (groupL l k) hkg (bytes := 8) (by decide) (by omega) (k := 1) rfl (n := (groupL l k).length) rfl rfl
    have ht5 : h5[H1.length + 2]? = some ⟨.own, [vt]⟩ := k5 _ _ (fun hv => sp2 _ hv rfl) ht4 (by simp)
    have e6 : wrH h5 (H1.length + 2) 0 [vt'] = some (h5.set (H1.length + 2) ⟨.own, [vt']⟩) := by rw [wrH_at ht5 rfl]; rfl
    have hlt5 := get_lt ht5
    have k6 : KeepsP (fun b => b ≠ H1.length + 2) h5 (h5.set (H1.length + 2) ⟨.own, [vt']⟩) := fun c blk hc hb2 _ => by rw [List.getElem?_set_ne (Ne.symm hc)]; exact hb2
    have low : KeepsP (fun b => b < H1.length) h4 (h5.set (H1.length + 2) ⟨.own, [vt']⟩) := (k5.mono fun b hb => noT b hb).trans (k6.mono fun b hb => by omega)
    have hsd6 := hsd4.keeps (low.mono hFlt)
    have hown6 : OwnB (h5.set (H1.length + 2) ⟨.own, [vt']⟩) bl := ((((hown.keep k2).keep kl).keeps k4 (no6 _ hblt))).keeps low hblt
    obtain ⟨_, h7, e7, F7, rfl, s7, q7, n7, _, ow7, k7, l7⟩ := deleteL_ok hsd6 hnt hown6 hi (by have := leftL_len hg done; omega)
    rw [herase] at s7
    have hlv := s7.len
    have hcnt2 : (leftL l (done ++ groupL l k)).length + 1 = (leftL l done).length := by
      rw [← herase]; simp; omega
    have w1 : IntKind.i64.wrap ((i : Int) + 1) = (i + 1 : Nat) := by rw [IntWalk.i64_in] <;> omega
    have lo4 : KeepsP (fun b => b < H1.length) s.h h4 := ((k2.trans kl).p _).trans (k4.mono no6)
    have lo7 : KeepsP (fun b => b < H1.length ∧ (b = bl → bl < h.length + 1)) s.h h7 := ((lo4.trans low).mono fun b hb => hb.1).trans (k7.mono fun b hb e => by have := hb.2 e; omega)
    simp only [bOf, oOf] at ix ex ex3 ex4
    have lpos : (0 : Int) < (leftL l done).length := by omega
    simp [g557_1, hM, g1, g3, g6, g7, hlen, hi, Nat.pos_of_ne_zero (show (leftL l done).length ≠ 0 by omega), e2, ix, ex, rt2, hx.cells, hx.cell, fillL, stable, rt3, ex3, rdS_last, e4, rt4, ex4, hx4.len, e5r, e5, o5.sl.cells, o5.sl.cell, e6, w1, e7, -Int.natCast_add]
    have n3lt : H1.length + 2 < s.h.length := get_lt ht
    simp only [List.length_append, List.length_singleton] at l4 b4
    have vb6 : ∀ b, vB v6' b → b = h2.length + 1 := fun b hb => by have := b4 b hb; simpa using this
    have g7lt : ∀ b ∈ GO ++ Gx, b ∈ G3 := fun b hb => by
      rcases List.mem_append.1 hb with h | h
      · exact hGO b h
      · exact hGx b h
    have k47 : KeepsP (fun b => ¬ vB vt b ∧ b ≠ H1.length + 2 ∧ b ≠ bl) h4 h7 := ((k5.mono fun b hb => hb.1).trans (k6.mono fun b hb => hb.2.1)).trans (k7.mono fun b hb => hb.2.2)
    have l47 : h4.length ≤ h7.length := by rw [l7]; simp; omega
    refine hJ (leftL l (done ++ groupL l k)).length _ (by omega) ⟨done ++ groupL l k, outs ++ [groupL l k], .slice bl off (n - 1) (.o 1), v6', vt', F7, GO ++ Gx, f, by simp, by simp, ?_, ?_, ?_, ?_, ?_, g7lt, .inr ⟨off, n - 1, rfl, s7, ow7, n7, fun b hb => hFL b (q7 b hb), hbG, hge, hblt⟩, hlv, hk.trans lo7, by show H1.length + 3 ≤ h7.length; omega, by simp; omega, hgl2, hcl.next hg hkin hkr, nodup_next hg hcl hnd hkin hknd, by simp; omega, rfl⟩
    · exact k7 _ _ (by omega) (by simp [hlt5]) (by simp)
    · exact (o5.keeps k6 (fun b hb => by have := b5 b hb; omega) (by simp)).keeps k7 (fun b hb => by have := b5 b hb; omega) (by rw [l7]; exact Nat.le_refl _)
    · refine o4.keeps k47 (fun b hb => ⟨fun hv => ?_, ?_, ?_⟩) (fun b hb => ⟨noT b (hGlt b (g7lt b hb)), ?_, fun e => hbG (by rw [← e]; exact g7lt b hb)⟩) l47
      · have := vb6 b hb; have := (hto.ge hv).2; omega
      · have := vb6 b hb; omega
      · have := vb6 b hb; omega
      · have := hGlt b (g7lt b hb); omega
    · intro b hb
      have := vb6 b hb
      exact ⟨fun hv => by have := b5 b hv; omega, by omega⟩
    · intro b hb
      have := b5 b hb; omega
end GL

namespace GL
open Go

theorem groups_ok {v : V} {l : List (List Int)} {F : List Nat} {h : Heap} (hs : SdF h v l F) (hg : linksB l = true) :
    ∃ r h', call p 557 [v] h = some (r, h') ∧ ∃ G, SdF h' r (groupsL l) G ∧ Keeps h h' ∧ h.length ≤ h'.length := by
  refine go (fn := g557) rfl rfl fun R hR => ?_
  have r1 : rdH (h ++ [(⟨.own, [v]⟩ : Blk), ⟨.own, []⟩]) h.length 0 1 = some [v] := by
    rw [rdH_at (blk := ⟨.own, [v]⟩) (by simp) (by simp)]; rfl
  simp [g557, hs.cells, hs.cell, fillL, r1, hs.len]
  refine groups_fst hs hg _ _ (by simp) (by simp) (by simp) (by simp) rfl fun s v3 G3 hM g3 ho hk hl => ?_
  have e1 : wrH (s.h ++ [(⟨.own, []⟩ : Blk), ⟨.own, []⟩, ⟨.own, [.nils]⟩]) (s.h.length + 2) 0 [V.slice (s.h.length + 1) 0 0 (.k 0)] = some (s.h ++ [(⟨.own, []⟩ : Blk), ⟨.own, []⟩, ⟨.own, [V.slice (s.h.length + 1) 0 0 (.k 0)]⟩]) := by
    rw [wrH_at (blk := ⟨.own, [.nils]⟩) (by simp) rfl]
    simp [lay]
  simp [hM, g3, fillL, e1]
  refine groups_snd hs hg _ _ (by simp [hM]) (by simp [g3]) (by simp) (by simp) ho hk hl (by simp) fun s2 v6 G g6 h6 k6 l6 => ?_
  simp [g6]
  exact hR _ _ ⟨G, h6, k6, l6⟩

theorem groupsL_facts {l : List (List Int)} (hg : linksB l = true) : (groupsL l).flatten.Nodup ∧ (∀ x, InR l x ↔ x ∈ (groupsL l).flatten) ∧ ∀ i (hi : i < (groupsL l).length), ∃ k, InR l k ∧ (groupsL l)[i] = groupL l k ∧ ∀ x, Rch l k x → x ∈ ((groupsL l).take (i + 1)).flatten := by
  have := groupsF_spec hg l.length [] (Cl.nil l) List.nodup_nil (by simp)
  simpa [groupsL] using this
theorem groupsL_flat {l : List (List Int)} (hg : linksB l = true) : (groupsL l).flatten.length = l.length := by
  obtain ⟨h1, h2, _⟩ := groupsL_facts hg
  have a := nodup_len (n := l.length) h1 fun x hx => (h2 x).2 hx
  have nd : (nodes l).Nodup := (nodes_rising l).imp fun h => by omega
  have b := nd.length_le_of_subset (l₂ := (groupsL l).flatten) fun x hx => (h2 x).1 (mem_nodes.1 hx)
  have c : (nodes l).length = l.length := by simp [nodes]
  omega
theorem OrderBy_ok {h : Heap} {v : V} {l : List (List Int)} {F : List Nat} (hs : SdF h v l F) :
    ∃ r h', call p 498 [v] h = some (r, h') ∧ ∃ o, r = .tup [o, .bool (linksB l)] ∧ Sl h' o (if linksB l = true then (groupsL l).flatten else []) ∧ Keeps h h' ∧ h.length ≤ h'.length := by
  obtain ⟨_, h1, e1, rfl, k1, l1⟩ := GoodLinks_ok hs
  refine go (fn := g498) rfl rfl fun R hR => ?_
  cases hl : linksB l with
  | false =>
    rw [hl] at e1; simp [g498, e1]
    exact hR _ _ ⟨.nils, by rw [hl], by simp [hl]; exact Sl.nil, k1, l1⟩
  | true =>
    rw [hl] at e1
    obtain ⟨l12, _⟩ := linksB_facts hl
    obtain ⟨r, h2, e2, G, s2, k2, l2⟩ := groups_ok (hs.keep k1) hl
    obtain ⟨o, h3, e3, G3, s3, f3, k3, l3⟩ := concat_ok s2 (by rw [groupsL_flat hl]; omega)
    simp [g498, e1, e2, e3]
    exact hR _ _ ⟨o, by rw [hl], by simp [hl]; exact s3.sl, (k1.trans k2).trans k3, by omega⟩
end GL

namespace GL
open Go

theorem readyB_iff (l : List (List Int)) (ds done : List Int) (hm : ∀ x, x ∈ ds ↔ x ∈ done) (k : Int) : ((reachL l k).all fun x => decide (x ∈ ds) || decide (x ∈ groupL l k)) = decide (readyB l done k) := by
  rw [Bool.eq_iff_iff, decide_eq_true_iff]
  simp [readyB, hm]
theorem next_first {l : List (List Int)} {done : List Int} {k : Nat} (hk : k < l.length) (h1 : (k : Int) ∉ done) (h2 : readyB l done k) (hall : ∀ j : Nat, j < k → (j : Int) ∈ done ∨ ¬ readyB l done j) : nextK l done = some (k : Int) := by
  refine List.find?_eq_some_iff_append.2 ⟨by simp [h1, h2], ((List.range k).map fun (i : Nat) => (i : Int)), ((List.range (l.length - (k + 1))).map fun (i : Nat) => ((k + 1 + i : Nat) : Int)), ?_, ?_⟩
  · unfold nodes
    have : l.length = k + (1 + (l.length - (k + 1))) := by omega
    conv => lhs; rw [this, List.range_add, List.range_add]
    simp [List.map_map, Function.comp_def, Nat.add_assoc]
  · intro a ha
    obtain ⟨j, hj, rfl⟩ := List.mem_map.1 ha
    rw [List.mem_range] at hj
    rcases hall j hj with h | h <;> simp [h]

theorem l9Groups_ok {v : V} {l : List (List Int)} {F : List Nat} {h : Heap} (hs : SdF h v l F) (hg : linksB l = true) :
    ∃ r h', call p 558 [v] h = some (r, h') ∧ ∃ G, SdF h' r (groupsL l) G ∧ Keeps h h' ∧ h.length ≤ h'.length := by
  obtain ⟨l12, _⟩ := linksB_facts hg
  refine go (fn := g558) rfl rfl fun R hR => ?_
  simp [g558]
  refine Wc_dnM (M := [3, 4, 5, 6, 7, 9, 11, 12, 13, 14, 15, 16, 17, 18, 19, 20, 21, 22, 23, 24, 25, 26, 27, 28, 29, 30, 31, 32, 33, 34, 35, 36, 37, 38, 39, 40, 41, 42, 43, 44, 45, 46, 47, 48, 49, 50, 51, 52, 53, 54, 55, 56, 57, 58, 59, 60, 61, 62, 63]) rfl
    (fun m s => ∃ (done ds : List Int) (outs : List (List Int)) (v3 v4 : V) (Go Gd : List Nat) (f : Nat), s.σ 3 = .v v3 ∧ s.σ 4 = .v v4 ∧ Od h.length s.h v3 outs Go ∧ SdF s.h v4 ds Gd ∧ (∀ b ∈ Gd, ¬ vB v3 b) ∧ ds.Pairwise (· < ·) ∧ (∀ x, x ∈ ds ↔ x ∈ done) ∧ ds.length = done.length ∧
      Keeps h s.h ∧ h.length ≤ s.h.length ∧ l.length ≤ f + done.length ∧ groupsL l = outs ++ groupsF l f done ∧ Cl l done ∧ done.Nodup ∧ outs.length ≤ done.length ∧ m = l.length - done.length) l.length
    ⟨[], [], [], .nils, .nils, [], [], l.length, by simp, by simp, Od.nil (Nat.le_refl _), SdF.nil, by simp, by simp, by simp, rfl, Keeps.refl _, Nat.le_refl _, by simp, by simp [groupsL], Cl.nil l, List.nodup_nil, by simp, by simp⟩ fun m s ⟨done, ds, outs, v3, v4, Go, Gd, f, g3, g4, hoo, hsd, hsep, hri, hmem, hlen, hk, hl, hf, hgl, hcl, hnd, hol, hm⟩ hM J hJ => ?_
  have hdl : done.length ≤ l.length := nodup_len hnd hcl.lt
  by_cases hlt : done.length < l.length
  · -- there is a next one
    have hex : ∃ k, nextK l done = some k := by
      cases hn : nextK l done with
      | some k => exact ⟨k, rfl⟩
      | none =>
        have nd : (nodes l).Nodup := (nodes_rising l).imp fun h => by omega
        have b := nd.length_le_of_subset (l₂ := done) fun x hx => next_none hg hn (mem_nodes.1 hx)
        have c : (nodes l).length = l.length := by simp [nodes]
        omega
    have hlt2 : (ds.length : Int) < l.length := by omega
    simp [g558_3, hM, g4, hsd.len, hs.len, hlt2]
    refine Wc_upM (M := [3, 4, 5, 6, 7, 9, 11, 19, 20, 21, 22, 23, 24, 25, 26, 27, 28, 29, 30, 31, 32, 33, 34, 35, 36, 37, 38, 39, 40, 41, 42, 43, 44, 45, 46, 47, 48, 49, 50, 51, 52, 53, 54, 55, 56, 57, 58, 59, 60, 61, 62, 63]) rfl l.length
      (fun k t => t.σ 19 = .v (vi k) ∧ t.σ 3 = .v v3 ∧ t.σ 4 = .v v4 ∧ Keeps s.h t.h ∧ s.h.length ≤ t.h.length ∧ ∀ j : Nat, j < k → j < l.length → (j : Int) ∈ done ∨ ¬ readyB l done j) 0
      ⟨by simp, by simp [g3], by simp [g4], Keeps.refl _, Nat.le_refl _, by simp⟩ fun k t ⟨g19, g3, g4, kt, lt, hall⟩ hM2 J2 hJ2 => ?_
    by_cases hkl : k < l.length
    · have hin : InR l (k : Int) := ⟨by omega, by omega⟩
      have hsdt := hsd.keep kt
      have e1 := l1Has_eq hsdt.sl (k : Int)
      have w1 : IntKind.i64.wrap ((k : Int) + 1) = (k + 1 : Nat) := by rw [IntWalk.i64_in] <;> omega
      by_cases hkd : (k : Int) ∈ done
      · rw [decide_eq_true ((hmem _).2 hkd)] at e1
        simp [g558_2, hM2, hM, g19, g4, hkl, e1, w1, -Int.natCast_add]
        refine hJ2 _ hkl ⟨by simp, by simp [g3], by simp [g4], kt, lt, fun j hj hjl => ?_⟩
        rcases Nat.lt_or_eq_of_le (Nat.le_of_lt_succ hj) with h | rfl
        · exact hall j h hjl
        · exact .inl hkd
      · rw [decide_eq_false (fun h => hkd ((hmem _).1 h))] at e1
        have hst := (hs.keep hk).keep kt
        obtain ⟨x, h2, e2, o2, k2, l2⟩ := l9Group_ok hst hg (k : Int) hin
        obtain ⟨y, h3, e3, G3, s3, k3, l3⟩ := l9Reach_ok (hst.keep k2) hg (k : Int) hin
        simp [g558_2, hM2, hM, g19, g4, hkl, e1, e2, e3, s3.len]
        -- is it ready?
        refine Wc_upM (M := [7, 9, 32, 33, 34, 35, 36, 37, 38, 39, 40, 41, 42, 43, 44, 45, 46, 47]) rfl (reachL l (k : Int)).length
          (fun i u => u.σ 32 = .v (vi i) ∧ u.h = h3 ∧ u.σ 7 = .v (.bool (((reachL l (k : Int)).take i).all fun x => decide (x ∈ ds) || decide (x ∈ groupL l k)))) 0 (by simp) fun i u ⟨g32, gh, g7⟩ hM3 J3 hJ3 => ?_
        have hsd3 := (hsdt.keep k2).keep k3
        have o3 := o2.keeps (k3.p fun _ => True) (fun _ _ => trivial) l3
        by_cases hi : i < (reachL l (k : Int)).length
        · have a1 := l1Has_eq hsd3.sl (reachL l (k : Int))[i]
          have a2 := l1Has_eq o3.sl (reachL l (k : Int))[i]
          have ix := s3.idx 1 .i64 i hi
          simp only [Nat.mul_one] at ix
          have ex := s3.sl.loadI i hi
          have ht : (((reachL l (k : Int)).take (i + 1)).all fun x => decide (x ∈ ds) || decide (x ∈ groupL l k)) = ((((reachL l (k : Int)).take i).all fun x => decide (x ∈ ds) || decide (x ∈ groupL l k)) && (decide ((reachL l (k : Int))[i] ∈ ds) || decide ((reachL l (k : Int))[i] ∈ groupL l k))) := by
            rw [List.take_succ_eq_append_getElem hi]; simp only [List.all_append, List.all_cons, List.all_nil, Bool.and_true]
          generalize decide ((reachL l (k : Int))[i] ∈ ds) = q2 at a1 ht
          generalize decide ((reachL l (k : Int))[i] ∈ groupL l k) = q3 at a2 ht
          generalize (((reachL l (k : Int)).take i).all fun x => decide (x ∈ ds) || decide (x ∈ groupL l k)) = q1 at g7 ht
          cases q1 <;> cases q2 <;> cases q3 <;>
          · simp [g558_0, hM3, hM2, hM, g32, gh, g7, g4, hi, ix, ex, a1, a2, s3.step hi]
            exact hJ3 _ hi ⟨by simp, rfl, by rw [ht]; simp⟩
        · rw [List.take_of_length_le (by omega), readyB_iff l ds done hmem] at g7
          by_cases hr : readyB l done (k : Int)
          · rw [decide_eq_true hr] at g7
            have hnext := next_first hkl hkd hr fun j hj => hall j hj (by omega)
            cases f with
            | zero => omega
            | succ f =>
            have hgl2 : groupsL l = (outs ++ [groupL l (k : Int)]) ++ groupsF l f (done ++ groupL l (k : Int)) := by
              rw [hgl]; simp [groupsF, hnext]
            have hkg : 0 < (groupL l (k : Int)).length := List.length_pos_of_mem (self_groupL hg hin)
            have hkln := groupL_len hg hin
            have kk3 : Keeps s.h h3 := (kt.trans k2).trans k3
            have kl : Keeps h3 (h3 ++ [⟨.own, [x]⟩]) := Keeps.append _ _
            obtain ⟨Gx, sx, fx⟩ := o3.fr
            have no3 : ∀ b ∈ Gx, ¬ vB v3 b := fun b hb hv => by have := (hoo.ge hv).2; have := fx.ge b hb; omega
            have hoo3 : Od h.length (h3 ++ [⟨.own, [x]⟩]) v3 outs Go := hoo.keeps ((kk3.trans kl).p fun _ => True) (fun _ _ => trivial) (fun _ _ => trivial) (by simp; omega)
            obtain ⟨v3', h4, e4, o4, k4, l4, b4⟩ := hoo3.app (zs := [groupL l (k : Int)]) (ys := [x]) (G := Gx) (by simp) (.one (show Data.rep _ (groupL l (k : Int)) [x] Gx from ⟨x, rfl, sx.keep kl⟩)) no3 (bytes := 24) (by decide) (by simp; omega) (k := 1) rfl (n := 1) rfl
            have sx4 : SdF h4 x (groupL l (k : Int)) Gx := (sx.keep kl).keeps (k4.mono no3)
            have hsd4 : SdF h4 v4 ds Gd := (hsd3.keep kl).keeps (k4.mono hsep)
            simp only [List.length_append, List.length_singleton] at l4 b4
            have kk4 : Keeps h h4 := Keeps.far (n := h.length) (hk.trans (kk3.trans kl)) k4 (Nat.le_refl _) fun b hb hv => by have := (hoo.ge hv).1; omega
            have hc1 := sx.cells
            have hc2 := sx.cell
            have w1' := w1
            simp [g558_0, hM3, hM2, hM, g32, gh, g7, hi, g3, hc1, hc2, fillL, rdS_last, e4, sx4.len]
            refine Wc_upM (M := [4, 11, 55, 56, 57, 58, 59, 60, 61, 62]) rfl (groupL l (k : Int)).length
              (fun j u => j ≤ (groupL l (k : Int)).length ∧ u.σ 55 = .v (vi j) ∧ ∃ (ds2 : List Int) (v5 : V) (G5 : List Nat), u.σ 4 = .v v5 ∧ SdF u.h v5 ds2 G5 ∧ (∀ b ∈ G5, ¬ vB v3' b) ∧ ds2.Pairwise (· < ·) ∧ (∀ y, y ∈ ds2 ↔ y ∈ ds ∨ y ∈ (groupL l (k : Int)).take j) ∧ ds2.length ≤ ds.length + j ∧ Keeps h4 u.h ∧ h4.length ≤ u.h.length) 0
              ⟨by omega, by simp, ds, v4, Gd, by simp [hM3, g4], hsd4, fun b hb hv => ?_, hri, by simp, by simp, Keeps.refl _, Nat.le_refl _⟩ fun j u ⟨gj, g55, ds2, v5, G5, g4', s5, sep5, r5, m5, n5, k5, l5⟩ hM4 J4 hJ4 => ?_
            · have e := b4 b hv
              obtain ⟨blk, hb1, _⟩ := hsd3.lt hb
              have := get_lt hb1; omega
            · by_cases hj : j < (groupL l (k : Int)).length
              · have sxu := sx4.keep k5
                have ij := sxu.idx 1 .i64 j hj
                simp only [Nat.mul_one] at ij
                have ej := sxu.sl.loadI j hj
                obtain ⟨v7, h7, e7, ds3, G7, s7, r7, m7, n7, G7s, k7, l7⟩ := l1Put_ok s5 r5 (by omega) (groupL l (k : Int))[j]
                simp [g558_1, hM4, hM3, hM2, hM, g55, g4', hj, ij, ej, e7, sx4.step hj]
                refine hJ4 _ hj ⟨hj, by simp, ds3, v7, G7, by simp, s7, fun b hb hv => ?_, r7, fun y => ?_, by omega, k5.trans k7, by show h4.length ≤ h7.length; omega⟩
                · rcases G7s b hb with h | h
                  · exact sep5 b h hv
                  · have e := b4 b hv; omega
                · rw [m7, m5, mem_take_succ hj, or_assoc]
              · have hjl : j = (groupL l (k : Int)).length := by omega
                subst hjl
                simp only [List.take_length] at m5
                have hnd2 := nodup_next hg hcl hnd hin hkd
                have hmem2 : ∀ y, y ∈ ds2 ↔ y ∈ done ++ groupL l (k : Int) := fun y => by rw [m5, List.mem_append, hmem]
                have hlen2 : ds2.length = (done ++ groupL l (k : Int)).length := by
                  have nd5 : ds2.Nodup := r5.imp fun h => by omega
                  have a := nd5.length_le_of_subset (l₂ := done ++ groupL l (k : Int)) fun y hy => (hmem2 y).1 hy
                  have b := hnd2.length_le_of_subset (l₂ := ds2) fun y hy => (hmem2 y).2 hy
                  omega
                simp [g558_1, hM4, hM3, hM2, hM, g55]
                refine hJ (l.length - (done ++ groupL l (k : Int)).length) _ (by simp; omega) ⟨done ++ groupL l (k : Int), ds2, outs ++ [groupL l (k : Int)], v3', v5, Go ++ Gx, G5, f, by simp [hM4], by simp [g4'], ?_, s5, sep5, r5, hmem2, hlen2, kk4.trans k5, by show h.length ≤ u.h.length; omega, by simp; omega, hgl2, hcl.next hg hin hr, hnd2, by simp; omega, rfl⟩
                exact o4.keeps (k5.p fun _ => True) (fun _ _ => trivial) (fun _ _ => trivial) l5
          · rw [decide_eq_false hr] at g7
            simp [g558_0, hM3, hM2, hM, g32, gh, g7, hi, g19, w1, -Int.natCast_add]
            refine hJ2 _ hkl ⟨by simp, by simp [hM3, g3], by simp [hM3, g4], (kt.trans k2).trans k3, by show s.h.length ≤ h3.length; omega, fun j hj hjl => ?_⟩
            rcases Nat.lt_or_eq_of_le (Nat.le_of_lt_succ hj) with h | rfl
            · exact hall j h hjl
            · exact .inr hr
    · exfalso
      obtain ⟨k', hk'⟩ := hex
      obtain ⟨a1, a2, a3, _⟩ := next_some hg hk'
      have e : ((k'.toNat : Nat) : Int) = k' := by have := a1.1; omega
      rcases hall k'.toNat (by have := a1.2; omega) (by have := a1.2; omega) with h | h
      · rw [e] at h; exact a2 h
      · rw [e] at h; exact h a3
  · have hfin : groupsL l = outs := by
      have : groupsF l f done = [] := by
        cases f with
        | zero => rfl
        | succ f =>
          cases hn : nextK l done with
          | none => simp [groupsF, hn]
          | some k =>
            obtain ⟨a1, a2, _⟩ := next_some hg hn
            have hnd2 : (k :: done).Nodup := List.nodup_cons.2 ⟨a2, hnd⟩
            have := nodup_len (n := l.length) hnd2 fun y hy => by
              rcases List.mem_cons.1 hy with rfl | hy
              · exact a1
              · exact hcl.lt y hy
            simp at this; omega
      rw [hgl, this, List.append_nil]
    obtain ⟨F', hF', _⟩ := hoo.sd
    have hlt2 : ¬ (ds.length : Int) < l.length := by omega
    simp [g558_3, hM, g4, g3, hsd.len, hs.len, hlt2]
    exact hR _ _ ⟨F', by rw [hfin]; exact hF', hk, hl⟩
end GL

namespace GL
open Go

/-- where a number stands, or -1 -/
def placeL (xs : List Int) (n : Int) : Int := if n ∈ xs then (xs.idxOf n : Int) else -1
/-- an element is laid anew, whatever it leads to -/
theorem SdF.putX {α : Type} [Data α] {h : Heap} {v : V} {xs : List α} {F : List Nat} (hs : SdF h v xs F) (hn : ∀ G, F = bOf v :: G → bOf v ∉ G) (ho : OwnB h (bOf v)) {i : Nat} (hi : i < xs.length) {x' : α} {cs' : List V} {G' : List Nat} (hr : Data.rep h x' cs' G') (hG : bOf v ∉ G') :
    ∃ h' F', wrH h (bOf v) (oOf v + i * Data.sz α) cs' = some h' ∧ SdF h' v (xs.set i x') F' ∧ (∀ b ∈ F', b ∈ F ∨ b ∈ G') ∧ KeepsP (fun b => b ≠ bOf v) h h' ∧ h'.length = h.length ∧ ∀ b, OwnB h b → OwnB h' b := by
  have hlen0 := hs.1
  rcases hs with ⟨_, ⟨rfl, rfl, _⟩ | ⟨b, off, cap, rfl, hcap, hs⟩⟩
  · simp at hi
  · rcases hs with ⟨rfl, _⟩ | ⟨blk, cs, G, rfl, h1, h2, h3, h4⟩
    · simp at hi
    · obtain ⟨ds, hd⟩ := ho
      simp only [bOf, oOf] at hd ⊢
      rw [hd] at h1; cases h1
      have hbG : ∀ c ∈ G, c ≠ b := fun c hc e => by subst e; exact hn G rfl hc
      obtain ⟨F1, F2, F3, rfl, r2, r1, r3⟩ := h4.get i hi
      have hcl := h4.len
      have hle : (i + 1) * Data.sz α ≤ xs.length * Data.sz α := Nat.mul_le_mul_right _ hi
      have hs1 : (i + 1) * Data.sz α = i * Data.sz α + Data.sz α := by rw [Nat.add_mul, Nat.one_mul]
      have hcs : cs = cs.take (i * Data.sz α) ++ (cs.drop (i * Data.sz α)).take (Data.sz α) ++ cs.drop ((i + 1) * Data.sz α) := by
        rw [hs1, ← List.drop_drop, List.append_assoc, List.take_append_drop, List.take_append_drop]
      have hmid : ((cs.drop (i * Data.sz α)).take (Data.sz α)).length = Data.sz α := by simp; omega
      have hl : lay ((cs.drop (i * Data.sz α)).take (Data.sz α)) 0 cs' = some cs' := by
        unfold lay
        have hc' := Data.len hr
        rw [if_pos (by omega)]
        simp only [List.take_zero, List.nil_append, Nat.zero_add]
        rw [List.drop_of_length_le (by omega), List.append_nil]
      unfold cut at h3
      split at h3
      case isFalse => cases h3
      rename_i hle2
      simp only at hle2
      simp only [Option.some.injEq] at h3
      have hds : ds = ds.take off ++ cs ++ ds.drop (off + xs.length * Data.sz α) := by
        rw [← h3, ← List.drop_drop, List.append_assoc, List.take_append_drop, List.take_append_drop]
      have hol : (ds.take off).length = off := by simp; omega
      have htl : (cs.take (i * Data.sz α)).length = i * Data.sz α := by simp; omega
      have hl2 := layMid (a := cs.take (i * Data.sz α)) (b := cs.drop ((i + 1) * Data.sz α)) hl
      rw [← hcs, htl, Nat.add_zero] at hl2
      have hl3 := layMid (a := ds.take off) (b := ds.drop (off + xs.length * Data.sz α)) hl2
      rw [← hds, hol] at hl3
      have hb := get_lt hd
      have hk : KeepsP (fun c => c ≠ b) h (h.set b ⟨.own, ds.take off ++ (cs.take (i * Data.sz α) ++ cs' ++ cs.drop ((i + 1) * Data.sz α)) ++ ds.drop (off + xs.length * Data.sz α)⟩) := fun c blk hc hb2 _ => by
        rw [List.getElem?_set_ne (Ne.symm hc)]; exact hb2
      have hG'b : ∀ c ∈ G', c ≠ b := fun c hc e => hG (by simp only [bOf]; rw [← e]; exact hc)
      refine ⟨_, b :: (F1 ++ G' ++ F3), by rw [wrH_at hd rfl, hl3]; rfl, ⟨by simpa using hlen0, .inr ⟨b, off, cap, by simp, by simpa using hcap, .inr ⟨⟨.own, ds.take off ++ (cs.take (i * Data.sz α) ++ cs' ++ cs.drop ((i + 1) * Data.sz α)) ++ ds.drop (off + xs.length * Data.sz α)⟩, cs.take (i * Data.sz α) ++ cs' ++ cs.drop ((i + 1) * Data.sz α), _, rfl, by simp [hb], by simp, ?_, ?_⟩⟩⟩, fun c hc => by simp only [List.mem_cons, List.mem_append] at hc ⊢; rcases hc with h | (h | h) | h <;> simp [h], hk, by simp, fun c hc => hc.set hb⟩
      · have hll := (layLen hl2).1
        simp only [cut, List.length_set]
        rw [if_pos (by simp only [List.length_append] at hll ⊢; rw [hol, hll]; simp; omega)]
        rw [List.append_assoc, List.drop_append_of_le_length (by omega), List.drop_of_length_le (by omega), List.nil_append, List.take_append_of_le_length (by rw [hll]; omega), List.take_of_length_le (by rw [hll]; omega)]
      · have hset : xs.set i x' = xs.take i ++ [x'] ++ xs.drop (i + 1) := by
          rw [List.set_eq_take_append_cons_drop, if_pos hi]; simp
        rw [hset]
        refine ((r1.keeps (hk.mono fun c hc => ?_)).append (.one (Data.keeps hr (hk.mono fun c hc => hG'b c hc)))).append (r3.keeps (hk.mono fun c hc => ?_))
        · exact hbG c (by simp [hc])
        · exact hbG c (by simp [hc])


/-- what is written behind a slice's end does not touch it -/

theorem links_row {h0 h : Heap} {N : Nat} (d : DC h0 h N) (hN : N < 2 ^ 56) {lo : Nat} (hlo : h0.length < lo) (hlo2 : lo ≤ h.length) (n : Nat) (hn : n ≤ 20) (k0 : Nat) (hk0 : k0 ≤ 2) (s0 : S) (K : Ex → S → Prop) (g0 : s0.σ 0 = .v (.ptr h0.length 0)) (g3 : s0.σ 3 = .v (vi n)) (g6 : s0.σ 6 = .v .nils) (g7 : s0.σ 7 = .v (vi k0)) (gh : s0.h = h)
    (hK : ∀ s row v6 G6, (∀ k, k ∉ [6, 7, 22, 23, 24, 25, 26, 27, 28, 29, 30] → s.σ k = s0.σ k) → s.σ 6 = .v v6 → SdF s.h v6 (row : List Int) G6 → (∀ b ∈ G6, h.length ≤ b) → DC h0 s.h (N + 4) → KeepsBut h0.length h s.h → h.length ≤ s.h.length → K (.exit 2) s) : Wc p (.loop g570_0) s0 K := by
  refine Wc_dnM (M := [6, 7, 22, 23, 24, 25, 26, 27, 28, 29, 30]) rfl (fun k s => k ≤ 2 ∧ s.σ 7 = .v (vi k) ∧ ∃ (row : List Int) (v6 : V) (G6 : List Nat), row.length + k ≤ 2 ∧ s.σ 6 = .v v6 ∧ SdF s.h v6 row G6 ∧ row.Pairwise (· < ·) ∧ (∀ b ∈ G6, h.length ≤ b) ∧ (∃ c, c + k ≤ 2 ∧ DC h0 s.h (N + 2 * c)) ∧ KeepsBut h0.length h s.h ∧ h.length ≤ s.h.length) k0
    ⟨hk0, g7, [], .nils, [], by simpa using hk0, g6, SdF.nil, by simp, by simp, ⟨0, by omega, by rw [gh]; exact d⟩, by rw [gh]; exact KeepsBut.refl _ _, by rw [gh]; omega⟩ fun k s ⟨gk, g7, row, v6, G6, hx, g6, s6, r6, b6, ⟨c, hc, d⟩, kb, hl⟩ hM J hJ => ?_
  by_cases hk : 0 < k
  · have w2 : IntKind.i64.wrap ((k : Int) - 1) = (k - 1 : Nat) := by rw [IntWalk.i64_in] <;> omega
    obtain ⟨x, h1, e1, _, d1, k1, l1⟩ := d.pick (by omega) (n : Int) (by omega)
    have s6' := s6.keeps (k1.P.mono fun b hb => by have := b6 b hb; omega)
    obtain ⟨v7, h2, e2, ys, G7, s7, r7, m7, n7, G7s, k2, l2⟩ := l1Put_ok s6' r6 (by omega) (x : Int)
    simp [g570_0, hM, g0, g3, g7, g6, hk, e1, e2, w2, -Int.natCast_add]
    refine hJ (k - 1) _ (by omega) ⟨by omega, by simp, ys, v7, G7, by omega, by simp, s7, r7, fun b hb => ?_, ⟨c + 1, by omega, (d1.keeps k2).mono (by omega)⟩, (kb.trans k1).trans (k2.but _), by show h.length ≤ h2.length; omega⟩
    rcases G7s b hb with h | h
    · exact b6 b h
    · omega
  · have : k = 0 := by omega
    subst this
    simp [g570_0, hM, g7]
    exact hK _ row v6 G6 (fun k hk => by simp only [List.mem_cons, not_or] at hk; simp [hk, hM]) (by simp [g6]) s6 b6 (d.mono (by omega)) kb hl

theorem DC.links {h0 h : Heap} {N : Nat} (d : DC h0 h N) (hN : N < 2 ^ 55) : ∃ v h', call p 570 [.ptr h0.length 0] h = some (v, h') ∧ ∃ (xs : List (List Int)) (F : List Nat), SdF h' v xs F ∧ xs.length ≤ 13 ∧ (∀ b ∈ F, h.length ≤ b) ∧ DC h0 h' (N + 200) ∧ KeepsBut h0.length h h' ∧ h.length ≤ h'.length := by
  have hlt := d.lt
  obtain ⟨a, h1, e1, ha, d1, k1, l1⟩ := d.pick (by omega) 9 (by decide)
  obtain ⟨b, h2, e2, d2, k2, l2⟩ := d1.one (by omega) 20 (by decide)
  refine go (fn := g570) rfl rfl fun R hR => ?_
  have main : ∀ (n : Nat) (h3 : Heap) (M3 : Nat), n ≤ 13 → M3 ≤ N + 6 → DC h0 h3 M3 → KeepsBut h0.length h h3 → h.length ≤ h3.length → ∀ (s0 : S) (K : Ex → S → Prop), s0.σ 0 = .v (.ptr h0.length 0) → s0.σ 3 = .v (vi n) → s0.σ 4 = .v .nils → s0.σ 5 = .v (vi 0) → s0.h = h3 →
      (∀ s' (xs : List (List Int)) v G, s'.σ 0 = .v (.ptr h0.length 0) → s'.σ 3 = .v (vi n) → s'.σ 4 = .v v → Od h.length s'.h v xs G → xs.length = n → (∀ b ∈ G, h.length ≤ b) → DC h0 s'.h (N + 180) → KeepsBut h0.length h s'.h → h.length ≤ s'.h.length → K (.exit 0) s') → Wc p (.loop g570_1) s0 K := by
    intro n h3 M3 hn hM3 d3 k3 l3 s0 K g0 g3 g4 g5 gh hK
    refine Wc_upM (M := [4, 5, 6, 7, 15, 16, 17, 18, 19, 20, 21, 22, 23, 24, 25, 26, 27, 28, 29, 30, 31, 32, 33, 34]) rfl n (fun i s => i ≤ n ∧ s.σ 5 = .v (vi i) ∧ ∃ (xs : List (List Int)) (v : V) (G : List Nat), xs.length = i ∧ s.σ 4 = .v v ∧ Od h.length s.h v xs G ∧ (∀ b ∈ G, h.length ≤ b) ∧ DC h0 s.h (N + 6 + i * 6) ∧ KeepsBut h0.length h s.h ∧ h.length ≤ s.h.length) 0
      ⟨by omega, g5, [], .nils, [], rfl, g4, Od.nil (by rw [gh]; omega), by simp, by rw [gh]; exact d3.mono (by omega), by rw [gh]; exact k3, by rw [gh]; omega⟩ fun i s ⟨gi, g5, xs, v, G, hx, g4, ho, hG, d, kb, hl⟩ hM J hJ => ?_
    by_cases hi : i < n
    · have w1 : IntKind.i64.wrap ((i : Int) + 1) = (i + 1 : Nat) := by rw [IntWalk.i64_in] <;> omega
      obtain ⟨c, h4, e4, hc, d4, k4, l4⟩ := d.pick (by omega) 3 (by decide)
      simp [g570_1, hM, g0, g3, g5, hi, e4]
      refine links_row d4 (by omega) (lo := h.length) hlt (by omega) n (by omega) c (by omega) _ _ (by simp [hM, g0]) (by simp [hM, g3]) (by simp) (by simp) rfl fun s2 row v6 G6 hM2 g6 s6 b6 d6 kb6 l6 => ?_
      have ge : ∀ i, vB v i → h.length ≤ i ∧ i < s.h.length := fun i hi => ho.ge hi
      have kl : Keeps s2.h (s2.h ++ [⟨.own, [v6]⟩]) := Keeps.append _ _
      have ko : KeepsP (fun b => b ≠ h0.length) s.h (s2.h ++ [⟨.own, [v6]⟩]) := (k4.trans kb6).P.trans (kl.p _)
      have ho3 : Od h.length (s2.h ++ [⟨.own, [v6]⟩]) v xs G := ho.keeps ko (fun b hb => by have := (ge b hb).1; omega) (fun b hb => by have := hG b hb; omega) (by simp; omega)
      have no : ∀ b ∈ G6, ¬ vB v b := fun b hb hv => by have := (ge b hv).2; have := b6 b hb; omega
      obtain ⟨v', h7, e7, o7, k7, l7, b7⟩ := ho3.app (zs := [row]) (ys := [v6]) (G := G6) (by simp) (.one (show Data.rep _ row [v6] G6 from ⟨v6, rfl, s6.keep kl⟩)) no (bytes := 24) (by decide) (by simp; omega) (k := 1) rfl (n := 1) rfl
      have g4' : s2.σ 4 = .v v := by rw [hM2 4 (by decide)]; simp [g4]
      have g5' : s2.σ 5 = .v (vi i) := by rw [hM2 5 (by decide)]; simp [g5]
      simp at l7
      simp [g4', g5', g6, s6.cells, s6.cell, fillL, rdS_last, e7, w1, -Int.natCast_add]
      refine hJ _ hi ⟨hi, by simp, xs ++ [row], v', G ++ G6, by simp [hx], by simp, o7, fun b hb => ?_, ?_, ?_, by show h.length ≤ h7.length; omega⟩
      · rcases List.mem_append.1 hb with h | h
        · exact hG b h
        · have := b6 b h; omega
      · exact ((d6.keeps kl).far k7 fun j hj hv => by have := (ge j hv).1; omega).mono (by omega)
      · exact ((kb.trans (k4.trans kb6)).trans (kl.but _)).far k7 fun j hj _ hv => by have := (ge j hv).1; omega
    · have : i = n := by omega
      simp [g570_1, hM, g3, g5, hi]
      exact hK _ xs v G (by simp [hM, g0]) (by simp [hM, g3]) (by simp [g4]) ho (by omega) hG (d.mono (by omega)) kb hl
  have tail : ∀ (H : Heap) (xs : List (List Int)) (v : V) (G : List Nat), Od h.length H v xs G → xs.length ≤ 13 → (∀ b ∈ G, h.length ≤ b) → DC h0 H (N + 180) → KeepsBut h0.length h H → h.length ≤ H.length →
      (xs.length = 0 → R v H) ∧ (0 < xs.length → ∃ (q : Bool) (H2 : Heap), call p 92 [.ptr h0.length 0, vi 30] H = some (.bool q, H2) ∧ idxV 1 v (.int .i64 0) = some (.ptr (bOf v) (oOf v)) ∧ (q = false → R v H2) ∧ (q = true → ∃ H3, wrH (H2 ++ [⟨.own, [vi xs.length]⟩]) (bOf v) (oOf v) [.slice H2.length 0 1 (.k 1)] = some H3 ∧ R v H3)) := by
    intro H xs v G ho hx hG d kb hl
    obtain ⟨F', hF, hF'⟩ := ho.sd
    have hFge : ∀ b ∈ F', h.length ≤ b := fun b hb => by
      rcases hF' with rfl | ⟨rfl, hv, _⟩
      · exact hG b hb
      · rcases List.mem_cons.1 hb with rfl | h
        · exact (ho.ge hv).1
        · exact hG b h
    refine ⟨fun _ => hR _ _ ⟨xs, F', hF, hx, hFge, d.mono (by omega), kb, hl⟩, fun hp => ?_⟩
    obtain ⟨q, H2, e2, d2, k2, l2⟩ := d.one (by omega) 30 (by decide)
    have hF2 := hF.keeps (k2.P.mono fun b hb => by have := hFge b hb; omega)
    have i0 := hF.idx 1 .i64 0 hp
    simp at i0
    refine ⟨q, H2, e2, i0, fun _ => hR _ _ ⟨xs, F', hF2, hx, hFge, d2.mono (by omega), kb.trans k2, by omega⟩, fun _ => ?_⟩
    have hin := hF.bIn hp
    rcases hF' with rfl | ⟨rfl, hv, hn, cs, hcs⟩
    · exfalso
      obtain ⟨_, _, ⟨rfl, rfl, rfl⟩ | ⟨b, cs, rfl, hb, h3, hr, hn⟩ | ⟨b, rfl, rfl, rfl, _⟩⟩ := ho
      · simp at hp
      · exact hn hin
      · simp at hp
    · have kl : Keeps H2 (H2 ++ [⟨.own, [vi xs.length]⟩]) := Keeps.append _ _
      have hge := (ho.ge hv).1
      have hcs2 := kl _ _ (k2 _ _ (by omega) hcs (by simp)) (by simp)
      have hlt2 : bOf v < H2.length := by have := (ho.ge hv).2; omega
      have hrow : SdF (H2 ++ [⟨.own, [vi xs.length]⟩]) (.slice H2.length 0 1 (.k 1)) [(xs.length : Int)] [H2.length] := SdF.lit (F := []) (.one (show Data.rep H2 (xs.length : Int) [vi xs.length] [] from ⟨rfl, rfl⟩)) 1 rfl (by simp)
      obtain ⟨H3, F3, e3, s3, q3, k3, l3, _⟩ := (hF2.keep kl).putX (fun G' e => by injection e with _ e; rw [← e]; exact hn) ⟨cs, hcs2⟩ (i := 0) hp (x' := [(xs.length : Int)]) (cs' := [.slice H2.length 0 1 (.k 1)]) (G' := [H2.length]) ⟨_, rfl, hrow⟩ (by simp; omega)
      simp only [Nat.zero_mul, Nat.add_zero] at e3
      simp at l3
      refine ⟨H3, e3, hR _ _ ⟨_, F3, s3, by simpa using hx, fun b hb => ?_, ((d2.keeps kl).far k3 fun j hj => by omega).mono (by omega), ((kb.trans k2).trans (kl.but _)).far k3 fun j hj _ e => by omega, by omega⟩⟩
      rcases q3 b hb with h | h
      · exact hFge b h
      · simp at h; omega
  cases b with
  | false =>
    simp [g570, e1, e2]
    refine main a h2 (N + 4) (by omega) (by omega) (d2.mono (by omega)) (k1.trans k2) (by omega) _ _ (by simp) (by simp) (by simp) (by simp) rfl fun s xs v G g0 g3 g4 ho hx hG d kb hl => ?_
    obtain ⟨t1, t2⟩ := tail s.h xs v G ho (by omega) hG d kb hl
    by_cases hp : 0 < xs.length
    · obtain ⟨q, H2, f1, f2, f3, f4⟩ := t2 hp
      have hp2 : 0 < a := by omega
      cases q with
      | false => simp [g0, g3, g4, hp2, f1]; exact f3 rfl
      | true =>
        obtain ⟨H3, f5, f6⟩ := f4 rfl
        rw [hx] at f5
        simp [g0, g3, g4, hp2, f1, f2, fillL, f5]; exact f6
    · have hp2 : ¬ 0 < a := by omega
      simp [g0, g3, g4, hp2]; exact t1 (by omega)
  | true =>
    obtain ⟨c, h3, e3, hc, d3, k3, l3⟩ := d2.pick (by omega) 2 (by decide)
    have w1 : IntKind.i64.wrap (12 + (c : Int)) = (12 + c : Nat) := by rw [IntWalk.i64_in] <;> omega
    simp [g570, e1, e2, e3, w1, -Int.natCast_add]
    refine main (12 + c) h3 (N + 6) (by omega) (by omega) (d3.mono (by omega)) ((k1.trans k2).trans k3) (by omega) _ _ (by simp) (by simp) (by simp) (by simp) rfl fun s xs v G g0 g3 g4 ho hx hG d kb hl => ?_
    obtain ⟨t1, t2⟩ := tail s.h xs v G ho (by omega) hG d kb hl
    have hp : 0 < xs.length := by omega
    obtain ⟨q, H2, f1, f2, f3, f4⟩ := t2 hp
    have hp2 : 0 < 12 + c := by omega
    cases q with
    | false => simp [g0, g3, g4, hp2, f1, -Int.natCast_add]; exact f3 rfl
    | true =>
      obtain ⟨H3, f5, f6⟩ := f4 rfl
      rw [hx] at f5
      simp [g0, g3, g4, hp2, f1, f2, fillL, f5, -Int.natCast_add]; exact f6
end GL

namespace GL
open Go

/-- what one leads to, and that does not lead back, stands ahead of it -/
theorem place_le {l : List (List Int)} (hg : linksB l = true) {a b : Int} (ha : InR l a) (r : Rch l a b) (nr : ¬ Rch l b a) : placeL (groupsL l).flatten b ≤ placeL (groupsL l).flatten a := by
  obtain ⟨h1, h2, h3⟩ := groupsL_facts hg
  have ma := (h2 a).1 ha
  obtain ⟨g, hgm, hag⟩ := List.mem_flatten.1 ma
  obtain ⟨i, hi, rfl⟩ := List.getElem_of_mem hgm
  obtain ⟨k, hk, e, hr⟩ := h3 i hi
  rw [e] at hag
  have ⟨r1, r2⟩ := (mem_groupL hg hk).1 hag
  have hb := hr b (r1.trans r)
  rw [flat_take hi, e] at hb
  have hbP : b ∈ ((groupsL l).take i).flatten := by
    rcases List.mem_append.1 hb with h | h
    · exact h
    · exact absurd (((mem_groupL hg hk).1 h).2.trans r1) nr
  have hsplit : (groupsL l).flatten = ((groupsL l).take i).flatten ++ ((groupsL l).drop i).flatten := by
    rw [← List.flatten_append, List.take_append_drop]
  have haQ : a ∈ ((groupsL l).drop i).flatten := by
    rw [List.drop_eq_getElem_cons hi, List.flatten_cons, e]
    exact List.mem_append_left _ hag
  have haP : a ∉ ((groupsL l).take i).flatten := fun h => by
    rw [hsplit, List.nodup_append] at h1
    exact h1.2.2 a h a haQ rfl
  have hb2 : b ∈ (groupsL l).flatten := by rw [hsplit]; exact List.mem_append_left _ hbP
  rw [placeL, placeL, if_pos hb2, if_pos ma, hsplit, List.idxOf_append, List.idxOf_append, if_pos hbP, if_neg haP]
  have := List.idxOf_lt_length_of_mem hbP
  omega

end GL

namespace GL
open Go

section
variable {l : List (List Int)} (hg : linksB l = true)
include hg
end

end GL

namespace GL
open Go

theorem KeepsP.low {h h1 h2 : Heap} {n : Nat} (hk : Keeps h h1) (hp : KeepsP (fun b => b < n) h1 h2) (hn : h.length ≤ n) : Keeps h h2 := Keeps.far (n := h.length) hk hp (Nat.le_refl _) fun i hi => by omega

end GL

namespace GL
open Go

end GL

namespace GL
open Go

end GL

namespace GL
open Go

theorem srtI_ris (xs : List Int) (lo hi : Int) : risB lo hi (srtI xs) = decide ((∀ x ∈ xs, lo ≤ x ∧ x ≤ hi) ∧ xs.Nodup) := by
  unfold risB
  have hp := srtI_perm xs
  congr 1
  refine propext ⟨fun ⟨h1, h2⟩ => ⟨fun x hx => h1 x (hp.mem_iff.2 hx), hp.nodup_iff.1 (h2.imp fun h => by omega)⟩, fun ⟨h1, h2⟩ => ⟨fun x hx => h1 x (hp.mem_iff.1 hx), sorted_nodup (srtI_le xs) (hp.nodup_iff.2 h2)⟩⟩
/-- slices.Sorted(slices.Values(v)) -/
theorem sorted_call {h : Heap} {v : V} {xs : List Int} (hs : Sl h v xs) (hl : xs.length ≤ 2 ^ 20) :
    ∃ c h1 r h', call p 406 [v] h = some (c, h1) ∧ call p 407 [c] h1 = some (r, h') ∧ Sl h' r (srtI xs) ∧ Keeps h h' ∧ h.length ≤ h'.length := by
  have hv : v = .nils ∨ ∃ b o n c, v = .slice b o n c := by
    rcases hs.2 with ⟨rfl, _⟩ | ⟨b, o, c, rfl, _⟩
    · exact .inl rfl
    · exact .inr ⟨_, _, _, _, rfl⟩
  have k0 : Keeps h (h ++ [⟨.own, [v]⟩]) := Keeps.append _ _
  have hb : (h ++ [⟨.own, [v]⟩])[h.length]? = some ⟨.own, [v]⟩ := get_last _ _
  have r0 : rdH (h ++ [⟨.own, [v]⟩]) h.length 0 1 = some [v] := by rw [rdH_at hb (by simp)]; rfl
  have hr := (hs.keeps k0).rdS xs.length (Nat.le_refl _)
  rw [List.take_length, flats_ints] at hr
  have e2 := sortedE_eq r0 hs.len (by omega) hr
  refine ⟨_, _, (sortedR xs (h ++ [⟨.own, [v]⟩])).1, (sortedR xs (h ++ [⟨.own, [v]⟩])).2, by rw [call_ext (e := valuesE) rfl]; exact valuesE_eq h hv, by rw [call_ext (e := sortedE) rfl]; exact e2, ?_⟩
  unfold sortedR
  by_cases h0 : xs = []
  · rw [if_pos h0]; subst h0
    exact ⟨by simpa [srtI] using Sl.nil, k0, by simp⟩
  · rw [if_neg h0]
    refine ⟨?_, k0.trans (Keeps.append _ _), by simp⟩
    exact Sl.lit (srtI xs) xs.length (srtI_length xs).symm _ (flats_ints _).symm _ (by rw [srtI_length]; omega)
theorem cut_take {cs xs : List V} {off n m : Nat} (e : cut cs off n = some xs) (hm : m ≤ n) : cut cs off m = some (xs.take m) := by
  unfold cut at e ⊢
  split at e
  case isFalse => cases e
  injection e with e
  subst e
  rw [if_pos (by omega), List.take_take, Nat.min_eq_left hm]
theorem SdF.pre {h : Heap} {v : V} {xs : List Int} {F : List Nat} (hs : SdF h v xs F) {i : Nat} (hi : i ≤ xs.length) : ∃ u F', slcV 1 v none (some i) none = some u ∧ SdF h u (xs.take i) F' ∧ ∀ b ∈ F', b ∈ F := by
  have hbd := hs.bd
  rcases hs with ⟨hb, ⟨rfl, rfl, rfl⟩ | ⟨b, off, cap, rfl, hc, hs⟩⟩
  · simp at hi; subst hi
    exact ⟨.nils, [], rfl, .nil, by simp⟩
  · have s2 : ∃ cap2, slcV 1 (.slice b off xs.length cap) none (some i) none = some (.slice b off i cap2) ∧ capW 1 i cap2 := by
      cases cap with
      | k c =>
        have hc' : xs.length ≤ c := hc
        refine ⟨.k c, ?_, Nat.le_trans hi hc'⟩
        simp only [slcV, Option.getD_none, Option.getD_some]
        rw [if_pos ⟨by omega, by omega, by omega⟩]
        simp
      | o k =>
        have hc' : k = 1 := hc
        subst hc'
        refine ⟨.o 1, ?_, rfl⟩
        simp only [slcV, Option.getD_none, Option.getD_some]
        rw [if_pos ⟨trivial, by omega, by omega⟩]
        simp
    obtain ⟨cap2, e, c2⟩ := s2
    have hl : (xs.take i).length = i := by simp; omega
    rcases hs with ⟨rfl, rfl⟩ | ⟨blk, cs, G, rfl, h1, h2, h3, h4⟩
    · simp at hi; subst hi
      exact ⟨_, [], e, ⟨by simp, .inr ⟨b, off, cap2, rfl, c2, .inl ⟨rfl, rfl⟩⟩⟩, by simp⟩
    · obtain ⟨rfl, rfl⟩ := Reps.flat.1 h4
      have h3' : cut blk.cells off (i * 1) = some (flats (xs.take i)) := by
        rw [← flats_take]
        exact cut_take h3 (show i * 1 ≤ xs.length * 1 by omega)
      refine ⟨_, [b], e, ⟨by omega, .inr ⟨b, off, cap2, by rw [hl], by rw [hl]; exact c2, .inr ⟨blk, flats (xs.take i), [], rfl, h1, h2, by rw [hl]; exact h3', Reps.flat.2 ⟨rfl, rfl⟩⟩⟩⟩, by simp⟩
def onceB (n : Int) (xs : List Int) : Bool := decide ((∀ x ∈ xs, 0 ≤ x ∧ x ≤ n - 1) ∧ xs.Nodup)
theorem areOnce_ok {h : Heap} {v : V} {xs : List Int} (hs : Sl h v xs) (hl : xs.length ≤ 2 ^ 20) (n : Int) (hn : 0 ≤ n ∧ n < 2 ^ 60) :
    ∃ r h', call p 541 [v, vi n] h = some (r, h') ∧ r = .bool (onceB n xs) ∧ Keeps h h' ∧ h.length ≤ h'.length := by
  obtain ⟨c, h1, r, h2, e1, e2, s2, k2, l2⟩ := sorted_call hs hl
  have w : IntKind.i64.wrap (n - 1) = n - 1 := by rw [IntWalk.i64_in] <;> omega
  refine go (fn := g541) rfl rfl fun R hR => ?_
  simp [g541, e1, e2, w, isRising_eq s2, srtI_ris, -Bool.decide_and]
  exact hR _ _ ⟨rfl, k2, l2⟩
theorem l14Once_eq {h : Heap} {v : V} {xs : List Int} {F : List Nat} (hd : SdF h v xs F) (n : Int) (hn : 0 ≤ n ∧ n < 2 ^ 60) : call p 539 [vi n, v] h = some (.bool (onceB n xs), h) := by
  have hs := hd.sl
  have w : IntKind.i64.wrap (n - 1) = n - 1 := by rw [IntWalk.i64_in] <;> omega
  refine go_eq (fn := g539) rfl rfl fun R hR => ?_
  simp [g539, hs.len]
  refine Wc_upM (M := [4, 5, 6, 9, 10, 11, 12, 13, 14, 15, 16, 17, 18, 19, 20, 21, 22, 23, 24, 25, 26]) rfl xs.length (fun i s => s.σ 9 = .v (vi i) ∧ s.h = h ∧ onceB n (xs.take i) = true) 0 (by simp [onceB]) fun i s ⟨g9, gh, hall⟩ hM J hJ => ?_
  by_cases hi : i < xs.length
  · have ix := hs.idx 1 .i64 i hi
    simp only [Nat.mul_one] at ix
    have ht := List.take_succ_eq_append_getElem hi
    obtain ⟨u, _, eu, su', _⟩ := hd.pre (i := i) (by omega)
    have su := su'.sl
    have eh := l1Has_eq su xs[i]
    simp only [onceB, decide_eq_true_eq] at hall
    by_cases hin : 0 ≤ xs[i] ∧ xs[i] ≤ n - 1
    · by_cases hm : xs[i] ∈ xs.take i
      · rw [decide_eq_true hm] at eh
        simp [g539_0, hM, g9, gh, hi, ix, hs.loadI, w, hin, bounds, takeB, eu, eh, -Bool.decide_and]
        have : onceB n xs = false := by
          simp only [onceB, decide_eq_false_iff_not]
          rintro ⟨_, h2⟩
          have h3 : (xs.take (i + 1)).Nodup := List.Sublist.nodup (List.take_sublist ..) h2
          rw [ht, List.nodup_append] at h3
          exact h3.2.2 _ hm _ (by simp) rfl
        rw [this] at hR; exact hR
      · rw [decide_eq_false hm] at eh
        simp [g539_0, hM, g9, gh, hi, ix, hs.loadI, w, hin, bounds, takeB, eu, eh, hs.step hi, -Bool.decide_and]
        refine hJ _ hi ⟨by simp, rfl, ?_⟩
        simp only [onceB, decide_eq_true_eq, ht]
        refine ⟨fun x hx => ?_, ?_⟩
        · rcases List.mem_append.1 hx with hx | hx
          · exact hall.1 x hx
          · simp at hx; subst hx; exact hin
        · rw [List.nodup_append]
          exact ⟨hall.2, by simp, fun a ha b hb e => by simp at hb; subst hb; subst e; exact hm ha⟩
    · simp [g539_0, hM, g9, gh, hi, ix, hs.loadI, w, hin, -Bool.decide_and]
      have : onceB n xs = false := by
        simp only [onceB, decide_eq_false_iff_not]
        exact fun h2 => hin (h2.1 _ (List.getElem_mem hi))
      rw [this] at hR; exact hR
  · rw [List.take_of_length_le (by omega)] at hall
    simp [g539_0, hM, g9, gh, hi]
    rw [hall] at hR; exact hR
end GL

namespace GL
open Go

/-- those of ds whose reach lies in ds -/
noncomputable def readyL (l : List (List Int)) (ds : List Int) : List Int := ds.filter fun n => (reachL l n).all fun x => decide (x ∈ ds)
def knownB (l : List (List Int)) (ds : List Int) : Bool := linksB l && risB 0 ((l.length : Int) - 1) ds
theorem knownB_facts {l : List (List Int)} {ds : List Int} (h : knownB l ds = true) : linksB l = true ∧ (∀ x ∈ ds, InR l x) ∧ ds.Pairwise (· < ·) ∧ ds.length ≤ 12 := by
  simp only [knownB, Bool.and_eq_true, risB, decide_eq_true_eq] at h
  have hin : ∀ x ∈ ds, InR l x := fun x hx => ⟨(h.2.1 x hx).1, by have := (h.2.1 x hx).2; omega⟩
  have := (linksB_facts h.1).1
  exact ⟨h.1, hin, h.2.2, Nat.le_trans (rising_len h.2.2 hin) this⟩
theorem areKnown_ok {h : Heap} {v w : V} {l : List (List Int)} {F : List Nat} {ds : List Int} (hs : SdF h v l F) (hd : Sl h w ds) : ∃ r h', call p 544 [v, w] h = some (r, h') ∧ r = .bool (knownB l ds) ∧ Keeps h h' ∧ h.length ≤ h'.length := by
  obtain ⟨_, h1, e1, rfl, k1, l1⟩ := GoodLinks_ok hs
  have hbd := hs.bd
  have w : IntKind.i64.wrap ((l.length : Int) - 1) = (l.length : Int) - 1 := by rw [IntWalk.i64_in] <;> omega
  refine go (fn := g544) rfl rfl fun R hR => ?_
  cases hl : linksB l with
  | false => rw [hl] at e1; simp [g544, e1]; exact hR _ _ ⟨by simp [knownB, hl], k1, l1⟩
  | true => rw [hl] at e1; simp [g544, e1, hs.len, w, isRising_eq (hd.keeps k1)]; exact hR _ _ ⟨by simp [knownB, hl], k1, l1⟩
theorem ready1_ok {h : Heap} {v w : V} {l : List (List Int)} {F : List Nat} {ds : List Int} (hs : SdF h v l F) (hd : Sl h w ds) (hg : linksB l = true) {bd bl : Nat} (h1 : h[bd]? = some ⟨.own, [w]⟩) (h2 : h[bl]? = some ⟨.own, [v]⟩) (n : Int) (hn : InR l n) :
    ∃ h', call p 571 [vi n, .ptr bd 0, .ptr bl 0] h = some (.bool (!(reachL l n).all fun x => decide (x ∈ ds)), h') ∧ Keeps h h' ∧ h.length ≤ h'.length := by
  obtain ⟨r, h3, e1, G, s1, f1, k1, l1⟩ := reach_ok hs hg n hn
  obtain ⟨_, h4, e2, rfl, k2, l2⟩ := hasAll_ok (hd.keeps k1) s1.sl
  have r1 : rdH h bd 0 1 = some [w] := by rw [rdH_at h1 (by simp)]; rfl
  have r2 : rdH h bl 0 1 = some [v] := by rw [rdH_at h2 (by simp)]; rfl
  have r3 := rdH_keep k1 r1
  obtain ⟨x, h', e, hx, hk, hl⟩ : ∃ r h', call p 571 [vi n, .ptr bd 0, .ptr bl 0] h = some (r, h') ∧ r = .bool (!(reachL l n).all fun x => decide (x ∈ ds)) ∧ Keeps h h' ∧ h.length ≤ h'.length := by
    refine go (fn := g571) rfl rfl fun R hR => ?_
    simp [g571, r1, r2, r3, e1, e2, stable]
    exact hR _ _ ⟨rfl, k1.trans k2, by omega⟩
  exact ⟨h', by rw [e, hx], hk, hl⟩
theorem ready_ok {h : Heap} {v w : V} {l : List (List Int)} {F : List Nat} {ds : List Int} (hs : SdF h v l F) (hd : Sl h w ds) (hg : linksB l = true) (hin : ∀ x ∈ ds, InR l x) (hl : ds.length ≤ 2 ^ 20) :
    ∃ r h', call p 549 [v, w] h = some (r, h') ∧ ∃ G, SdF h' r (readyL l ds) G ∧ Fresh h.length h' G ∧ Keeps h h' ∧ h.length ≤ h'.length := by
  refine go (fn := g549) rfl rfl fun R hR => ?_
  have k0 : Keeps h (h ++ [⟨.own, [v]⟩]) := Keeps.append _ _
  have k1 : Keeps (h ++ [⟨.own, [v]⟩]) (h ++ [⟨.own, [v]⟩, ⟨.own, [w]⟩]) := by
    have := Keeps.append (h ++ [⟨.own, [v]⟩]) [⟨.own, [w]⟩]
    simpa using this
  generalize hh : h ++ [⟨.own, [v]⟩, ⟨.own, [w]⟩] = H at k1
  have hb1 : H[h.length]? = some ⟨.own, [v]⟩ := k1 _ _ (get_last _ _) (by simp)
  have hb2 : H[h.length + 1]? = some ⟨.own, [w]⟩ := by
    rw [← hh]; simp
  have hHl : H.length = h.length + 2 := by rw [← hh]; simp
  have r2 : rdH H (h.length + 1) 0 1 = some [w] := by rw [rdH_at hb2 (by simp)]; rfl
  have k01 := k0.trans k1
  obtain ⟨c, h1, e1, F1, c1, f1, kc, lc⟩ := cloneI_ok (hd.keeps k01) hl
  have nF : ∀ b ∈ F1, ¬ b < h.length + 2 := fun b hb e => by have := f1.ge b hb; omega
  obtain ⟨r, h2, e2, G, p1, p2, p3, p4⟩ := deleteIg_ok c1 f1 (f := 571) (capt := [.ptr (h.length + 1) 0, .ptr h.length 0]) (q := fun n => !(reachL l n).all fun x => decide (x ∈ ds)) fun h' hk hl' n hn => by
    have hkk : Keeps H h' := Keeps.far (n := h.length + 2) kc hk (by omega) fun i hi hm => nF _ hm hi
    exact ready1_ok (hs.keep (k01.trans hkk)) (hd.keeps (k01.trans hkk)) hg (hkk _ _ hb2 (by simp)) (hkk _ _ hb1 (by simp)) n (hin n hn)
  have hf : (ds.filter fun n => !(!(reachL l n).all fun x => decide (x ∈ ds))) = readyL l ds := by unfold readyL; congr 1; funext n; simp
  rw [hf] at p1
  simp [g549, hs.cells, hs.cell, hd.cells, hd.cell, fillL, hh, r2, e1, e2]
  exact hR _ _ ⟨G, p1, p2.mono (by omega), Keeps.far (n := h.length + 2) (k01.trans kc) p3 (by omega) fun i hi hm => nF _ hm hi, by omega⟩
theorem ReadyOf_ok {h : Heap} {v w : V} {l : List (List Int)} {F : List Nat} {ds : List Int} (hs : SdF h v l F) (hd : Sl h w ds) :
    ∃ r h', call p 489 [v, w] h = some (r, h') ∧ ∃ o G, r = .tup [o, .bool (knownB l ds)] ∧ SdF h' o (if knownB l ds = true then readyL l ds else []) G ∧ Keeps h h' ∧ h.length ≤ h'.length := by
  obtain ⟨_, h1, e1, rfl, k1, l1⟩ := areKnown_ok hs hd
  refine go (fn := g489) rfl rfl fun R hR => ?_
  cases hk : knownB l ds with
  | false => rw [hk] at e1; simp [g489, e1]; exact hR _ _ ⟨.nils, [], by rw [hk], by simp [hk]; exact .nil, k1, l1⟩
  | true =>
    rw [hk] at e1
    obtain ⟨hg, hin, _, hl⟩ := knownB_facts hk
    obtain ⟨r, h2, e2, G, s2, _, k2, l2⟩ := ready_ok (hs.keep k1) (hd.keeps k1) hg hin (by omega)
    simp [g489, e1, e2]
    exact hR _ _ ⟨r, G, by rw [hk], by simpa [hk] using s2, k1.trans k2, by omega⟩

theorem l5Sub_eq {h : Heap} {v w : V} {as bs : List Int} (ha : Sl h v as) (hb : Sl h w bs) : call p 554 [v, w] h = some (.bool (as.all fun x => decide (x ∈ bs)), h) := by
  refine go_eq (fn := g554) rfl rfl fun R hR => ?_
  simp [g554, ha.len]
  refine Wc_upM (M := [4, 6, 9, 10, 11, 12, 13, 14, 15, 16, 17]) rfl as.length (fun i s => s.σ 9 = .v (vi i) ∧ s.h = h ∧ ∀ x ∈ as.take i, decide (x ∈ bs) = true) 0 (by simp) fun i s ⟨g9, gh, hall⟩ hM J hJ => ?_
  by_cases hi : i < as.length
  · have ix := ha.idx 1 .i64 i hi
    simp only [Nat.mul_one] at ix
    have e := l1Has_eq hb as[i]
    by_cases hm : as[i] ∈ bs
    · rw [decide_eq_true hm] at e
      simp [g554_0, hM, g9, gh, hi, ix, ha.loadI, e, ha.step hi]
      exact hJ _ hi ⟨by simp, rfl, (all_take_succ (P := fun x => decide (x ∈ bs) = true) hi).2 ⟨hall, decide_eq_true hm⟩⟩
    · rw [decide_eq_false hm] at e
      simp [g554_0, hM, g9, gh, hi, ix, ha.loadI, e]
      have : (as.all fun x => decide (x ∈ bs)) = false := List.all_eq_false.2 ⟨_, List.getElem_mem hi, by simp [hm]⟩
      rw [this] at hR; exact hR
  · rw [List.take_of_length_le (by omega)] at hall
    have : (as.all fun x => decide (x ∈ bs)) = true := List.all_eq_true.2 hall
    rw [this] at hR
    simp [g554_0, hM, g9, gh, hi]; exact hR
theorem l14Ready_ok {h : Heap} {v w : V} {l : List (List Int)} {F : List Nat} {ds : List Int} (hs : SdF h v l F) (hd : Sl h w ds) (hg : linksB l = true) (hin : ∀ x ∈ ds, InR l x) (hl : ds.length ≤ 2 ^ 20) :
    ∃ r h', call p 551 [v, w] h = some (r, h') ∧ Out h.length h' r (readyL l ds) ∧ Keeps h h' ∧ h.length ≤ h'.length := by
  refine go (fn := g551) rfl rfl fun R hR => ?_
  simp [g551, hd.len]
  refine Wc_upM (M := [5, 7, 10, 11, 12, 13, 14, 15, 16, 17, 18, 19, 20, 21, 22, 23]) rfl ds.length (fun i s => s.σ 10 = .v (vi i) ∧ ∃ v5, s.σ 5 = .v v5 ∧ Out h.length s.h v5 (((ds.take i)).filter fun n => (reachL l n).all fun x => decide (x ∈ ds)) ∧ Keeps h s.h ∧ h.length ≤ s.h.length) 0
    ⟨by simp, .nils, by simp, by simpa using Out.nil (Nat.le_refl _), Keeps.refl _, Nat.le_refl _⟩ fun i s ⟨g10, v5, g5, ho, hk, hln⟩ hM J hJ => ?_
  by_cases hn : i < ds.length
  · have hd' := hd.keeps hk
    have ht := List.take_succ_eq_append_getElem hn
    obtain ⟨r2, h2, e2, G2, s2, k2, l2⟩ := l9Reach_ok (hs.keep hk) hg ds[i] (hin _ (List.getElem_mem hn))
    have e3 := l5Sub_eq s2.sl (hd'.keeps k2)
    have ij := hd.idx 1 .i64 i hn
    simp only [Nat.mul_one] at ij
    have ho2 : Out h.length h2 v5 _ := ho.keeps (k2.p fun _ => True) (fun _ _ => trivial) l2
    cases hm : (reachL l ds[i]).all fun x => decide (x ∈ ds) with
    | false =>
      rw [hm] at e3
      simp [g551_0, hM, g10, g5, hn, ij, hd'.loadI, e2, e3, hd.step hn]
      refine hJ _ hn ⟨by simp, v5, by simp [g5], ?_, hk.trans k2, by show h.length ≤ h2.length; omega⟩
      rw [ht, List.filter_append, List.filter_cons, hm]; simpa using ho2
    | true =>
      rw [hm] at e3
      have hle : ((ds.take i).filter fun n => (reachL l n).all fun x => decide (x ∈ ds)).length ≤ 2 ^ 20 := Nat.le_trans (List.length_filter_le ..) (by simp; omega)
      obtain ⟨v6, h3, e4, o3, k3, l3⟩ := ho2.one ds[i] hle
      simp [g551_0, hM, g10, g5, hn, ij, hd'.loadI, e2, e3, fillL, rdS_last, e4, hd.step hn]
      refine hJ _ hn ⟨by simp, v6, by simp, ?_, ho2.far (hk.trans k2) k3 (Nat.le_refl _), by show h.length ≤ h3.length; omega⟩
      rw [ht, List.filter_append, List.filter_cons, hm]; simpa using o3
  · rw [List.take_of_length_le (by omega)] at ho
    simp [g551_0, hM, g10, g5, hn]
    exact hR _ _ ⟨ho, hk, hln⟩
end GL

namespace GL
open Go

noncomputable def nextL (l : List (List Int)) (ds c : List Int) : List Int := ((groupsL l).flatten.filter fun n => decide (n ∈ readyL l ds)).filter fun n => !decide (n ∈ c)
theorem nextDone_ok {h : Heap} {v w u : V} {l : List (List Int)} {F : List Nat} {ds c : List Int} (hs : SdF h v l F) (hd : Sl h w ds) (hc : Sl h u c) (hg : linksB l = true) (hin : ∀ x ∈ ds, InR l x) (hl : ds.length ≤ 2 ^ 20) :
    ∃ r h', call p 553 [v, w, u] h = some (r, h') ∧ Sl h' r (nextL l ds c) ∧ Keeps h h' ∧ h.length ≤ h'.length := by
  obtain ⟨l12, _⟩ := linksB_facts hg
  obtain ⟨r1, h1, e1, G1, s1, k1, l1⟩ := groups_ok hs hg
  obtain ⟨r2, h2, e2, G2, s2, _, k2, l2⟩ := concat_ok s1 (by rw [groupsL_flat hg]; omega)
  obtain ⟨r3, h3, e3, G3, s3, _, k3, l3⟩ := ready_ok (hs.keep (k1.trans k2)) (hd.keeps (k1.trans k2)) hg hin hl
  obtain ⟨r4, h4, e4, G4, s4, _, k4, l4⟩ := both_ok (s2.keep k3).sl s3.sl (by rw [groupsL_flat hg]; omega)
  have hle : ((groupsL l).flatten.filter fun n => decide (n ∈ readyL l ds)).length ≤ 2 ^ 20 := Nat.le_trans (List.length_filter_le ..) (by rw [groupsL_flat hg]; omega)
  have k14 := ((k1.trans k2).trans k3).trans k4
  obtain ⟨r5, h5, e5, G5, s5, _, k5, l5⟩ := without_ok s4.sl (hc.keeps k14) hle
  refine go (fn := g553) rfl rfl fun R hR => ?_
  simp [g553, e1, e2, e3, e4, e5]
  exact hR _ _ ⟨s5.sl, k14.trans k5, by omega⟩
theorem l14Order_ok {h : Heap} {v : V} {l : List (List Int)} {F : List Nat} (hs : SdF h v l F) (hl : linksB l = true) :
    ∃ r h', call p 573 [v] h = some (r, h') ∧ Sl h' r (groupsL l).flatten ∧ Keeps h h' ∧ h.length ≤ h'.length := by
  obtain ⟨l12, _⟩ := linksB_facts hl
  obtain ⟨r, h2, e2, G, s2, k2, l2⟩ := l9Groups_ok hs hl
  have hfl := groupsL_flat hl
  refine go (fn := g573) rfl rfl fun R hR => ?_
  simp [g573, e2, s2.len]
  refine Wc_upM (M := [3, 5, 9, 10, 11, 12, 13, 14, 15, 16]) rfl (groupsL l).length (fun i s => s.σ 9 = .v (vi i) ∧ ∃ v4, s.σ 3 = .v v4 ∧ Out h2.length s.h v4 ((groupsL l).take i).flatten ∧ Keeps h2 s.h ∧ h2.length ≤ s.h.length) 0
    ⟨by simp, .nils, by simp, by simpa using Out.nil (Nat.le_refl _), Keeps.refl _, Nat.le_refl _⟩ fun i s ⟨g9, v4, g3, ho, hk, hln⟩ hM J hJ => ?_
  by_cases hn : i < (groupsL l).length
  · obtain ⟨x, F2, ex, hx, _⟩ := (s2.keep hk).loadL i hn
    have hle := flat_le (groupsL l) i
    have hle2 := flat_le (groupsL l) (i + 1)
    have ht := flat_take hn
    rw [ht, List.length_append] at hle2
    obtain ⟨ys, v5, h3, e3, e4, o3, k3, l3⟩ := ho.appS hx.sl (bytes := 8) (by decide) (by omega) (k := 1) rfl (n := (groupsL l)[i].length) rfl
    have ix := s2.idx 1 .i64 i hn
    simp only [Nat.mul_one] at ix
    simp [g573_0, hM, g9, g3, hn, ix, ex, hx.len, e3, e4, s2.step hn]
    exact hJ _ hn ⟨by simp, v5, by simp, by rw [ht]; exact o3, ho.far hk k3 (Nat.le_refl _), by show h2.length ≤ h3.length; omega⟩
  · rw [List.take_of_length_le (by omega)] at ho
    simp [g573_0, hM, g9, g3, hn]
    exact hR _ _ ⟨ho.sl, k2.trans hk, by omega⟩
theorem l14Next_ok {h : Heap} {v w u : V} {l : List (List Int)} {F : List Nat} {ds c : List Int} (hs : SdF h v l F) (hd : Sl h w ds) (hc : Sl h u c) (hg : linksB l = true) (hin : ∀ x ∈ ds, InR l x) (hl : ds.length ≤ 2 ^ 20) :
    ∃ r h', call p 555 [v, w, u] h = some (r, h') ∧ Sl h' r (nextL l ds c) ∧ Keeps h h' ∧ h.length ≤ h'.length := by
  obtain ⟨l12, _⟩ := linksB_facts hg
  obtain ⟨r1, h1, e1, s1, k1, l1⟩ := l14Ready_ok hs hd hg hin hl
  obtain ⟨r2, h2, e2, s2, k2, l2⟩ := l14Order_ok (hs.keep k1) hg
  have hfl := groupsL_flat hg
  have k12 := k1.trans k2
  have hr2 := s1.sl.keeps k2
  have hc2 := hc.keeps k12
  unfold nextL
  generalize (groupsL l).flatten = ord at s2 hfl ⊢
  refine go (fn := g555) rfl rfl fun R hR => ?_
  simp [g555, e1, e2, s2.len]
  refine Wc_upM (M := [8, 10, 17, 18, 19, 20, 21, 22, 23, 24, 25, 26, 27, 28, 29, 30, 31, 32, 33, 34]) rfl ord.length (fun i s => s.σ 17 = .v (vi i) ∧ ∃ v5, s.σ 8 = .v v5 ∧ Out h2.length s.h v5 (((ord.take i).filter fun n => decide (n ∈ readyL l ds)).filter fun n => !decide (n ∈ c)) ∧ Keeps h2 s.h ∧ h2.length ≤ s.h.length) 0
    ⟨by simp, .nils, by simp, by simpa using Out.nil (Nat.le_refl _), Keeps.refl _, Nat.le_refl _⟩ fun i s ⟨g17, v5, g8, ho, hk, hln⟩ hM J hJ => ?_
  by_cases hn : i < ord.length
  · have s2' := s2.keeps hk
    have ht := List.take_succ_eq_append_getElem hn
    have e3 := l1Has_eq (hr2.keeps hk) ord[i]
    have e4 := l1Has_eq (hc2.keeps hk) ord[i]
    have ij := s2.idx 1 .i64 i hn
    have ld := s2'.loadI i hn
    simp only [Nat.mul_one] at ij
    have st := s2.step hn
    generalize hx : ord[i] = x at *
    by_cases hm : x ∈ readyL l ds
    · rw [decide_eq_true hm] at e3
      by_cases hm2 : x ∈ c
      · rw [decide_eq_true hm2] at e4
        simp [g555_0, hM, g17, g8, hn, ij, ld, e3, e4, st]
        refine hJ _ hn ⟨by simp, v5, by simp [g8], ?_, hk, hln⟩
        rw [ht, List.filter_append, List.filter_append]; simpa [hm, hm2] using ho
      · rw [decide_eq_false hm2] at e4
        have hle : (((ord.take i).filter fun n => decide (n ∈ readyL l ds)).filter fun n => !decide (n ∈ c)).length ≤ 2 ^ 20 := Nat.le_trans (List.length_filter_le ..) (Nat.le_trans (List.length_filter_le ..) (by rw [List.length_take]; omega))
        obtain ⟨v6, h3, e5, o3, k3, l3⟩ := ho.one x hle
        simp [g555_0, hM, g17, g8, hn, ij, ld, e3, e4, fillL, rdS_last, e5, st]
        refine hJ _ hn ⟨by simp, v6, by simp, ?_, ho.far hk k3 (Nat.le_refl _), by show h2.length ≤ h3.length; omega⟩
        rw [ht, List.filter_append, List.filter_append]; simpa [hm, hm2] using o3
    · rw [decide_eq_false hm] at e3
      simp [g555_0, hM, g17, g8, hn, ij, ld, e3, st]
      refine hJ _ hn ⟨by simp, v5, by simp [g8], ?_, hk, hln⟩
      rw [ht, List.filter_append, List.filter_append]; simpa [hm] using ho
  · rw [List.take_of_length_le (by omega)] at ho
    simp [g555_0, hM, g17, g8, hn]
    exact hR _ _ ⟨ho.sl, k12.trans hk, by omega⟩

end GL

namespace GL
open Go

end GL

namespace GL
open Go

/-! deeds -/
structure Dd where
  key : Int
  wr : Bool
instance : Flat Dd := ⟨2, fun d => [vi d.key, .bool d.wr], fun _ => rfl, fun _ => rfl, by decide⟩
end GL

namespace GL
open Go

end GL

namespace GL
open Go

/-! a log that was heard: the places, the deeds, and what each place heard, in order -/
structure Hd where
  no : Int
  deeds : List Dd
  rows : List (List Int)
instance hdData : Data Hd where
  sz := 3
  pos := by decide
  rep := fun h c cs F => ∃ x y F1 F2, cs = [vi c.no, x, y] ∧ F = F1 ++ F2 ∧ SdF h x c.deeds F1 ∧ SdF h y c.rows F2
  len := by rintro h a cs F ⟨x, y, F1, F2, rfl, _⟩; rfl
  ok := by rintro h a cs F ⟨x, y, F1, F2, rfl, _, h1, h2⟩; simp [allCell, h1.cell, h2.cell, cell_int]
  keeps := by
    rintro h h' a cs F ⟨x, y, F1, F2, rfl, rfl, h1, h2⟩ hk
    exact ⟨x, y, F1, F2, rfl, rfl, h1.keeps (hk.mono fun b hb => List.mem_append_left _ hb), h2.keeps (hk.mono fun b hb => List.mem_append_right _ hb)⟩
  lt := by
    rintro h a cs F b ⟨x, y, F1, F2, rfl, rfl, h1, h2⟩ hb
    rcases List.mem_append.1 hb with hb | hb
    · exact h1.lt hb
    · exact h2.lt hb
def HdV (h : Heap) (v : V) (c : Hd) (F : List Nat) : Prop := ∃ x y F1 F2, v = .agg [vi c.no, x, y] ∧ F = F1 ++ F2 ∧ SdF h x c.deeds F1 ∧ SdF h y c.rows F2
section
variable {h h' : Heap} {v w : V} {c : Hd} {F G : List Nat}
theorem HdV.keeps (hc : HdV h v c F) (hk : KeepsP (fun b => b ∈ F) h h') : HdV h' v c F := by
  obtain ⟨x, y, F1, F2, rfl, rfl, h1, h2⟩ := hc
  exact ⟨x, y, F1, F2, rfl, rfl, h1.keeps (hk.mono fun b hb => List.mem_append_left _ hb), h2.keeps (hk.mono fun b hb => List.mem_append_right _ hb)⟩
theorem HdV.keep (hc : HdV h v c F) (hk : Keeps h h') : HdV h' v c F := hc.keeps (hk.p _)
theorem HdV.lt (hc : HdV h v c F) {b : Nat} (hb : b ∈ F) : b < h.length := by
  obtain ⟨x, y, F1, F2, rfl, rfl, h1, h2⟩ := hc
  rcases List.mem_append.1 hb with hb | hb
  · obtain ⟨_, h3, _⟩ := h1.lt hb; exact get_lt h3
  · obtain ⟨_, h3, _⟩ := h2.lt hb; exact get_lt h3
end

theorem sub_len : ∀ {l m : List Int}, l.Nodup → (∀ x ∈ l, x ∈ m) → l.length ≤ m.length
  | [], m, _, _ => by simp
  | a :: l, m, hn, hs => by
    have h1 := List.nodup_cons.1 hn
    have ham := hs a (by simp)
    have := sub_len (l := l) (m := m.erase a) h1.2 fun x hx => (List.mem_erase_of_ne (fun e => h1.1 (by rw [← e]; exact hx))).2 (hs x (by simp [hx]))
    rw [List.length_erase_of_mem ham] at this
    have : 0 < m.length := List.length_pos_of_mem ham
    simp; omega
end GL

namespace GL
open Go

end GL

namespace GL
open Go

end GL

namespace GL
open Go

end GL

namespace GL
open Go

def Dd.of (p : Int × Bool) : Dd := ⟨p.1, p.2⟩
def Hd.of (p : Int × List Dd × List (List Int)) : Hd := ⟨p.1, p.2.1, p.2.2⟩
end GL

namespace GL
open Go

end GL

namespace GL
open Go

end GL

namespace GL
open Go

end GL

namespace GL
open Go

end GL

namespace GL
open Go

theorem Od.one {α : Type} [Data α] {lo : Nat} {h h1 : Heap} {v : V} {xs : List α} {G G' : List Nat} (od : Od lo h v xs G) (k1 : Keeps h h1) (l1 : h.length ≤ h1.length) (hG : ∀ b ∈ G', h.length ≤ b) {x : α} {cs : List V} (hr : Data.rep h1 x cs G') (hx : xs.length ≤ 2 ^ 20) {k bytes : Nat} (hk : k = Data.sz α) (hb : bytes ≤ 2 ^ 8) :
    ∃ v' h2, appH k bytes v 1 cs (h1 ++ [⟨.own, cs⟩]) = some (v', h2) ∧ Od lo h2 v' (xs ++ [x]) (G ++ G') ∧ (∀ h0 : Heap, Keeps h0 h → h0.length ≤ lo → Keeps h0 h2) ∧ h1.length < h2.length := by
  have hge := fun i (hi : vB v i) => od.ge hi
  have kl : Keeps h1 (h1 ++ [⟨.own, cs⟩]) := Keeps.append h1 _
  have od1 : Od lo (h1 ++ [⟨.own, cs⟩]) v xs G := od.keeps ((k1.trans kl).p fun _ => True) (fun _ _ => trivial) (fun _ _ => trivial) (by simp; omega)
  have hnv : ∀ b ∈ G', ¬ vB v b := fun b hb hv => by have := (hge b hv).2; have := hG b hb; omega
  obtain ⟨v', h2, e, o2, kp, l2, b2⟩ := od1.app (zs := [x]) (G := G') (by simp) (.one (Data.keeps hr (kl.p _))) hnv hb (by simp; omega) hk rfl
  have k2 : KeepsP (fun i => ¬ vB v i) h1 h2 := fun i blk hi h3 h4 => kp i blk hi (kl i blk h3 h4) h4
  exact ⟨v', h2, e, o2, fun h0 hk0 hl0 => Keeps.far (n := lo) (hk0.trans k1) k2 hl0 fun i hi hv => by have := (hge i hv).1; omega, by simp at l2; omega⟩

/-! a house: a heard log, and a group for each of its deeds -/
structure Hs where
  heard : Hd
  groups : List (List Int)
instance hsData : Data Hs where
  sz := 4
  pos := by decide
  rep := fun h c cs F => ∃ x y z F1 F2 F3, cs = [vi c.heard.no, x, y, z] ∧ F = F1 ++ F2 ++ F3 ∧ SdF h x c.heard.deeds F1 ∧ SdF h y c.heard.rows F2 ∧ SdF h z c.groups F3
  len := by rintro h a cs F ⟨x, y, z, F1, F2, F3, rfl, _⟩; rfl
  ok := by rintro h a cs F ⟨x, y, z, F1, F2, F3, rfl, _, h1, h2, h3⟩; simp [allCell, h1.cell, h2.cell, h3.cell, cell_int]
  keeps := by
    rintro h h' a cs F ⟨x, y, z, F1, F2, F3, rfl, rfl, h1, h2, h3⟩ hk
    exact ⟨x, y, z, F1, F2, F3, rfl, rfl, h1.keeps (hk.mono fun b hb => by simp [hb]), h2.keeps (hk.mono fun b hb => by simp [hb]), h3.keeps (hk.mono fun b hb => by simp [hb])⟩
  lt := by
    rintro h a cs F b ⟨x, y, z, F1, F2, F3, rfl, rfl, h1, h2, h3⟩ hb
    rcases List.mem_append.1 hb with hb | hb
    · rcases List.mem_append.1 hb with hb | hb
      · exact h1.lt hb
      · exact h2.lt hb
    · exact h3.lt hb
def HsV (h : Heap) (v : V) (c : Hs) (F : List Nat) : Prop := ∃ x y z F1 F2 F3, v = .agg [vi c.heard.no, x, y, z] ∧ F = F1 ++ F2 ++ F3 ∧ SdF h x c.heard.deeds F1 ∧ SdF h y c.heard.rows F2 ∧ SdF h z c.groups F3
section
variable {h h' : Heap} {v w : V} {c : Hs} {F G : List Nat}
theorem HsV.keeps (hc : HsV h v c F) (hk : KeepsP (fun b => b ∈ F) h h') : HsV h' v c F := by
  obtain ⟨x, y, z, F1, F2, F3, rfl, rfl, h1, h2, h3⟩ := hc
  exact ⟨x, y, z, F1, F2, F3, rfl, rfl, h1.keeps (hk.mono fun b hb => by simp [hb]), h2.keeps (hk.mono fun b hb => by simp [hb]), h3.keeps (hk.mono fun b hb => by simp [hb])⟩
theorem HsV.keep (hc : HsV h v c F) (hk : Keeps h h') : HsV h' v c F := hc.keeps (hk.p _)
theorem HsV.lt (hc : HsV h v c F) {b : Nat} (hb : b ∈ F) : b < h.length := by
  obtain ⟨x, y, z, F1, F2, F3, rfl, rfl, h1, h2, h3⟩ := hc
  rcases List.mem_append.1 hb with hb | hb
  · rcases List.mem_append.1 hb with hb | hb
    · obtain ⟨_, h3, _⟩ := h1.lt hb; exact get_lt h3
    · obtain ⟨_, h3, _⟩ := h2.lt hb; exact get_lt h3
  · obtain ⟨_, h4, _⟩ := h3.lt hb; exact get_lt h4
end
def Hs.of (p : Hd × List (List Int)) : Hs := ⟨p.1, p.2⟩
end GL

namespace GL
open Go

theorem SdF.ltF {α : Type} [Data α] {h : Heap} {v : V} {xs : List α} {F : List Nat} (hs : SdF h v xs F) {b : Nat} (hb : b ∈ F) : b < h.length := by
  obtain ⟨_, h9, _⟩ := hs.lt hb; exact get_lt h9
end GL

namespace GL
open Go

end GL

namespace GL
open Go

/-! what comes of deeds that are done in an order -/
structure Oc where
  order : List Int
  keys : List Int
  seen : List Int
end GL

namespace GL
open Go

def OcV (h : Heap) (v : V) (c : Oc) (F : List Nat) : Prop := ∃ x y z F1 F2 F3, v = .agg [x, y, z] ∧ F = F1 ++ F2 ++ F3 ∧ SdF h x c.order F1 ∧ SdF h y c.keys F2 ∧ SdF h z c.seen F3
end GL

namespace GL
open Go

end GL

namespace GL
open Go

section
variable {h h' : Heap} {v w : V} {c : Oc} {F G : List Nat}
theorem OcV.keeps (hc : OcV h v c F) (hk : KeepsP (fun b => b ∈ F) h h') : OcV h' v c F := by
  obtain ⟨x, y, z, F1, F2, F3, rfl, rfl, h1, h2, h3⟩ := hc
  exact ⟨x, y, z, F1, F2, F3, rfl, rfl, h1.keeps (hk.mono fun b hb => by simp [hb]), h2.keeps (hk.mono fun b hb => by simp [hb]), h3.keeps (hk.mono fun b hb => by simp [hb])⟩
theorem OcV.keep (hc : OcV h v c F) (hk : Keeps h h') : OcV h' v c F := hc.keeps (hk.p _)
theorem OcV.lt (hc : OcV h v c F) {b : Nat} (hb : b ∈ F) : b < h.length := by
  obtain ⟨x, y, z, F1, F2, F3, rfl, rfl, h1, h2, h3⟩ := hc
  rcases List.mem_append.1 hb with hb | hb
  · rcases List.mem_append.1 hb with hb | hb
    · exact h1.ltF hb
    · exact h2.ltF hb
  · exact h3.ltF hb
end
end GL

namespace GL
open Go

end GL

namespace GL
open Go

theorem cut_drop {cs xs : List V} {off n m : Nat} (e : cut cs off n = some xs) (hm : m ≤ n) : cut cs (off + m) (n - m) = some (xs.drop m) := by
  unfold cut at e ⊢
  split at e
  case isFalse => cases e
  injection e with e
  subst e
  rw [if_pos (by omega), List.drop_take, List.drop_drop]
theorem SdF.suf {h : Heap} {v : V} {xs : List Int} {F : List Nat} (hs : SdF h v xs F) {i : Nat} (hi : i ≤ xs.length) : ∃ u F', slcV 1 v (some i) none none = some u ∧ SdF h u (xs.drop i) F' ∧ ∀ b ∈ F', b ∈ F := by
  have hbd := hs.bd
  rcases hs with ⟨hb, ⟨rfl, rfl, rfl⟩ | ⟨b, off, cap, rfl, hc, hs⟩⟩
  · simp at hi; subst hi
    exact ⟨.nils, [], rfl, .nil, by simp⟩
  · have hl : (xs.drop i).length = xs.length - i := by simp
    have s2 : ∃ off2 cap2, slcV 1 (.slice b off xs.length cap) (some i) none none = some (.slice b off2 (xs.length - i) cap2) ∧ capW 1 (xs.length - i) cap2 ∧ (off2 = off + i ∨ xs.length - i = 0) := by
      cases cap with
      | k c =>
        have hc' : xs.length ≤ c := hc
        refine ⟨_, .k (c - i), by simp only [slcV, Option.getD_none, Option.getD_some]; rw [if_pos ⟨hi, hc', Nat.le_refl _⟩], ?_, ?_⟩
        · show xs.length - i ≤ c - i; omega
        · by_cases hci : c = i
          · right; omega
          · left; rw [if_neg hci, Nat.mul_one]
      | o k =>
        have hc' : k = 1 := hc
        subst hc'
        refine ⟨_, .o 1, by simp only [slcV, Option.getD_none, Option.getD_some]; rw [if_pos ⟨trivial, hi, Nat.le_refl _⟩], rfl, .inl (by omega)⟩
    obtain ⟨off2, cap2, e, c2, ho⟩ := s2
    by_cases h0 : xs.length - i = 0
    · have hnil : xs.drop i = [] := List.eq_nil_of_length_eq_zero (by rw [hl]; exact h0)
      rw [hnil]
      rw [h0] at e c2
      exact ⟨_, [], e, ⟨by simp, .inr ⟨b, off2, cap2, rfl, c2, .inl ⟨rfl, rfl⟩⟩⟩, by simp⟩
    · have ho : off2 = off + i := by
        rcases ho with h | h
        · exact h
        · exact absurd h h0
      subst ho
      rcases hs with ⟨rfl, rfl⟩ | ⟨blk, cs, G, rfl, h1, h2, h3, h4⟩
      · simp at h0
      · obtain ⟨rfl, rfl⟩ := Reps.flat.1 h4
        have h3' : cut blk.cells (off + i) ((xs.length - i) * 1) = some (flats (xs.drop i)) := by
          have := cut_drop h3 (m := i) (show i ≤ xs.length * 1 by omega)
          have e2 := flats_drop xs i
          have hsz : Flat.sz Int = 1 := rfl
          rw [hsz, Nat.mul_one] at e2
          have hsz2 : Data.sz Int = 1 := rfl
          rw [hsz2, Nat.mul_one, e2] at this
          rw [Nat.mul_one]; exact this
        exact ⟨_, [b], e, ⟨by omega, .inr ⟨b, off + i, cap2, by rw [hl], by rw [hl]; exact c2, .inr ⟨blk, flats (xs.drop i), [], rfl, h1, h2, by rw [hl]; exact h3', Reps.flat.2 ⟨rfl, rfl⟩⟩⟩⟩, by simp⟩

theorem DC.shuffled {h0 h : Heap} {N : Nat} (d : DC h0 h N) (hN : N < 2 ^ 56) (n : Nat) (hn : n ≤ 20) : ∃ v h', call p 567 [.ptr h0.length 0, vi n] h = some (v, h') ∧ ∃ (xs : List Int), Out h.length h' v xs ∧ xs.length = n ∧ DC h0 h' (N + 60) ∧ KeepsBut h0.length h h' ∧ h.length ≤ h'.length := by
  have hlt := d.lt
  refine go (fn := g567) rfl rfl fun R hR => ?_
  simp [g567]
  refine Wc_upM (M := [5, 6, 7, 8, 9, 10, 11, 12, 13, 14, 15, 16, 17, 18, 19, 20, 21, 22, 23, 24, 25, 26, 27, 28, 29, 30, 31, 32]) rfl n (fun i s => i ≤ n ∧ s.σ 6 = .v (vi i) ∧ (∃ (v : V) (xs : List Int), s.σ 5 = .v v ∧ Out h.length s.h v xs ∧ xs.length = i) ∧ DC h0 s.h (N + 2 * i) ∧ KeepsBut h0.length h s.h ∧ h.length ≤ s.h.length) 0
    ⟨by omega, by simp, ⟨.nils, [], by simp, Out.nil (Nat.le_refl _), rfl⟩, by simpa using d, KeepsBut.refl _ _, Nat.le_refl _⟩ fun i s ⟨gi, g6, ⟨v, xs, g5, ho, hxl⟩, dc, kb, hl⟩ hM J hJ => ?_
  by_cases hi : i < n
  · have w1 : IntKind.i64.wrap ((i : Int) + 1) = (i + 1 : Nat) := by rw [IntWalk.i64_in] <;> omega
    obtain ⟨a, h1, e1, ha, d1, k1, l1⟩ := dc.pick (by omega) ((i + 1 : Nat) : Int) (by omega)
    have ho1 : Out h.length h1 v xs := ho.keeps k1.P (fun j hj e => by have := (ho.ge hj).1; omega) (by omega)
    obtain ⟨F, sF, fF⟩ := ho1.fr
    obtain ⟨u1, F1, eu1, su1, _⟩ := sF.pre (i := a) (by omega)
    obtain ⟨u2, F2, eu2, su2, _⟩ := sF.suf (i := a) (by omega)
    have k2 : Keeps h1 (h1 ++ [⟨.own, []⟩]) := Keeps.append _ _
    have o2 : Out h1.length (h1 ++ [⟨.own, []⟩]) (.slice h1.length 0 0 (.k 0)) ([] : List Int) := Out.empty (Nat.le_refl _) (by simp)
    have q1l : (xs.take a).length ≤ 20 := by rw [List.length_take]; omega
    have q2l : (xs.drop a).length ≤ 20 := by rw [List.length_drop]; omega
    obtain ⟨ys, v3, h3, er3, e3, o3, k3, l3⟩ := o2.appS (su1.keep k2).sl (bytes := 8) (by decide) (by simp; omega) (k := 1) rfl (n := (xs.take a).length) rfl
    have kk3 : Keeps h1 h3 := o2.far k2 k3 (Nat.le_refl _)
    obtain ⟨v4, h4, e4, o4, k4, l4⟩ := o3.one (i : Int) (by simp; omega)
    have kk4 : Keeps h1 h4 := o3.far kk3 k4 (Nat.le_refl _)
    obtain ⟨zs, v5, h5, er5, e5, o5, k5, l5⟩ := o4.appS (su2.keep kk4).sl (bytes := 8) (by decide) (by simp; omega) (k := 1) rfl (n := (xs.drop a).length) rfl
    have kk5 : Keeps h1 h5 := o4.far kk4 k5 (Nat.le_refl _)
    have hsl := ho.sl.len
    rw [hxl] at hsl
    have su1l := su1.len
    have su2l := su2.len
    generalize hq1 : (xs.take a).length = q1 at *
    generalize hq2 : (xs.drop a).length = q2 at *
    simp at l3
    have a0 : (0 : Int) ≤ a := by omega
    simp [g567_0, hM, g6, g5, hi, hsl, w1, e1, bounds, takeB, eu1, eu2, su1l, su2l, er3, e3, rdS_last, e4, er5, e5, -Int.natCast_add]
    have hfin : ([] ++ xs.take a ++ [(i : Int)] ++ xs.drop a).length = i + 1 := by
      simp only [List.nil_append, List.length_append, List.length_cons, List.length_nil, hq1, hq2]
      have : q1 + q2 = xs.length := by rw [← hq1, ← hq2, ← List.length_append, List.take_append_drop]
      omega
    exact hJ _ hi ⟨hi, by simp, ⟨v5, _, by simp, o5.mono (by omega), hfin⟩, (d1.mono (by omega)).keeps kk5, (kb.trans k1).trans (kk5.but _), by show h.length ≤ h5.length; omega⟩
  · have : i = n := by omega
    subst this
    simp [g567_0, hM, g6, g5]
    exact hR _ _ ⟨xs, ho, hxl, dc.mono (by omega), kb, hl⟩
end GL

namespace GL
open Go

end GL

namespace GL
open Go

end GL

namespace GL
open Go

end GL

namespace GL
open Go

end GL

namespace GL
open Go

theorem mem_readyL {l : List (List Int)} {ds : List Int} {n : Int} : n ∈ readyL l ds ↔ n ∈ ds ∧ ∀ x ∈ reachL l n, x ∈ ds := by
  simp [readyL, List.mem_filter]
theorem nextL_congr {l : List (List Int)} {ds ds' c : List Int} (h : ∀ x, x ∈ ds ↔ x ∈ ds') : nextL l ds c = nextL l ds' c := by
  unfold nextL
  congr 1
  apply List.filter_congr
  intro x _
  congr 1
  refine propext ?_
  rw [mem_readyL, mem_readyL, h]
  exact and_congr_right fun _ => forall_congr' fun y => imp_congr_right fun _ => h y
noncomputable def outK (l : List (List Int)) (xs : List Int) : Nat → List Int
  | 0 => []
  | k + 1 => outK l xs k ++ nextL l (xs.take (k + 1)) (outK l xs k)
theorem nextL_len {l : List (List Int)} (hg : linksB l = true) (ds c : List Int) : (nextL l ds c).length ≤ l.length := by
  have := groupsL_flat hg
  exact Nat.le_trans (List.length_filter_le ..) (Nat.le_trans (List.length_filter_le ..) (by omega))
theorem mem_nextL {l : List (List Int)} {ds c : List Int} {x : Int} : x ∈ nextL l ds c ↔ x ∈ (groupsL l).flatten ∧ x ∈ readyL l ds ∧ x ∉ c := by
  simp only [nextL, List.mem_filter, decide_eq_true_eq, Bool.not_eq_true', decide_eq_false_iff_not, and_assoc]
theorem outK_in {l : List (List Int)} (hg : linksB l = true) (xs : List Int) (k : Nat) : ∀ x ∈ outK l xs k, InR l x := by
  induction k with
  | zero => simp [outK]
  | succ k ih =>
    intro x hx
    simp only [outK, List.mem_append] at hx
    rcases hx with hx | hx
    · exact ih x hx
    · exact ((groupsL_facts hg).2.1 x).2 (mem_nextL.1 hx).1
theorem outK_nodup {l : List (List Int)} (hg : linksB l = true) (xs : List Int) (k : Nat) : (outK l xs k).Nodup := by
  induction k with
  | zero => simp [outK]
  | succ k ih =>
    simp only [outK]
    rw [List.nodup_append]
    refine ⟨ih, ?_, fun a ha b hb e => ?_⟩
    · exact List.Sublist.nodup List.filter_sublist (List.Sublist.nodup List.filter_sublist (groupsL_facts hg).1)
    · subst e; exact (mem_nextL.1 hb).2.2 ha
theorem outK_short {l : List (List Int)} (hg : linksB l = true) (xs : List Int) (k : Nat) : (outK l xs k).length ≤ l.length := nodup_len (outK_nodup hg xs k) (outK_in hg xs k)
theorem Out.appT {α : Type} [Flat α] {lo : Nat} {h : Heap} {v w : V} {xs zs : List α} (ho : Out lo h v xs) (hs : Sl h w zs) {bytes : Nat} (hb : bytes ≤ 2 ^ 8) (hl : xs.length + zs.length ≤ 2 ^ 30) {k n : Nat} (hk : k = Flat.sz α) (hn : n = zs.length) :
    ∃ ys v' h', GL.rdS h k w n = some ys ∧ appH k bytes v n ys h = some (v', h') ∧ Out lo h' v' (xs ++ zs) ∧ KeepsP (fun i => ¬ vB v i) h h' ∧ h.length ≤ h'.length ∧ ∀ i, vB v' i → vB v i ∨ h.length ≤ i := by
  subst hk; subst hn
  have e := hs.rdS zs.length (Nat.le_refl _)
  rw [List.take_length] at e
  by_cases h0 : zs.length = 0
  · have hz : zs = [] := List.length_eq_zero_iff.1 h0
    subst hz
    have := ho.sl.len
    exact ⟨_, v, h, e, by simp [appH, this], by simpa using ho, KeepsP.refl _ _, Nat.le_refl _, fun i hi => .inl hi⟩
  · obtain ⟨v', h', e1, o', k', l', b'⟩ := ho.app zs (by omega) hb hl rfl rfl rfl
    exact ⟨_, v', h', e, e1, o', k', by omega, fun i hi => .inr (by have := b' i hi; omega)⟩
theorem doneBy_ok {h : Heap} {v w : V} {l : List (List Int)} {F : List Nat} {xs : List Int} (hs : SdF h v l F) (hx : Sl h w xs) (hg : linksB l = true) (hin : ∀ x ∈ xs, InR l x) (hl : xs.length ≤ 2 ^ 10) :
    ∃ r h', call p 604 [v, w] h = some (r, h') ∧ Out h.length h' r (outK l xs xs.length) ∧ Keeps h h' ∧ h.length ≤ h'.length := by
  obtain ⟨l12, _⟩ := linksB_facts hg
  refine go (fn := g604) rfl rfl fun R hR => ?_
  simp [g604, hx.len]
  have k0 : Keeps h (h ++ [⟨.own, []⟩, ⟨.own, []⟩]) := Keeps.append _ _
  refine Wc_upM (M := [5, 6, 8, 13, 14, 15, 16, 17, 18, 19, 20, 21, 22, 23, 24, 25, 26, 27]) rfl xs.length (fun i s => i ≤ xs.length ∧ s.σ 13 = .v (vi i) ∧ (∃ (u : V) (ys : List Int) (G : List Nat), s.σ 5 = .v u ∧ SdF s.h u ys G ∧ ys.length ≤ i ∧ ∀ x, x ∈ ys ↔ x ∈ xs.take i) ∧ (∃ o, s.σ 6 = .v o ∧ Out h.length s.h o (outK l xs i)) ∧ Keeps h s.h ∧ h.length ≤ s.h.length) 0
    ⟨by omega, by simp, ⟨.slice h.length 0 0 (.k 0), [], [], by simp, ⟨by simp, .inr ⟨h.length, 0, .k 0, rfl, Nat.le_refl 0, .inl ⟨rfl, rfl⟩⟩⟩, by simp, by simp⟩, ⟨.slice (h.length + 1) 0 0 (.k 0), by simp, by simpa [outK] using Out.empty (by omega) (by simp)⟩, k0, by simp⟩ fun i s ⟨gi, g13, ⟨u, ys, G, g5, su, hyl, hm⟩, ⟨o, g6, so⟩, hk, hln⟩ hM J hJ => ?_
  by_cases hi : i < xs.length
  · have ix := hx.idx 1 .i64 i hi
    simp only [Nat.mul_one] at ix
    have ld := (hx.keeps hk).loadI i hi
    have st := hx.step hi
    have hmt : ∀ z, z ∈ xs.take (i + 1) ↔ z ∈ xs.take i ∨ z = xs[i] := fun z => mem_take_succ hi
    have k1 : Keeps s.h (s.h ++ [⟨.own, [vi xs[i]]⟩]) := Keeps.append _ _
    have sl1 := Sl.lit (h := s.h) [xs[i]] 1 rfl [vi xs[i]] rfl (.k 1) (by simp)
    obtain ⟨G1, sd1, _⟩ := Sl.sdF sl1 (Nat.le_refl 1)
    obtain ⟨w2, h2, e2, zs, G2, s2, f2, r2, m2, k2, l2⟩ := together_ok (su.keep k1) sd1 (by simp; omega)
    have k12 := k1.trans k2
    have hzm : ∀ x, x ∈ zs ↔ x ∈ xs.take (i + 1) := fun x => by rw [m2, hm, hmt]; simp
    have hzin : ∀ x ∈ zs, InR l x := fun x hx => hin x (List.mem_of_mem_take ((hzm x).1 hx))
    have hzl : zs.length ≤ i + 1 := by
      have h1 : zs.Nodup := r2.imp fun h => by omega
      have := sub_len h1 (m := xs.take (i + 1)) fun x hx => (hzm x).1 hx
      rw [List.length_take] at this; omega
    have so2 : Out h.length h2 o (outK l xs i) := so.keeps (k12.p fun _ => True) (fun _ _ => trivial) (by simp at l2; omega)
    obtain ⟨r3, h3, e3, s3, k3, l3⟩ := nextDone_ok (hs.keep (hk.trans k12)) s2.sl so2.sl hg hzin (by omega)
    have so3 : Out h.length h3 o (outK l xs i) := so2.keeps (k3.p fun _ => True) (fun _ _ => trivial) l3
    have hnl := nextL_len hg zs (outK l xs i)
    have hol := outK_short hg xs i
    obtain ⟨ys4, v4, h4, e4, e5, o4, k4, l4⟩ := so3.appS s3 (bytes := 8) (by decide) (by omega) (k := 1) rfl (n := (nextL l zs (outK l xs i)).length) rfl
    have hnc : nextL l zs (outK l xs i) = nextL l (xs.take (i + 1)) (outK l xs i) := nextL_congr hzm
    have hkk : Keeps h h4 := so3.far ((hk.trans k12).trans k3) k4 (Nat.le_refl _)
    have s24 := s2.keep k3
    have nGv : ∀ b ∈ G2, ¬ vB o b := fun b hb hv => by have := (so.ge hv).2; have := f2.ge b hb; simp at this; omega
    have s3l := s3.len
    have s24' := s24.keeps (k4.mono nGv)
    rw [hnc] at o4 e4 e5 s3l
    generalize xs[i] = xi at *
    simp at l2
    simp [g604_0, hM, g13, g5, g6, hi, ix, ld, fillL, e2, e3, s3l, e4, e5, st]
    exact hJ _ hi ⟨hi, by simp, ⟨w2, zs, G2, by simp, s24', hzl, hzm⟩, ⟨v4, by simp, o4⟩, hkk, by show h.length ≤ h4.length; omega⟩
  · have : i = xs.length := by omega
    subst this
    simp [g604_0, hM, g13, g6]
    exact hR _ _ ⟨so, hk, hln⟩
theorem DoneByS_ok {h : Heap} {v w : V} {l : List (List Int)} {F F9 : List Nat} {xs : List Int} (hs : SdF h v l F) (hx : SdF h w xs F9) (hg : linksB l = true) (hon : onceB l.length xs = true) :
    ∃ r h', call p 588 [v, w] h = some (r, h') ∧ ∃ o, r = .tup [o, .bool true] ∧ Out h.length h' o (outK l xs xs.length) ∧ Keeps h h' ∧ h.length ≤ h'.length := by
  obtain ⟨l12, _⟩ := linksB_facts hg
  have e0 := GoodLinksS_eq hs
  rw [hg] at e0
  have e1 := l14Once_eq hx (l.length : Int) (by omega)
  rw [hon] at e1
  simp only [onceB, decide_eq_true_eq] at hon
  have hin : ∀ x ∈ xs, InR l x := fun x hx => ⟨(hon.1 x hx).1, by have := (hon.1 x hx).2; omega⟩
  have hxl := nodup_len hon.2 hin
  have hx' := hx.sl
  refine go (fn := g588) rfl rfl fun R hR => ?_
  simp [g588, e0, e1, hs.len, hx.len]
  refine Wc_upM (M := [6, 7, 9, 22, 23, 24, 25, 26, 27, 28, 29, 30, 31, 32, 33, 34, 35]) rfl xs.length (fun i s => i ≤ xs.length ∧ s.σ 22 = .v (vi i) ∧ (∃ (u : V) (ys : List Int) (G : List Nat) (o : V), s.σ 6 = .v u ∧ SdF s.h u ys G ∧ ys.Pairwise (· < ·) ∧ ys.length ≤ i ∧ (∀ b ∈ G, ¬ vB o b) ∧ (∀ x, x ∈ ys ↔ x ∈ xs.take i) ∧ s.σ 7 = .v o ∧ Out h.length s.h o (outK l xs i)) ∧ True ∧ Keeps h s.h ∧ h.length ≤ s.h.length) 0
    ⟨by omega, by simp, ⟨.nils, [], [], .nils, by simp, .nil, by simp, by simp, by simp, by simp, by simp, by simpa [outK] using Out.nil (Nat.le_refl _)⟩, trivial, Keeps.refl _, Nat.le_refl _⟩ fun i s ⟨gi, g22, ⟨u, ys, G, o, g6, su, hr, hyl, hG, hm, g7, so⟩, _, hk, hln⟩ hM J hJ => ?_
  by_cases hi : i < xs.length
  · have ix := hx.idx 1 .i64 i hi
    simp only [Nat.mul_one] at ix
    have ld := (hx'.keeps hk).loadI i hi
    have st := hx'.step hi
    have hmt : ∀ z, z ∈ xs.take (i + 1) ↔ z ∈ xs.take i ∨ z = xs[i] := fun z => mem_take_succ hi
    obtain ⟨w2, h2, e2, zs, G2, s2, r2, m2, zl, hG2, k2, l2⟩ := l1Put_ok su hr (by omega) xs[i]
    have hzm : ∀ x, x ∈ zs ↔ x ∈ xs.take (i + 1) := fun x => by rw [m2, hm, hmt]
    have hzin : ∀ x ∈ zs, InR l x := fun x hx => hin x (List.mem_of_mem_take ((hzm x).1 hx))
    have so2 : Out h.length h2 o (outK l xs i) := so.keeps (k2.p fun _ => True) (fun _ _ => trivial) l2
    obtain ⟨r3, h3, e3, s3, k3, l3⟩ := l14Next_ok (hs.keep (hk.trans k2)) s2.sl so2.sl hg hzin (by omega)
    have so3 : Out h.length h3 o (outK l xs i) := so2.keeps (k3.p fun _ => True) (fun _ _ => trivial) l3
    have hnl := nextL_len hg zs (outK l xs i)
    have hol := outK_short hg xs i
    obtain ⟨ys4, v4, h4, e4, e5, o4, k4, l4, b4⟩ := so3.appT s3 (bytes := 8) (by decide) (by omega) (k := 1) rfl (n := (nextL l zs (outK l xs i)).length) rfl
    have hnc : nextL l zs (outK l xs i) = nextL l (xs.take (i + 1)) (outK l xs i) := nextL_congr hzm
    have hkk : Keeps h h4 := so3.far ((hk.trans k2).trans k3) k4 (Nat.le_refl _)
    have nG2 : ∀ b ∈ G2, ¬ vB o b := fun b hb hv => by
      rcases hG2 b hb with h | h
      · exact hG b h hv
      · have := (so.ge hv).2; omega
    have s24' := (s2.keep k3).keeps (k4.mono nG2)
    have nG4 : ∀ b ∈ G2, ¬ vB v4 b := fun b hb hv => by
      rcases b4 b hv with h | h
      · exact nG2 b hb h
      · have := s2.ltF hb; omega
    have s3l := s3.len
    rw [hnc] at o4 e4 e5 s3l
    generalize xs[i] = xi at *
    simp [g588_0, hM, g22, g6, g7, hi, ix, ld, e2, e3, s3l, e4, e5, st]
    exact hJ _ hi ⟨hi, by simp, ⟨w2, zs, G2, v4, by simp, s24', r2, by omega, nG4, hzm, by simp, o4⟩, trivial, hkk, by show h.length ≤ h4.length; omega⟩
  · have : i = xs.length := by omega
    subst this
    simp [g588_0, hM, g22, g7]
    exact hR _ _ ⟨o, rfl, so, hk, hln⟩
end GL

namespace GL
open Go

end GL

namespace GL
open Go

end GL

namespace GL
open Go

end GL

namespace GL
open Go

end GL

namespace GL
open Go

end GL

namespace GL
open Go

theorem Od.draw {α : Type} [Data α] {h0 h h1 g : Heap} {N lo : Nat} {v : V} {xs : List α} {G G' : List Nat} (d : DC h0 h1 N) (kb : KeepsBut h0.length g h1) (od : Od lo h v xs G) (k1 : KeepsBut h0.length h h1) (l1 : h.length ≤ h1.length) (hlo : g.length ≤ lo) (hc : h0.length < lo) (gG : ∀ b ∈ G, lo ≤ b)
    (hG : ∀ b ∈ G', h.length ≤ b) {x : α} {cs : List V} (hr : Data.rep h1 x cs G') (hx : xs.length ≤ 2 ^ 20) {k bytes : Nat} (hk : k = Data.sz α) (hb : bytes ≤ 2 ^ 8) :
    ∃ v' h2, appH k bytes v 1 cs (h1 ++ [⟨.own, cs⟩]) = some (v', h2) ∧ Od lo h2 v' (xs ++ [x]) (G ++ G') ∧ DC h0 h2 N ∧ KeepsBut h0.length g h2 ∧ h1.length < h2.length := by
  have hge := fun i (hi : vB v i) => od.ge hi
  have kl : Keeps h1 (h1 ++ [⟨.own, cs⟩]) := Keeps.append h1 _
  have kp1 : KeepsP (fun b => b ≠ h0.length) h (h1 ++ [⟨.own, cs⟩]) := k1.P.trans (kl.p _)
  have nG : ∀ b ∈ G, b ≠ h0.length := fun b hb => by have := gG b hb; omega
  have od1 : Od lo (h1 ++ [⟨.own, cs⟩]) v xs G := od.keeps kp1 (fun i hi => by have := (hge i hi).1; omega) nG (by simp; omega)
  have hnv : ∀ b ∈ G', ¬ vB v b := fun b hb hv => by have := (hge b hv).2; have := hG b hb; omega
  obtain ⟨v', h2, e, o2, kp, l2, b2⟩ := od1.app (zs := [x]) (G := G') (by simp) (.one (Data.keeps hr (kl.p _))) hnv hb (by simp; omega) hk rfl
  have k2 : KeepsP (fun i => ¬ vB v i) h1 h2 := fun i blk hi h3 h4 => kp i blk hi (kl i blk h3 h4) h4
  exact ⟨v', h2, e, o2, d.far k2 fun i hi hv => by have := (hge i hv).1; omega, kb.far k2 fun i hi _ hv => by have := (hge i hv).1; omega, by simp at l2; omega⟩
end GL

namespace GL
open Go

end GL

namespace GL
open Go

end GL

namespace GL
open Go

end GL

namespace GL
open Go

end GL

namespace GL
open Go

end GL

namespace GL
open Go

end GL

namespace GL
open Go

end GL

namespace GL
open Go

theorem common {n : Nat} {as bs : List Int} (ha : as.Nodup) (hb : bs.Nodup) (hin : ∀ x ∈ as ++ bs, 0 ≤ x ∧ x < (n : Int)) (hl : n < as.length + bs.length) : ∃ x, x ∈ as ∧ x ∈ bs := by
  refine Decidable.byContradiction fun hno => ?_
  have hnd : (as ++ bs).Nodup := List.nodup_append.2 ⟨ha, hb, fun x hx y hy e => by subst e; exact hno ⟨x, hx, hy⟩⟩
  have := nodup_len hnd hin
  rw [List.length_append] at this; omega
end GL

namespace GL
open Go

end GL

namespace GL
open Go

end GL

namespace GL
open Go

end GL

namespace GL
open Go

end GL

namespace GL
open Go

theorem idx_take {xs : List Int} {n : Int} {i : Nat} (hn : i < xs.length) (he : xs[i] = n) (hall : n ∉ xs.take i) : placeL xs n = i := by
  have hm : n ∈ xs := by rw [← he]; simp
  have hix : xs.idxOf n = i := by
    have h1 : xs.take i ++ n :: xs.drop (i + 1) = xs := by rw [← he, ← List.drop_eq_getElem_cons hn, List.take_append_drop]
    have : xs.idxOf n = (xs.take i ++ n :: xs.drop (i + 1)).idxOf n := by rw [h1]
    rw [this, List.idxOf_append, if_neg hall]
    simp; omega
  rw [placeL, if_pos hm, hix]
theorem indexPl_eq {h : Heap} {v : V} {xs : List Int} (hs : Sl h v xs) (n : Int) : call p 390 [v, vi n] h = some (vi (placeL xs n), h) := by
  refine go_eq (fn := g390) rfl rfl fun R hR => ?_
  simp [g390, hs.len]
  refine Wc_upM (M := [4, 5, 8, 9, 10, 11, 12, 13, 14, 15, 16, 17, 18]) rfl xs.length (fun i s => s.σ 8 = .v (vi i) ∧ s.h = h ∧ n ∉ xs.take i) 0 (by simp) fun i s ⟨g8, gh, hall⟩ hM J hJ => ?_
  by_cases hn : i < xs.length
  · by_cases he : n = xs[i]
    · rw [idx_take hn he.symm hall] at hR
      simp [g390_0, hM, g8, gh, hn, hs.idx, hs.loadI, he]
      exact hR
    · simp [g390_0, hM, g8, gh, hn, hs.idx, hs.loadI, he, hs.step hn]
      exact hJ _ hn ⟨by simp, rfl, by rw [mem_take_succ hn]; rintro (h | h); exact hall h; exact he h⟩
  · rw [List.take_of_length_le (by omega)] at hall
    have : placeL xs n = -1 := by rw [placeL, if_neg hall]
    rw [this] at hR
    simp [g390_0, hM, g8, gh, hn]
    exact hR
theorem l3At_eq {h : Heap} {v : V} {xs : List Int} (hs : Sl h v xs) (n : Int) : call p 606 [v, vi n] h = some (vi (placeL xs n), h) := by
  refine go_eq (fn := g606) rfl rfl fun R hR => ?_
  simp [g606, hs.len]
  refine Wc_upM (M := [4, 5, 6, 9, 10, 11, 12, 13, 14, 15, 16, 17, 18]) rfl xs.length (fun i s => s.σ 9 = .v (vi i) ∧ s.h = h ∧ n ∉ xs.take i) 0 (by simp) fun i s ⟨g9, gh, hall⟩ hM J hJ => ?_
  by_cases hn : i < xs.length
  · by_cases he : xs[i] = n
    · rw [idx_take hn he hall] at hR
      simp [g606_0, hM, g9, gh, hn, hs.idx, hs.loadI, he]
      exact hR
    · simp [g606_0, hM, g9, gh, hn, hs.idx, hs.loadI, he, hs.step hn]
      exact hJ _ hn ⟨by simp, rfl, by rw [mem_take_succ hn]; rintro (h | h); exact hall h; exact he h.symm⟩
  · rw [List.take_of_length_le (by omega)] at hall
    have : placeL xs n = -1 := by rw [placeL, if_neg hall]
    rw [this] at hR
    simp [g606_0, hM, g9, gh, hn]
    exact hR

def agH (a b : List Int) (p : Int) : Prop := p.tdiv 12 ∈ a ∧ p.tmod 12 ∈ a ∧ p.tdiv 12 ∈ b ∧ p.tmod 12 ∈ b
instance (a b : List Int) (p : Int) : Decidable (agH a b p) := by unfold agH; infer_instance
def agQ (a b : List Int) (p : Int) : Bool := !decide (agH a b p) || (decide (placeL a (p.tdiv 12) < placeL a (p.tmod 12)) == decide (placeL b (p.tdiv 12) < placeL b (p.tmod 12)))
def agOK (a b ps : List Int) : Bool := onceB 12 a && onceB 12 b && decide (ps.length ≤ 60) && ps.all fun n => decide (0 ≤ n ∧ n ≤ 143)
def agV (a b ps : List Int) : Bool := agOK a b ps && ps.all (agQ a b)

theorem agree1_eq (h : Heap) (n : Int) : call p 605 [vi n] h = some (.bool (!decide (0 ≤ n ∧ n ≤ 143)), h) := by
  refine go_eq (fn := g605) rfl rfl fun R hR => ?_
  simp [g605, -Bool.decide_and]
  exact hR
theorem AgreeOn_ok {h : Heap} {u v w : V} {as bs ps : List Int} (ha : Sl h u as) (hb : Sl h v bs) (hp : Sl h w ps) (la : as.length ≤ 2 ^ 20) (lb : bs.length ≤ 2 ^ 20) :
    ∃ r h', call p 591 [u, v, w] h = some (r, h') ∧ r = .tup [.bool (agV as bs ps), .bool (agOK as bs ps)] ∧ Keeps h h' ∧ h.length ≤ h'.length := by
  obtain ⟨_, h1, e1, rfl, k1, l1⟩ := areOnce_ok ha la 12 (by decide)
  obtain ⟨_, h2, e2, rfl, k2, l2⟩ := areOnce_ok (hb.keeps k1) lb 12 (by decide)
  obtain ⟨_, h3, e3, rfl, k3, l3⟩ := containsIg_ok (hp.keeps (k1.trans k2)) (f := 605) (capt := []) (q := fun n => !decide (0 ≤ n ∧ n ≤ 143)) fun h' _ n _ => ⟨h', agree1_eq h' n, Keeps.refl _, Nat.le_refl _⟩
  refine go (fn := g591) rfl rfl fun R hR => ?_
  by_cases hok : agOK as bs ps = true
  · have hok' := hok
    simp only [agOK, Bool.and_eq_true, decide_eq_true_eq] at hok'
    obtain ⟨⟨⟨o1, o2⟩, o3⟩, o4⟩ := hok'
    rw [o1] at e1; rw [o2] at e2
    have o5 : (ps.any fun n => !decide (0 ≤ n ∧ n ≤ 143)) = false := by
      rw [List.any_eq_false]; intro x hx
      have := List.all_eq_true.1 o4 x hx
      simp only [this]; decide
    rw [o5] at e3
    have o3i : (ps.length : Int) ≤ 60 := by omega
    have n60 : ¬ (60 : Int) < ps.length := by omega
    simp [g591, e1, e2, e3, hp.len, o3i, n60]
    refine Wc_upM (M := [6, 7, 9, 10, 30, 31, 32, 33, 34, 35, 36, 37, 38, 39, 40, 41, 42, 43, 44, 45, 46, 47, 48, 49, 50, 51, 52, 53, 54, 55, 56, 57, 58, 59, 60, 61, 62, 63, 64, 65, 66, 67, 68, 69, 70, 71, 72]) rfl ps.length (fun i s => i ≤ ps.length ∧ s.σ 30 = .v (vi i) ∧ (ps.take i).all (agQ as bs) = true ∧ Keeps h s.h ∧ h.length ≤ s.h.length) 0
      ⟨by omega, by simp, by simp, (k1.trans k2).trans k3, by show h.length ≤ h3.length; omega⟩ fun i s ⟨gi, g30, hall, hk, hl⟩ hM J hJ => ?_
    by_cases hi : i < ps.length
    · have ix := hp.idx 1 .i64 i hi
      simp only [Nat.mul_one] at ix
      have ld := (hp.keeps hk).loadI i hi
      have hin := List.all_eq_true.1 o4 _ (List.getElem_mem hi)
      simp only [decide_eq_true_eq] at hin
      have st := hp.step hi
      have hallS : (ps.take (i + 1)).all (agQ as bs) = ((ps.take i).all (agQ as bs) && agQ as bs ps[i]) := by
        rw [List.take_succ_eq_append_getElem hi, List.all_append]; simp only [List.all_cons, List.all_nil, Bool.and_true]
      have hmem : ps[i] ∈ ps := List.getElem_mem hi
      have hfalse : agQ as bs ps[i] = false → agV as bs ps = false := fun hq => by
        simp only [agV, Bool.and_eq_false_iff]; right; rw [List.all_eq_false]; exact ⟨_, hmem, by simp [hq]⟩
      generalize ps[i] = pi at *
      have t1 : pi.tdiv 12 = pi / 12 := Int.tdiv_eq_ediv_of_nonneg hin.1
      have t2 : pi.tmod 12 = pi % 12 := Int.tmod_eq_emod_of_nonneg hin.1
      have w1 : IntKind.i64.wrap (pi / 12) = pi / 12 := by rw [IntWalk.i64_in] <;> omega
      have w2 : IntKind.i64.wrap (pi % 12) = pi % 12 := by rw [IntWalk.i64_in] <;> omega
      simp only [agQ, agH, t1, t2] at hallS hfalse
      have k4 : Keeps s.h (s.h ++ [⟨.own, [vi (pi / 12), vi (pi % 12)]⟩]) := Keeps.append _ _
      have sl := Sl.lit (h := s.h) [pi / 12, pi % 12] 2 rfl [vi (pi / 12), vi (pi % 12)] rfl (.k 2) (by simp)
      have ha4 := (ha.keeps hk).keeps k4
      have hb4 := (hb.keeps hk).keeps k4
      obtain ⟨_, h5, e5, rfl, k5, l5⟩ := hasAll_ok ha4 sl
      obtain ⟨_, h6, e6, rfl, k6, l6⟩ := hasAll_ok (hb4.keeps k5) (sl.keeps k5)
      simp at l5
      have k456 := (k4.trans k5).trans k6
      have r1 := rdH_keep (k5.trans k6) (rdH_at (off := 0) (n := 1) (get_last s.h ⟨.own, [vi (pi / 12), vi (pi % 12)]⟩) (by simp))
      have r2 := rdH_keep (k5.trans k6) (rdH_at (off := 1) (n := 1) (get_last s.h ⟨.own, [vi (pi / 12), vi (pi % 12)]⟩) (by simp))
      have f1 := indexPl_eq ((ha4.keeps k5).keeps k6) (pi / 12)
      have f2 := indexPl_eq ((ha4.keeps k5).keeps k6) (pi % 12)
      have f3 := indexPl_eq ((hb4.keeps k5).keeps k6) (pi / 12)
      have f4 := indexPl_eq ((hb4.keeps k5).keeps k6) (pi % 12)
      by_cases m1 : pi / 12 ∈ as
      · by_cases m2 : pi % 12 ∈ as
        · by_cases m3 : pi / 12 ∈ bs
          · by_cases m4 : pi % 12 ∈ bs
            · by_cases c1 : placeL as (pi / 12) < placeL as (pi % 12)
              · by_cases c2 : placeL bs (pi / 12) < placeL bs (pi % 12)
                · simp [g591_0, hM, g30, hi, upd, ix, ld, t1, t2, w1, w2, e5, e6, m1, m2, m3, m4, r1, r2, f1, f2, f3, f4, c1, c2, st, stable, stab1]
                  exact hJ _ hi ⟨hi, by simp, by rw [hallS, hall]; simp [c1, c2], (hk.trans k456), by show h.length ≤ h6.length; omega⟩
                · simp [g591_0, hM, g30, hi, upd, ix, ld, t1, t2, w1, w2, e5, e6, m1, m2, m3, m4, r1, r2, f1, f2, f3, f4, c1, c2, st, stable, stab1]
                  exact hR _ _ ⟨by rw [hfalse (by simp [m1, m2, m3, m4, c1, c2]), hok], hk.trans k456, by omega⟩
              · by_cases c2 : placeL bs (pi / 12) < placeL bs (pi % 12)
                · simp [g591_0, hM, g30, hi, upd, ix, ld, t1, t2, w1, w2, e5, e6, m1, m2, m3, m4, r1, r2, f1, f2, f3, f4, c1, c2, st, stable, stab1]
                  exact hR _ _ ⟨by rw [hfalse (by simp [m1, m2, m3, m4, c1, c2]), hok], hk.trans k456, by omega⟩
                · simp [g591_0, hM, g30, hi, upd, ix, ld, t1, t2, w1, w2, e5, e6, m1, m2, m3, m4, r1, r2, f1, f2, f3, f4, c1, c2, st, stable, stab1]
                  exact hJ _ hi ⟨hi, by simp, by rw [hallS, hall]; simp [c1, c2], (hk.trans k456), by show h.length ≤ h6.length; omega⟩
            · simp [g591_0, hM, g30, hi, upd, ix, ld, t1, t2, w1, w2, e5, e6, m1, m2, m3, m4, r1, r2, st]
              exact hJ _ hi ⟨hi, by simp, by rw [hallS, hall]; simp [m4], (hk.trans k456), by show h.length ≤ h6.length; omega⟩
          · simp [g591_0, hM, g30, hi, upd, ix, ld, t1, t2, w1, w2, e5, e6, m1, m2, m3, r1, r2, st]
            exact hJ _ hi ⟨hi, by simp, by rw [hallS, hall]; simp [m3], (hk.trans k456), by show h.length ≤ h6.length; omega⟩
        · simp [g591_0, hM, g30, hi, upd, ix, ld, t1, t2, w1, w2, e5, m1, m2, r1, r2, st]
          exact hJ _ hi ⟨hi, by simp, by rw [hallS, hall]; simp [m2], (hk.trans (k4.trans k5)), by show h.length ≤ h5.length; omega⟩
      · simp [g591_0, hM, g30, hi, upd, ix, ld, t1, t2, w1, w2, e5, m1, r1, r2, st]
        exact hJ _ hi ⟨hi, by simp, by rw [hallS, hall]; simp [m1], (hk.trans (k4.trans k5)), by show h.length ≤ h5.length; omega⟩
    · have : i = ps.length := by omega
      subst this
      rw [List.take_length] at hall
      simp [g591_0, hM, g30]
      exact hR _ _ ⟨by rw [agV, hall, hok]; rfl, hk, hl⟩
  · have hok' := hok
    simp only [Bool.not_eq_true] at hok
    have hv : agV as bs ps = false := by simp [agV, hok]
    rw [hv, hok] at hR
    simp only [agOK] at hok
    have lh3 : h.length ≤ h3.length := by omega
    have lh2 : h.length ≤ h2.length := by omega
    cases o1 : onceB 12 as with
    | false =>
      rw [o1] at e1
      simp [g591, e1]
      exact hR _ _ ⟨rfl, k1, l1⟩
    | true =>
      cases o2 : onceB 12 bs with
      | false =>
        rw [o1] at e1; rw [o2] at e2
        simp [g591, e1, e2]
        exact hR _ _ ⟨rfl, k1.trans k2, lh2⟩
      | true =>
        rw [o1] at e1; rw [o2] at e2
        by_cases o3 : ps.length ≤ 60
        · have o3i : (ps.length : Int) ≤ 60 := by omega
          have n60 : ¬ (60 : Int) < ps.length := by omega
          have o5 : (ps.any fun n => !decide (0 ≤ n ∧ n ≤ 143)) = true := by
            simp only [o1, o2, o3, decide_true, Bool.true_and] at hok
            rw [List.all_eq_false] at hok
            obtain ⟨x, hx, hq⟩ := hok
            rw [List.any_eq_true]
            exact ⟨x, hx, by simp only [Bool.not_eq_true', decide_eq_false_iff_not]; simpa [Int.not_le] using hq⟩
          rw [o5] at e3
          simp [g591, e1, e2, hp.len, o3i, n60, e3]
          exact hR _ _ ⟨rfl, (k1.trans k2).trans k3, lh3⟩
        · have o3i : ¬ (ps.length : Int) ≤ 60 := by omega
          have n60 : (60 : Int) < ps.length := by omega
          simp [g591, e1, e2, hp.len, o3i, n60]
          exact hR _ _ ⟨rfl, k1.trans k2, lh2⟩
end GL

namespace GL
open Go

theorem AgreeOnS_ok {h : Heap} {u v w : V} {as bs ps : List Int} {Fa Fb : List Nat} (ha : SdF h u as Fa) (hb : SdF h v bs Fb) (hp : Sl h w ps) :
    call p 593 [u, v, w] h = some (.tup [.bool (agV as bs ps), .bool (agOK as bs ps)], h) := by
  have e1 := l14Once_eq ha 12 (by decide)
  have e2 := l14Once_eq hb 12 (by decide)
  have e3 := l1All_eq hp 0 143
  have ha := ha.sl
  have hb := hb.sl
  refine go_eq (fn := g593) rfl rfl fun R hR => ?_
  by_cases hok : agOK as bs ps = true
  · have hok' := hok
    simp only [agOK, Bool.and_eq_true, decide_eq_true_eq] at hok'
    obtain ⟨⟨⟨o1, o2⟩, o3⟩, o4⟩ := hok'
    rw [o1] at e1; rw [o2] at e2; rw [o4] at e3
    have o3i : (ps.length : Int) ≤ 60 := by omega
    have n60 : ¬ (60 : Int) < ps.length := by omega
    simp [g593, e1, e2, e3, hp.len, o3i, n60]
    refine Wc_upM (M := [6, 7, 9, 10, 11, 32, 33, 34, 35, 36, 37, 38, 39, 40, 41, 42, 43, 44, 45, 46, 47, 48, 49, 50, 51, 52, 53, 54, 55, 56, 57, 58, 59, 60, 61, 62, 63, 64, 65, 66, 67, 68, 69, 70, 71, 72, 73, 74, 75, 76, 77]) rfl ps.length (fun i s => i ≤ ps.length ∧ s.σ 32 = .v (vi i) ∧ (ps.take i).all (agQ as bs) = true ∧ s.h = h) 0
      ⟨by omega, by simp, by simp, by simp⟩ fun i s ⟨gi, g30, hall, gh⟩ hM J hJ => ?_
    by_cases hi : i < ps.length
    · have ix := hp.idx 1 .i64 i hi
      simp only [Nat.mul_one] at ix
      have ld := hp.loadI i hi
      have hin := List.all_eq_true.1 o4 _ (List.getElem_mem hi)
      simp only [decide_eq_true_eq] at hin
      have st := hp.step hi
      have hallS : (ps.take (i + 1)).all (agQ as bs) = ((ps.take i).all (agQ as bs) && agQ as bs ps[i]) := by
        rw [List.take_succ_eq_append_getElem hi, List.all_append]; simp only [List.all_cons, List.all_nil, Bool.and_true]
      have hmem : ps[i] ∈ ps := List.getElem_mem hi
      have hfalse : agQ as bs ps[i] = false → agV as bs ps = false := fun hq => by
        simp only [agV, Bool.and_eq_false_iff]; right; rw [List.all_eq_false]; exact ⟨_, hmem, by simp [hq]⟩
      generalize ps[i] = pi at *
      have t1 : pi.tdiv 12 = pi / 12 := Int.tdiv_eq_ediv_of_nonneg hin.1
      have t2 : pi.tmod 12 = pi % 12 := Int.tmod_eq_emod_of_nonneg hin.1
      have w1 : IntKind.i64.wrap (pi / 12) = pi / 12 := by rw [IntWalk.i64_in] <;> omega
      have w2 : IntKind.i64.wrap (pi % 12) = pi % 12 := by rw [IntWalk.i64_in] <;> omega
      simp only [agQ, agH, t1, t2] at hallS hfalse
      have f1 := l3At_eq ha (pi / 12)
      have f2 := l3At_eq ha (pi % 12)
      have f3 := l3At_eq hb (pi / 12)
      have f4 := l3At_eq hb (pi % 12)
      have f5 := l1Has_eq ha (pi / 12)
      have f6 := l1Has_eq ha (pi % 12)
      have f7 := l1Has_eq hb (pi / 12)
      have f8 := l1Has_eq hb (pi % 12)
      by_cases m1 : pi / 12 ∈ as
      · by_cases m2 : pi % 12 ∈ as
        · by_cases m3 : pi / 12 ∈ bs
          · by_cases m4 : pi % 12 ∈ bs
            · by_cases c1 : placeL as (pi / 12) < placeL as (pi % 12)
              · by_cases c2 : placeL bs (pi / 12) < placeL bs (pi % 12)
                · simp [g593_0, hM, g30, gh, hi, upd, ix, ld, t1, t2, w1, w2, f5, f6, f7, f8, m1, m2, m3, m4, f1, f2, f3, f4, c1, c2, st]
                  exact hJ _ hi ⟨hi, by simp, by rw [hallS, hall]; simp [c1, c2], rfl⟩
                · simp [g593_0, hM, g30, gh, hi, upd, ix, ld, t1, t2, w1, w2, f5, f6, f7, f8, m1, m2, m3, m4, f1, f2, f3, f4, c1, c2, st]
                  rw [hfalse (by simp [m1, m2, m3, m4, c1, c2]), hok] at hR; exact hR
              · by_cases c2 : placeL bs (pi / 12) < placeL bs (pi % 12)
                · simp [g593_0, hM, g30, gh, hi, upd, ix, ld, t1, t2, w1, w2, f5, f6, f7, f8, m1, m2, m3, m4, f1, f2, f3, f4, c1, c2, st]
                  rw [hfalse (by simp [m1, m2, m3, m4, c1, c2]), hok] at hR; exact hR
                · simp [g593_0, hM, g30, gh, hi, upd, ix, ld, t1, t2, w1, w2, f5, f6, f7, f8, m1, m2, m3, m4, f1, f2, f3, f4, c1, c2, st]
                  exact hJ _ hi ⟨hi, by simp, by rw [hallS, hall]; simp [c1, c2], rfl⟩
            · simp [g593_0, hM, g30, gh, hi, upd, ix, ld, t1, t2, w1, w2, f5, f6, f7, f8, m1, m2, m3, m4, st]
              exact hJ _ hi ⟨hi, by simp, by rw [hallS, hall]; simp [m4], rfl⟩
          · simp [g593_0, hM, g30, gh, hi, upd, ix, ld, t1, t2, w1, w2, f5, f6, f7, f8, m1, m2, m3, st]
            exact hJ _ hi ⟨hi, by simp, by rw [hallS, hall]; simp [m3], rfl⟩
        · simp [g593_0, hM, g30, gh, hi, upd, ix, ld, t1, t2, w1, w2, f5, f6, f7, f8, m1, m2, st]
          exact hJ _ hi ⟨hi, by simp, by rw [hallS, hall]; simp [m2], rfl⟩
      · simp [g593_0, hM, g30, gh, hi, upd, ix, ld, t1, t2, w1, w2, f5, f6, f7, f8, m1, st]
        exact hJ _ hi ⟨hi, by simp, by rw [hallS, hall]; simp [m1], rfl⟩
    · have : i = ps.length := by omega
      subst this
      rw [List.take_length] at hall
      simp [g593_0, hM, g30, gh]
      rw [agV, hall, hok] at hR; exact hR
  · simp only [Bool.not_eq_true] at hok
    have hv : agV as bs ps = false := by simp [agV, hok]
    rw [hv, hok] at hR
    simp only [agOK] at hok
    cases o1 : onceB 12 as with
    | false =>
      rw [o1] at e1
      simp [g593, e1]
      exact hR
    | true =>
      cases o2 : onceB 12 bs with
      | false =>
        rw [o1] at e1; rw [o2] at e2
        simp [g593, e1, e2]
        exact hR
      | true =>
        rw [o1] at e1; rw [o2] at e2
        by_cases o3 : ps.length ≤ 60
        · have n60 : ¬ (60 : Int) < ps.length := by omega
          simp only [o1, o2, o3, decide_true, Bool.true_and] at hok
          rw [hok] at e3
          simp [g593, e1, e2, hp.len, n60, e3]
          exact hR
        · have n60 : (60 : Int) < ps.length := by omega
          simp [g593, e1, e2, hp.len, n60]
          exact hR

noncomputable def dnB (l : List (List Int)) (xs : List Int) : Bool := linksB l && onceB l.length xs
noncomputable def dnR (l : List (List Int)) (xs : List Int) : List Int := if dnB l xs = true then outK l xs xs.length else []
theorem dnB_facts {l : List (List Int)} {xs : List Int} (hb : dnB l xs = true) : linksB l = true ∧ onceB l.length xs = true ∧ (∀ x ∈ xs, InR l x) ∧ xs.Nodup ∧ xs.length ≤ l.length ∧ l.length ≤ 12 := by
  simp only [dnB, Bool.and_eq_true] at hb
  obtain ⟨hg, hon⟩ := hb
  have hon' := hon
  simp only [onceB, decide_eq_true_eq] at hon'
  have hin : ∀ x ∈ xs, InR l x := fun x hx => ⟨(hon'.1 x hx).1, by have := (hon'.1 x hx).2; omega⟩
  exact ⟨hg, hon, hin, hon'.2, nodup_len hon'.2 hin, (linksB_facts hg).1⟩
theorem dnR_len {l : List (List Int)} (xs : List Int) : (dnR l xs).length ≤ 12 := by
  unfold dnR
  split
  · rename_i hb
    obtain ⟨hg, _, _, _, _, h12⟩ := dnB_facts hb
    have := outK_short hg xs xs.length
    omega
  · simp
theorem DoneBy_ok {h : Heap} {v w : V} {l : List (List Int)} {F : List Nat} {xs : List Int} (hs : SdF h v l F) (hx : Sl h w xs) (hl : xs.length ≤ 2 ^ 20) :
    ∃ r h', call p 587 [v, w] h = some (r, h') ∧ ∃ o G, r = .tup [o, .bool (dnB l xs)] ∧ SdF h' o (dnR l xs) G ∧ Keeps h h' ∧ h.length ≤ h'.length := by
  obtain ⟨_, h1, e1, rfl, k1, l1⟩ := GoodLinks_ok hs
  refine go (fn := g587) rfl rfl fun R hR => ?_
  cases hg : linksB l with
  | false =>
    rw [hg] at e1
    have hd : dnB l xs = false := by simp [dnB, hg]
    simp only [dnR, hd] at hR
    simp [g587, e1]
    exact hR _ _ ⟨_, _, rfl, .nil, k1, l1⟩
  | true =>
    rw [hg] at e1
    have h12 := (linksB_facts hg).1
    obtain ⟨_, h2, e2, rfl, k2, l2⟩ := areOnce_ok (hx.keeps k1) hl (l.length : Int) (by omega)
    cases ho : onceB l.length xs with
    | false =>
      rw [ho] at e2
      have hd : dnB l xs = false := by simp [dnB, ho]
      simp only [dnR, hd] at hR
      simp [g587, e1, hs.len, e2]
      exact hR _ _ ⟨_, _, rfl, .nil, k1.trans k2, by omega⟩
    | true =>
      rw [ho] at e2
      have hd : dnB l xs = true := by simp [dnB, ho, hg]
      obtain ⟨_, _, hin, _, hxl, _⟩ := dnB_facts hd
      obtain ⟨r, h3, e3, o3, k3, l3⟩ := doneBy_ok (hs.keep (k1.trans k2)) (hx.keeps (k1.trans k2)) hg hin (by omega)
      obtain ⟨G, s3, _⟩ := o3.fr
      simp only [dnR, hd] at hR
      simp [g587, e1, hs.len, e2, e3]
      exact hR _ _ ⟨_, _, rfl, s3, (k1.trans k2).trans k3, by omega⟩
theorem DoneByS2_ok {h : Heap} {v w : V} {l : List (List Int)} {F F9 : List Nat} {xs : List Int} (hs : SdF h v l F) (hx : SdF h w xs F9) :
    ∃ r h', call p 588 [v, w] h = some (r, h') ∧ ∃ o, r = .tup [o, .bool (dnB l xs)] ∧ Sl h' o (dnR l xs) ∧ Keeps h h' ∧ h.length ≤ h'.length := by
  cases hd : dnB l xs with
  | true =>
    obtain ⟨hg, hon, _⟩ := dnB_facts hd
    obtain ⟨_, h1, e1, o, rfl, s1, k1, l1⟩ := DoneByS_ok hs hx hg hon
    exact ⟨_, h1, e1, o, rfl, by simpa [dnR, hd] using s1.sl, k1, l1⟩
  | false =>
    have e1 := GoodLinksS_eq hs
    refine go (fn := g588) rfl rfl fun R hR => ?_
    simp only [dnR, hd] at hR
    cases hg : linksB l with
    | false =>
      rw [hg] at e1
      simp [g588, e1]
      exact hR _ _ ⟨_, rfl, .nil, Keeps.refl _, Nat.le_refl _⟩
    | true =>
      have h12 := (linksB_facts hg).1
      have e2 := l14Once_eq hx (l.length : Int) (by omega)
      have ho : onceB l.length xs = false := by simpa [dnB, hg] using hd
      rw [hg] at e1; rw [ho] at e2
      simp [g588, e1, hs.len, e2]
      exact hR _ _ ⟨_, rfl, .nil, Keeps.refl _, Nat.le_refl _⟩
noncomputable def whR (l : List (List Int)) : List Int := if linksB l = true then (groupsL l).flatten else []
theorem WholeOrder_ok {h : Heap} {v : V} {l : List (List Int)} {F : List Nat} (hs : SdF h v l F) :
    ∃ r h', call p 589 [v] h = some (r, h') ∧ ∃ o, r = .tup [o, .bool (linksB l)] ∧ Sl h' o (whR l) ∧ Keeps h h' ∧ h.length ≤ h'.length := by
  obtain ⟨_, h1, e1, o, rfl, s1, k1, l1⟩ := OrderBy_ok hs
  refine go (fn := g589) rfl rfl fun R hR => ?_
  simp [g589, e1]
  exact hR _ _ ⟨_, rfl, s1, k1, l1⟩
theorem WholeOrderS_ok {h : Heap} {v : V} {l : List (List Int)} {F : List Nat} (hs : SdF h v l F) :
    ∃ r h', call p 590 [v] h = some (r, h') ∧ ∃ o, r = .tup [o, .bool (linksB l)] ∧ Sl h' o (whR l) ∧ Keeps h h' ∧ h.length ≤ h'.length := by
  have e1 := GoodLinksS_eq hs
  refine go (fn := g590) rfl rfl fun R hR => ?_
  cases hg : linksB l with
  | false =>
    rw [hg] at e1
    simp only [whR, hg] at hR
    simp [g590, e1]
    exact hR _ _ ⟨_, rfl, .nil, Keeps.refl _, Nat.le_refl _⟩
  | true =>
    rw [hg] at e1
    simp only [whR, hg] at hR
    obtain ⟨o, h1, e2, s1, k1, l1⟩ := l14Order_ok hs hg
    simp [g590, e1, e2]
    exact hR _ _ ⟨_, rfl, s1, k1, l1⟩
end GL

namespace GL
open Go

/-- a first part of a list of one's own, and what is put behind it -/
theorem Out.preApp {lo : Nat} {h : Heap} {v : V} {xs : List Int} (ho : Out lo h v xs) (hx : xs.length ≤ 2 ^ 20) {k : Nat} (hk : k ≤ xs.length) :
    ∃ u, slcV 1 v none (some k) none = some u ∧ (∃ F, SdF h u (xs.take k) F ∧ ∀ b ∈ F, vB v b ∧ lo ≤ b) ∧
      ∀ (h1 : Heap) (zs : List Int), KeepsP (vB v) h h1 → h.length ≤ h1.length → 0 < zs.length → zs.length ≤ 1000 → ∃ v' h2, appH 1 8 u zs.length (flats zs) h1 = some (v', h2) ∧ (∃ F, SdF h2 v' (xs.take k ++ zs) F) ∧ KeepsP (fun i => ¬ vB v i) h1 h2 ∧ h1.length ≤ h2.length := by
  have hsz : Flat.sz Int = 1 := rfl
  have hsz' : Data.sz Int = 1 := rfl
  have ho' := ho
  obtain ⟨h1, h2, ⟨rfl, rfl⟩ | ⟨b, rfl, hb, h3⟩ | ⟨b, rfl, rfl, h3, h4⟩⟩ := ho
  · simp at hk; subst hk
    refine ⟨.nils, rfl, ⟨[], .nil, by simp⟩, fun h5 zs kk hl hz hz2 => ?_⟩
    have o := Out.nil (lo := 0) (h := h5) (α := Int) (Nat.zero_le _)
    obtain ⟨v', h6, e, o', k', l', _⟩ := o.app zs hz (bytes := 8) (by decide) (by simp; omega) (k := 1) rfl rfl rfl
    obtain ⟨F, s, _⟩ := o'.fr
    exact ⟨v', h6, e, ⟨F, by simpa using s⟩, k', by omega⟩
  · have e0 : slcV 1 (.slice b 0 xs.length (.o (Flat.sz Int))) none (some k) none = some (.slice b 0 k (.o 1)) := by
      simp only [slcV, Option.getD_none, Option.getD_some, hsz]
      rw [if_pos ⟨trivial, Nat.zero_le _, hk⟩]; simp
    have hfl : (flats xs).length = xs.length := by rw [flats_len, hsz, Nat.mul_one]
    have hft : (flats xs).take k = flats (xs.take k) := by have := flats_take xs k; rwa [hsz, Nat.mul_one] at this
    have hcut : cut (flats xs) 0 k = some (flats (xs.take k)) := by
      simp only [cut, Nat.zero_add, hfl, hk, if_true, List.drop_zero, hft]
    have hkl : (xs.take k).length = k := by simp [hk]
    have hsk : Sl h (.slice b 0 k (.o 1)) (xs.take k) := by
      refine ⟨by omega, .inr ⟨b, 0, .o 1, by rw [hkl], ?_⟩⟩
      by_cases h0 : k = 0
      · left; subst h0; rfl
      · right; exact ⟨_, hb, by simp, by rw [hkl, hsz, Nat.mul_one]; exact hcut⟩
    obtain ⟨F, sF, hF, _⟩ := hsk.sdF (α := Int) rfl
    refine ⟨_, e0, ⟨F, sF, fun c hc => ?_⟩, fun h5 zs kk hl hz hz2 => ?_⟩
    · obtain ⟨_, _, _, e⟩ := (hF c hc).2
      cases e; exact ⟨⟨_, _, _, rfl⟩, h3⟩
    · have hb5 : h5[b]? = some ⟨.own, flats xs⟩ := kk b _ ⟨_, _, _, rfl⟩ hb (by simp)
      have hzl : (flats zs).length = zs.length := by rw [flats_len, hsz, Nat.mul_one]
      have hnl : (xs.take k ++ zs).length = k + zs.length := by rw [List.length_append, hkl]
      by_cases hfit : k + zs.length ≤ xs.length
      · have hlay : lay (flats xs) k (flats zs) = some (flats (xs.take k ++ zs) ++ (flats xs).drop (k + zs.length)) := by
          unfold lay
          rw [if_pos (by omega), hft, hzl, flats_append]
        refine ⟨.slice b 0 (k + zs.length) (.o 1), h5.set b ⟨.own, flats (xs.take k ++ zs) ++ (flats xs).drop (k + zs.length)⟩, ?_, ?_, fun i blk hi h6 hd => ?_, by simp⟩
        · simp only [appH, Nat.ne_of_gt hz, if_false, hb5]
          rw [if_pos ⟨trivial, trivial, by decide⟩, if_pos (by simp only [Nat.zero_add, Nat.mul_one]; rw [hfl]; exact hfit)]
          rw [Nat.zero_add, Nat.mul_one, wrH_at hb5 rfl, hlay]; rfl
        · have hsn : Sl (h5.set b ⟨.own, flats (xs.take k ++ zs) ++ (flats xs).drop (k + zs.length)⟩) (.slice b 0 (k + zs.length) (.o 1)) (xs.take k ++ zs) := by
            refine ⟨by omega, .inr ⟨b, 0, .o 1, by rw [hnl], .inr ⟨_, by rw [List.getElem?_set_self (get_lt hb5)], by simp, ?_⟩⟩⟩
            have hf2 : (flats (xs.take k ++ zs)).length = k + zs.length := by rw [flats_len, hsz, Nat.mul_one, hnl]
            rw [hnl, hsz, Nat.mul_one]
            simp only [cut]
            rw [if_pos (by rw [List.length_append]; omega), List.drop_zero, List.take_append_of_le_length (by omega), ← hf2, List.take_length]
          obtain ⟨F2, sF2, _⟩ := hsn.sdF (α := Int) rfl
          exact ⟨F2, sF2⟩
        · have : i ≠ b := fun e => hi ⟨_, _, _, by rw [e]⟩
          rw [List.getElem?_set_ne (Ne.symm this)]; exact h6
      · refine ⟨.slice h5.length 0 (k + zs.length) (.o 1), h5.set b ⟨.dead, flats xs⟩ ++ [⟨.own, flats (xs.take k) ++ flats zs⟩], ?_, ?_, fun i blk hi h6 hd => ?_, by simp⟩
        · simp only [appH, Nat.ne_of_gt hz, if_false, hb5]
          rw [if_pos ⟨trivial, trivial, by decide⟩, if_neg (by simp only [Nat.zero_add, Nat.mul_one]; rw [hfl]; exact hfit), if_pos ⟨by unfold room; omega, by unfold room; omega⟩]
          rw [Nat.mul_one, hcut]; rfl
        · have hsn : Sl (h5.set b ⟨.dead, flats xs⟩ ++ [⟨.own, flats (xs.take k) ++ flats zs⟩]) (.slice h5.length 0 (k + zs.length) (.o 1)) (xs.take k ++ zs) := by
            have := Sl.whole (h := h5.set b ⟨.dead, flats xs⟩ ++ [⟨.own, flats (xs.take k) ++ flats zs⟩]) (xs := xs.take k ++ zs) (b := h5.length) (blk := ⟨.own, flats (xs.take k) ++ flats zs⟩) (.o 1) (by simp) (by simp) (by rw [flats_append]) (by omega)
            rwa [hnl] at this
          obtain ⟨F2, sF2, _⟩ := hsn.sdF (α := Int) rfl
          exact ⟨F2, sF2⟩
        · have : i ≠ b := fun e => hi ⟨_, _, _, by rw [e]⟩
          rw [List.getElem?_append_left (by simp; exact get_lt h6), List.getElem?_set_ne (Ne.symm this)]; exact h6
  · simp at hk; subst hk
    refine ⟨.slice b 0 0 (.k 0), rfl, ⟨[], ⟨by simp, .inr ⟨b, 0, .k 0, rfl, Nat.le_refl _, .inl ⟨rfl, rfl⟩⟩⟩, by simp⟩, fun h5 zs kk hl hz hz2 => ?_⟩
    have o := Out.empty (lo := 0) (h := h5) (α := Int) (b := b) (Nat.zero_le _) (by omega)
    obtain ⟨v', h6, e, o', k', l', _⟩ := o.app zs hz (bytes := 8) (by decide) (by simp; omega) (k := 1) rfl rfl rfl
    obtain ⟨F, s, _⟩ := o'.fr
    exact ⟨v', h6, e, ⟨F, by simpa using s⟩, k', by omega⟩

theorem drawDoneBy_ok {h : Heap} {v : V} {bs : List Byte} (hs : Sl h v bs) : ∃ r h', call p 586 [v] h = some (r, h') ∧ ∃ (w u : V) (l : List (List Int)) (F G : List Nat) (xs : List Int), r = .tup [w, u] ∧ SdF h' w l F ∧ SdF h' u xs G ∧ xs.length ≤ 40 ∧ Keeps h h' ∧ h.length ≤ h'.length := by
  have d0 := DC.start hs
  obtain ⟨w, h1, e1, l, F, s1, hx, hF, d1, k1, l1⟩ := d0.links (by decide)
  obtain ⟨u, h2, e2, xs, o2, hxl, d2, k2, l2⟩ := d1.shuffled (by omega) l.length (by omega)
  simp at l1 e1 hF
  have neF : ∀ b ∈ F, b ≠ h.length := fun b hb => by have := hF b hb; omega
  have s2 := s1.keeps (k2.P.mono neF)
  have nv : ∀ b ∈ F, ¬ vB u b := fun b hb hv => by
    have := (o2.ge hv).1
    obtain ⟨blk, hq, _⟩ := s1.lt hb
    have := get_lt hq; omega
  have nu : ∀ i, vB u i → i ≠ h.length := fun i hi => by have := (o2.ge hi).1; omega
  refine go (fn := g586) rfl rfl fun R hR => ?_
  have tailF : ∀ (k : Nat) (t : V) (h3 : Heap) (M : Nat) (hM : M < 2 ^ 57), k ≤ xs.length → slcV 1 u none (some k) none = some t → DC h h3 M → KeepsBut h.length h2 h3 → h2.length ≤ h3.length →
      ∃ one h4, call p 92 [.ptr h.length 0, vi 30] h3 = some (.bool one, h4) ∧ (one = false → R (.tup [w, t]) h4) ∧ (one = true → ∃ v' h5, appH 1 8 t 2 [vi 0, vi 0] (h4 ++ [⟨.own, [vi 0, vi 0]⟩]) = some (v', h5) ∧ R (.tup [w, v']) h5) := by
    intro k t h3 M hM hk et d3 k3 l3
    obtain ⟨u2, eu, ⟨Fu, su, hFu⟩, happ⟩ := o2.preApp (by omega) hk
    rw [et] at eu; cases eu
    obtain ⟨one, h4, e4, d4, k4, l4⟩ := d3.one (by omega) 30 (by decide)
    have k34 := k3.trans k4
    have hxk : (xs.take k).length ≤ 20 := by rw [List.length_take]; omega
    refine ⟨one, h4, e4, fun _ => ?_, fun _ => ?_⟩
    · exact hR _ _ ⟨w, t, l, F, Fu, _, rfl, s2.keeps (k34.P.mono neF), su.keeps (k34.P.mono fun b hb => nu b (hFu b hb).1), by omega, d4.keep, by omega⟩
    · have kl : Keeps h4 (h4 ++ [⟨.own, [vi 0, vi 0]⟩]) := Keeps.append _ _
      obtain ⟨v', h5, e5, ⟨F5, s5⟩, k5, l5⟩ := happ (h4 ++ [⟨.own, [vi 0, vi 0]⟩]) [0, 0] ((k34.P.trans (kl.p _)).mono nu) (by simp; omega) (by simp) (by simp)
      refine ⟨v', h5, e5, hR _ _ ⟨w, v', l, F, F5, _, rfl, ((s2.keeps (k34.P.mono neF)).keep kl).keeps (k5.mono nv), s5, by simp; omega, ?_, by simp at l5; omega⟩⟩
      exact Keeps.far (n := h.length) (d4.keep.trans kl) k5 (Nat.le_refl _) fun i hi hv => by have := (o2.ge hv).1; omega
  by_cases h0 : xs.length = 0
  · have hn : xs = [] := List.length_eq_zero_iff.1 h0
    have et : slcV 1 u none (some xs.length) none = some u := by
      have ol := o2.sl.len
      obtain ⟨_, _, ⟨rfl, rfl⟩ | ⟨b, rfl, hb, h3⟩ | ⟨b, rfl, rfl, h3, h4⟩⟩ := o2
      · rfl
      · simp [slcV, Flat.sz]
      · rfl
    obtain ⟨one, h4, e4, r1, r2⟩ := tailF xs.length u h2 _ (by omega) (Nat.le_refl _) et d2 (KeepsBut.refl _ _) (Nat.le_refl _)
    have hl0 : l.length = 0 := by omega
    cases one with
    | false =>
      simp [g586, hs.cells, hs.cell, fillL, e1, s1.len, e2, o2.sl.len, h0, e4]
      exact r1 rfl
    | true =>
      obtain ⟨v', h5, e5, r3⟩ := r2 rfl
      simp [g586, hs.cells, hs.cell, fillL, e1, s1.len, e2, o2.sl.len, h0, e4, rdS_last, e5]
      exact r3
  · have w1 : IntKind.i64.wrap ((xs.length : Int) + 1) = (xs.length + 1 : Nat) := by rw [IntWalk.i64_in] <;> omega
    obtain ⟨one, h3, e3, d3, k3, l3⟩ := d2.one (by omega) 2 (by decide)
    have hpos : (0 : Int) < xs.length := by omega
    have hposn : 0 < xs.length := by omega
    cases one with
    | false =>
      have et : slcV 1 u none (some xs.length) none = some u := by
        have ol := o2.sl.len
        obtain ⟨_, _, ⟨rfl, rfl⟩ | ⟨b, rfl, hb, h3⟩ | ⟨b, rfl, rfl, h3, h4⟩⟩ := o2
        · rfl
        · simp [slcV, Flat.sz]
        · rfl
      obtain ⟨one, h4, e4, r1, r2⟩ := tailF xs.length u h3 _ (by omega) (Nat.le_refl _) et d3 k3 (by omega)
      cases one with
      | false =>
        simp [g586, hs.cells, hs.cell, fillL, e1, s1.len, e2, o2.sl.len, h0, hpos, hposn, e3, e4]
        exact r1 rfl
      | true =>
        obtain ⟨v', h5, e5, r3⟩ := r2 rfl
        simp [g586, hs.cells, hs.cell, fillL, e1, s1.len, e2, o2.sl.len, h0, hpos, hposn, e3, e4, rdS_last, e5]
        exact r3
    | true =>
      obtain ⟨a, h4, e4, ha, d4, k4, l4⟩ := d3.pick (by omega) ((xs.length + 1 : Nat) : Int) (by omega)
      have hak : a ≤ xs.length := by omega
      obtain ⟨t, et, _⟩ := o2.preApp (by omega) hak
      obtain ⟨one, h5, e5, r1, r2⟩ := tailF a t h4 _ (by omega) hak et d4 (k3.trans k4) (by omega)
      cases one with
      | false =>
        simp [g586, hs.cells, hs.cell, fillL, e1, s1.len, e2, o2.sl.len, h0, hpos, hposn, e3, w1, e4, bounds, takeB, et, e5, -Int.natCast_add]
        exact r1 rfl
      | true =>
        obtain ⟨v', h6, e6, r3⟩ := r2 rfl
        simp [g586, hs.cells, hs.cell, fillL, e1, s1.len, e2, o2.sl.len, h0, hpos, hposn, e3, w1, e4, bounds, takeB, et, e5, rdS_last, e6, -Int.natCast_add]
        exact r3
end GL

namespace GL
open Go

theorem drawAgreeOn_ok {h : Heap} {v : V} {bs : List Byte} (hs : Sl h v bs) : ∃ r h', call p 592 [v] h = some (r, h') ∧ ∃ (a b w : V) (as xs ps : List Int) (Fa Fb : List Nat), r = .tup [a, b, w] ∧ SdF h' a as Fa ∧ SdF h' b xs Fb ∧ Sl h' w ps ∧ as.length ≤ 20 ∧ xs.length ≤ 20 ∧ Keeps h h' ∧ h.length ≤ h'.length := by
  have d0 := DC.start hs
  obtain ⟨n, h1, e1, hn, d1, k1, l1⟩ := d0.pick (by omega) 4 (by decide)
  simp at e1 l1
  refine go (fn := g592) rfl rfl fun R hR => ?_
  simp [g592, hs.cells, hs.cell, fillL, e1]
  refine Wc_dnM (M := [6, 7, 13, 14, 15, 16, 17, 18, 19, 20, 21, 22, 23, 24, 25]) rfl (fun k s => k ≤ 3 ∧ s.σ 7 = .v (vi k) ∧ (∃ (v : V) (xs : List Int), s.σ 6 = .v v ∧ Out (h.length + 1) s.h v xs ∧ xs.length ≤ 3 - k) ∧ DC h s.h (20 + 4 * (3 - k)) ∧ h.length + 1 ≤ s.h.length) n
    ⟨by omega, by simp, ⟨.nils, [], by simp, Out.nil (by simp [l1]), by simp⟩, d1.mono (by omega), by simp [l1]⟩ fun k s ⟨gk, g7, ⟨v6, xs, g6, ho, hxl⟩, dc, hl⟩ hM J hJ => ?_
  by_cases hk : 0 < k
  · obtain ⟨a, h2, e2, ha, d2, k2, l2⟩ := dc.pick (by omega) 5 (by decide)
    obtain ⟨b, h3, e3, hb, d3, k3, l3⟩ := d2.pick (by omega) 5 (by decide)
    have k23 := k2.trans k3
    have o3 : Out (h.length + 1) h3 v6 xs := ho.keeps k23.P (fun i hi => by have := (ho.ge hi).1; omega) (by omega)
    obtain ⟨v', h4, e4, o4, d4, k4, l4⟩ := Out.draw d3 (d3.keep.but _) (ho := o3) (by omega) (by omega) (12 * (a : Int) + b) (by omega) (k := 1) (bytes := 8) (cs := [vi (12 * (a : Int) + b)]) rfl (by decide) rfl
    have w1 : IntKind.i64.wrap (12 * (a : Int)) = 12 * a := by rw [IntWalk.i64_in] <;> omega
    have w2 : IntKind.i64.wrap (12 * (a : Int) + b) = 12 * a + b := by rw [IntWalk.i64_in] <;> omega
    have w3 : IntKind.i64.wrap ((k : Int) - 1) = (k - 1 : Nat) := by rw [IntWalk.i64_in] <;> omega
    simp [g592_0, hM, g7, g6, hk, e2, e3, w1, w2, w3, fillL, rdS_last, e4]
    exact hJ (k - 1) _ (by omega) ⟨by omega, by simp, ⟨v', _, by simp, o4, by simp; omega⟩, d4.mono (by omega), by show h.length + 1 ≤ h4.length; omega⟩
  · obtain ⟨one, h2, e2, d2, k2, l2⟩ := dc.one (by omega) 20 (by decide)
    have o2 : Out (h.length + 1) h2 v6 xs := ho.keeps k2.P (fun i hi => by have := (ho.ge hi).1; omega) (by omega)
    have tail : ∀ (w : V) (ps : List Int) (h3 : Heap), Sl h3 w ps → DC h h3 40 → (ps = [] ∨ bOf w ≠ h.length) → ∃ (x : V) (h4 : Heap) (b : Nat) (h5 : Heap) (y : V) (h6 : Heap), call p 567 [.ptr h.length 0, vi 5] h3 = some (x, h4) ∧ call p 91 [.ptr h.length 0, vi 2] h4 = some (vi b, h5) ∧ IntKind.i64.wrap (4 + (b : Int)) = 4 + b ∧ call p 567 [.ptr h.length 0, vi (4 + (b : Int))] h5 = some (y, h6) ∧ R (.tup [x, y, w]) h6 := by
      intro w ps h3 sw d3 hw
      obtain ⟨x, h4, e4, xs4, o4, l4, d4, k4, m4⟩ := d3.shuffled (by omega) 5 (by omega)
      obtain ⟨b, h5, e5, hb, d5, k5, m5⟩ := d4.pick (by omega) 2 (by decide)
      obtain ⟨y, h6, e6, xs6, o6, l6, d6, k6, m6⟩ := d5.shuffled (by omega) (4 + b) (by omega)
      have hlt := d3.lt
      have o4' : Out h3.length h6 x xs4 := (o4.keeps k5.P (fun i hi => by have := (o4.ge hi).1; omega) (by omega)).keeps k6.P (fun i hi => by have := (o4.ge hi).1; omega) (by omega)
      obtain ⟨Fx, sx, _⟩ := o4'.fr
      obtain ⟨Fy, sy, _⟩ := o6.fr
      refine ⟨x, h4, b, h5, y, h6, by simpa using e4, by simpa using e5, by rw [IntWalk.i64_in] <;> omega, by simpa using e6, ?_⟩
      exact hR _ _ ⟨x, y, w, xs4, xs6, ps, Fx, Fy, rfl, sx, sy, sw.but hw ((k4.trans k5).trans k6), by omega, by omega, d6.keep, by have := d6.lt; omega⟩
    have nv : ∀ (lo : Nat) (h9 : Heap) (v9 : V) (xs9 : List Int), lo = h.length + 1 → Out lo h9 v9 xs9 → xs9 = [] ∨ bOf v9 ≠ h.length := by
      intro lo h9 v9 xs9 hlo o
      obtain ⟨_, _, ⟨rfl, rfl⟩ | ⟨b1, rfl, hb1, _⟩ | ⟨b1, rfl, rfl, _⟩⟩ := o
      · exact .inl rfl
      · right; simp [bOf]; omega
      · exact .inl rfl
    cases one with
    | false =>
      obtain ⟨x, h4, b, h5, y, h6, f1, f2, f3, f4, f5⟩ := tail v6 xs h2 o2.sl (d2.mono (by omega)) (nv _ _ _ _ rfl o2)
      simp [g592_0, hM, g7, g6, hk, e2, f1, f2, f3, f4]
      exact f5
    | true =>
      obtain ⟨v', h3, e3, o3, d3, k3, l3⟩ := Out.draw d2 (d2.keep.but _) (ho := o2) (by omega) (by omega) (144 : Int) (by omega) (k := 1) (bytes := 8) (cs := [vi 144]) rfl (by decide) rfl
      obtain ⟨x, h4, b, h5, y, h6, f1, f2, f3, f4, f5⟩ := tail v' _ h3 o3.sl (d3.mono (by omega)) (nv _ _ _ _ rfl o3)
      simp [g592_0, hM, g7, g6, hk, e2, fillL, rdS_last, e3, f1, f2, f3, f4]
      exact f5

/-! what is done stands in the order of the whole -/
theorem idx_ne {x a : Int} (w : List Int) (h : x ≠ a) : (x :: w).idxOf a = w.idxOf a + 1 := by
  rw [List.idxOf_cons, beq_eq_false_iff_ne.2 h]; rfl
theorem idx_filter (q : Int → Bool) : ∀ {w : List Int}, ∀ {a b : Int}, a ∈ w → b ∈ w → q a = true → q b = true → ((w.filter q).idxOf a < (w.filter q).idxOf b ↔ w.idxOf a < w.idxOf b)
  | [], _, _, ha, _, _, _ => by simp at ha
  | x :: w, a, b, ha, hb, qa, qb => by
    by_cases hx : q x = true
    · rw [List.filter_cons_of_pos hx]
      by_cases hxa : x = a
      · subst hxa
        by_cases hxb : x = b
        · subst hxb; simp
        · rw [idx_ne _ hxb, idx_ne _ hxb]; simp
      · by_cases hxb : x = b
        · subst hxb; rw [idx_ne _ hxa, idx_ne _ hxa]; simp
        · have ha' : a ∈ w := by simpa [Ne.symm hxa] using ha
          have hb' : b ∈ w := by simpa [Ne.symm hxb] using hb
          have := idx_filter q ha' hb' qa qb
          rw [idx_ne _ hxa, idx_ne _ hxb, idx_ne _ hxa, idx_ne _ hxb]; omega
    · rw [List.filter_cons_of_neg hx]
      have hxa : x ≠ a := fun e => hx (e ▸ qa)
      have hxb : x ≠ b := fun e => hx (e ▸ qb)
      have ha' : a ∈ w := by simpa [Ne.symm hxa] using ha
      have hb' : b ∈ w := by simpa [Ne.symm hxb] using hb
      have := idx_filter q ha' hb' qa qb
      rw [idx_ne _ hxa, idx_ne _ hxb]; omega

theorem mem_outK {l : List (List Int)} (hg : linksB l = true) {xs : List Int} (hin : ∀ x ∈ xs, InR l x) (k : Nat) (x : Int) : x ∈ outK l xs k ↔ x ∈ readyL l (xs.take k) := by
  induction k with
  | zero => simp [outK, readyL]
  | succ k ih =>
    simp only [outK, List.mem_append, mem_nextL, ih]
    constructor
    · rintro (h | h)
      · rw [mem_readyL] at h ⊢
        have hs : ∀ y, y ∈ xs.take k → y ∈ xs.take (k + 1) := fun y hy => (List.take_prefix_take_left (Nat.le_succ k)).subset hy
        exact ⟨hs _ h.1, fun y hy => hs _ (h.2 y hy)⟩
      · exact h.2.1
    · intro h
      by_cases hx : x ∈ outK l xs k
      · left; exact ih.1 hx
      · right; exact ⟨((groupsL_facts hg).2.1 x).1 (hin x (List.mem_of_mem_take (mem_readyL.1 h).1)), h, fun h2 => hx (ih.2 h2)⟩
theorem place_idx {xs : List Int} {a : Int} (h : a ∈ xs) : placeL xs a = xs.idxOf a := by rw [placeL, if_pos h]
theorem ready_mono {l : List (List Int)} (hg : linksB l = true) {ds : List Int} {a b : Int} (ha : InR l a) (h : a ∈ readyL l ds) (r : Rch l a b) : b ∈ readyL l ds := by
  rw [mem_readyL] at h ⊢
  have hb := r.lt hg ha
  refine ⟨h.2 b ((mem_reachL hg ha).2 r), fun x hx => h.2 x ((mem_reachL hg ha).2 (r.trans ((mem_reachL hg hb).1 hx)))⟩
theorem outK_agree {l : List (List Int)} (hg : linksB l = true) {xs : List Int} (hin : ∀ x ∈ xs, InR l x) (k : Nat) : ∀ {a b : Int}, a ∈ outK l xs k → b ∈ outK l xs k → Rch l a b →
    ((outK l xs k).idxOf a < (outK l xs k).idxOf b ↔ (groupsL l).flatten.idxOf a < (groupsL l).flatten.idxOf b) := by
  induction k with
  | zero => intro a b ha; simp [outK] at ha
  | succ k ih =>
    intro a b ha hb r
    have wa := outK_in hg xs _ a ha
    have wb := outK_in hg xs _ b hb
    have fa := ((groupsL_facts hg).2.1 a).1 wa
    have fb := ((groupsL_facts hg).2.1 b).1 wb
    simp only [outK, List.mem_append] at ha hb ⊢
    by_cases ha1 : a ∈ outK l xs k
    · have hb1 : b ∈ outK l xs k := (mem_outK hg hin k b).2 (ready_mono hg wa ((mem_outK hg hin k a).1 ha1) r)
      rw [List.idxOf_append, List.idxOf_append, if_pos ha1, if_pos hb1]
      exact ih ha1 hb1 r
    · have ha2 : a ∈ nextL l (xs.take (k + 1)) (outK l xs k) := ha.resolve_left ha1
      by_cases hb1 : b ∈ outK l xs k
      · rw [List.idxOf_append, List.idxOf_append, if_neg ha1, if_pos hb1]
        have hbl := List.idxOf_lt_length_of_mem hb1
        have nr : ¬ Rch l b a := fun r2 => ha1 ((mem_outK hg hin k a).2 (ready_mono hg wb ((mem_outK hg hin k b).1 hb1) r2))
        have := place_le hg wa r nr
        rw [place_idx fa, place_idx fb] at this
        constructor <;> intro <;> omega
      · have hb2 : b ∈ nextL l (xs.take (k + 1)) (outK l xs k) := hb.resolve_left hb1
        rw [List.idxOf_append, List.idxOf_append, if_neg ha1, if_neg hb1]
        have e : nextL l (xs.take (k + 1)) (outK l xs k) = (groupsL l).flatten.filter fun n => decide (n ∈ readyL l (xs.take (k + 1))) && !decide (n ∈ outK l xs k) := by
          unfold nextL; rw [List.filter_filter]; congr 1; funext n; rw [Bool.and_comm]
        rw [e] at ha2 hb2 ⊢
        have := idx_filter (fun n => decide (n ∈ readyL l (xs.take (k + 1))) && !decide (n ∈ outK l xs k)) fa fb (List.mem_filter.1 ha2).2 (List.mem_filter.1 hb2).2
        omega
end GL

namespace GL
open Go

theorem sort585 {v : V} {xs : List Int} {F : List Nat} (s0 : S) (K : Ex → S → Prop) (hs : SdF s0.h v xs F) (ho : ∀ b ∈ F, OwnB s0.h b) (g15 : s0.σ 15 = .v v) (g95 : s0.σ 95 = .v (vi xs.length)) (g96 : s0.σ 96 = .v (vi 0))
    (hK : ∀ s ys, (∀ k, k ∉ [16, 17, 18, 96, 97, 98, 99, 100, 101, 102, 103, 104, 105, 106, 107, 108, 109, 110, 111, 112, 113, 114, 115, 116, 117, 118, 119, 120, 121, 122, 123, 124, 125, 126, 127, 128, 129, 130, 131, 132, 133] → s.σ k = s0.σ k) → SdF s.h v ys F → ys.Perm xs → ys.Pairwise (· ≤ ·) → KeepsP (fun b => b ∉ F) s0.h s.h → s.h.length = s0.h.length → K (.exit 0) s) : Wc p (.loop g585_1) s0 K := by
  have hbd := hs.bd
  refine Wc_upM (M := [16, 17, 18, 96, 97, 98, 99, 100, 101, 102, 103, 104, 105, 106, 107, 108, 109, 110, 111, 112, 113, 114, 115, 116, 117, 118, 119, 120, 121, 122, 123, 124, 125, 126, 127, 128, 129, 130, 131, 132, 133]) rfl xs.length
    (fun i s => s.σ 96 = .v (vi i) ∧ i ≤ xs.length ∧ ∃ ys, SdF s.h v ys F ∧ (∀ b, OwnB s0.h b → OwnB s.h b) ∧ ys.Perm xs ∧ (∀ a b, a < b → b < i → ys.getD a 0 ≤ ys.getD b 0) ∧ KeepsP (fun b => b ∉ F) s0.h s.h ∧ s.h.length = s0.h.length) 0
    ⟨by simp [g96], by omega, xs, hs, fun _ h => h, List.Perm.refl _, fun a b h1 h2 => by omega, KeepsP.refl _ _, rfl⟩ fun i s ⟨g6, i2, ys, q1, q2, q3, q4, q5, q6⟩ hM J hJ => ?_
  by_cases hn : i < xs.length
  · have hl := q3.length_eq
    have w1 : IntKind.i64.wrap ((i : Int) + 1) = (i + 1 : Nat) := by rw [IntWalk.i64_in] <;> omega
    simp [g585_1, hM, g6, hn, g95]
    refine Wc_dnM (M := [17, 18, 100, 101, 102, 103, 104, 105, 106, 107, 108, 109, 110, 111, 112, 113, 114, 115, 116, 117, 118, 119, 120, 121, 122, 123, 124, 125, 126, 127, 128, 129, 130, 131, 132]) rfl
      (fun k t => k ≤ i ∧ t.σ 17 = .v (vi k) ∧ ∃ zs, SdF t.h v zs F ∧ (∀ b, OwnB s0.h b → OwnB t.h b) ∧ zs.Perm xs ∧ (∀ a b, a < b → b ≤ i → a ≠ k → b ≠ k → zs.getD a 0 ≤ zs.getD b 0) ∧ (∀ b, k < b → b ≤ i → zs.getD k 0 ≤ zs.getD b 0) ∧ KeepsP (fun b => b ∉ F) s0.h t.h ∧ t.h.length = s0.h.length) i
      ⟨Nat.le_refl _, by simp, ys, q1, q2, q3, fun a b h1 h2 h3 h4 => q4 a b h1 (by omega), fun b h1 h2 => by omega, q5, q6⟩ fun k t ⟨gk, g7, zs, r1, r2, r3, r4, r5, r6, r7⟩ hM2 J2 hJ2 => ?_
    have hzl := r3.length_eq
    have done : (k = 0 ∨ zs.getD (k - 1) 0 ≤ zs.getD k 0) → ∀ a b, a < b → b < i + 1 → zs.getD a 0 ≤ zs.getD b 0 := fun hk a b hab hb => by
      by_cases e1 : a = k
      · subst e1; exact r5 b hab (by omega)
      · by_cases e2 : b = k
        · subst e2
          rcases hk with hk | hk
          · omega
          · by_cases e3 : a = b - 1
            · rw [e3]; exact hk
            · exact Int.le_trans (r4 a (b - 1) (by omega) (by omega) e1 (by omega)) hk
        · exact r4 a b hab (by omega) e1 e2
    by_cases hk0 : 0 < k
    · have w2 : IntKind.i64.wrap ((k : Int) - 1) = (k - 1 : Nat) := by rw [IntWalk.i64_in] <;> omega
      have hk : k < zs.length := by omega
      have hk1 : k - 1 < zs.length := by omega
      have l1 := r1.sl.loadI k hk
      have l2 := r1.sl.loadI (k - 1) hk1
      have ix := r1.idx 1 .i64 k hk
      have iy := r1.idx 1 .i64 (k - 1) hk1
      simp only [Nat.mul_one] at ix iy
      by_cases hlt : zs[k] < zs[k - 1]
      · obtain ⟨h2, e2, s2, k2, len2, o2⟩ := r1.putI (fun b hb => by
          obtain ⟨cs, hc⟩ := r2 b (ho b hb); exact ⟨cs, hc⟩) hk zs[k - 1]
        obtain ⟨h3, e3, s3, k3, len3, o3⟩ := s2.putI (fun b hb => o2 b (r2 b (ho b hb))) (i := k - 1) (by simpa using hk1) zs[k]
        simp [g585_0, hM2, hM, g7, hk0, w2, ix, iy, l1, l2, hlt, e2, e3, g15]
        refine hJ2 (k - 1) _ (by omega) ⟨by omega, by simp, _, s3, fun b hb => o3 b (o2 b (r2 b hb)), (List.set_set_perm hk hk1).trans r3, ?_, ?_, r6.trans ((k2.trans k3).mono fun b hb e => hb (by rw [e]; exact r1.bIn hk)), by show h3.length = s0.h.length; omega⟩
        · intro a b hab hb e1 e2'
          simp only [getD_set, List.length_set]
          have ga := getD_at hk1 0
          have gb := getD_at hk 0
          by_cases c1 : b = k
          · subst c1
            rw [if_neg (by omega), if_neg (by omega), if_neg (by omega), if_pos (by first | exact ⟨rfl, hk⟩ | exact ⟨trivial, hk⟩), ← ga]
            exact r4 a (b - 1) (by omega) (by omega) (by omega) (by omega)
          · by_cases c2 : a = k
            · subst c2
              rw [if_neg (by omega), if_pos (by first | exact ⟨rfl, hk⟩ | exact ⟨trivial, hk⟩), if_neg (by omega), if_neg (by omega), ← ga]
              exact r4 (a - 1) b (by omega) hb (by omega) (by omega)
            · rw [if_neg (by omega), if_neg (by omega), if_neg (by omega), if_neg (by omega)]
              exact r4 a b hab hb c2 c1
        · intro b hb1 hb2
          simp only [getD_set, List.length_set]
          have ga := getD_at hk1 0
          have gb := getD_at hk 0
          rw [if_pos (by first | exact ⟨rfl, hk1⟩ | exact ⟨trivial, hk1⟩), if_neg (by omega)]
          by_cases c1 : b = k
          · subst c1
            rw [if_pos (by first | exact ⟨rfl, hk⟩ | exact ⟨trivial, hk⟩)]; omega
          · rw [if_neg (by omega), ← gb]
            exact r5 b (by omega) hb2
      · simp [g585_0, hM2, hM, g7, hk0, w2, ix, iy, l1, l2, hlt, g6, w1, g15, -Int.natCast_add]
        exact hJ _ hn ⟨by simp, by omega, zs, r1, r2, r3, done (.inr (by rw [getD_at hk, getD_at hk1]; omega)), r6, r7⟩
    · simp [g585_0, hM2, hM, g7, hk0, g6, w1, g15, -Int.natCast_add]
      exact hJ _ hn ⟨by simp, by omega, zs, r1, r2, r3, done (.inl (by omega)), r6, r7⟩
  · simp [g585_1, hM, g6, hn, g95]
    have hl := q3.length_eq
    refine hK _ ys (fun k hk => by have := hM k hk; simp only [upd]; rw [if_neg (by rintro rfl; simp at hk)]; exact this) q1 q3 ?_ q5 q6
    rw [List.pairwise_iff_getElem]
    intro a b ha hb hab
    have := q4 a b hab (by omega)
    rwa [getD_at ha, getD_at hb] at this

theorem ready_perm {l : List (List Int)} {ds ds' : List Int} (h : ∀ x, x ∈ ds ↔ x ∈ ds') (x : Int) : x ∈ readyL l ds ↔ x ∈ readyL l ds' := by
  rw [mem_readyL, mem_readyL, h]
  exact and_congr_right fun _ => forall_congr' fun y => imp_congr_right fun _ => h y
def pairOK (l : List (List Int)) (d : List Int) (p : Int) : Prop := ∃ a b : Int, p = 12 * a + b ∧ a ∈ d ∧ Rch l a b
theorem done_agree {l : List (List Int)} {xs ps : List Int} (hd : dnB l xs = true) (h60 : ps.length ≤ 60) (hp : ∀ p ∈ ps, pairOK l (dnR l xs) p) : agOK (dnR l xs) (whR l) ps = true ∧ agV (dnR l xs) (whR l) ps = true := by
  obtain ⟨hg, _, hin, _, hxl, h12⟩ := dnB_facts hd
  have hdr : dnR l xs = outK l xs xs.length := by rw [dnR, if_pos hd]
  have hwr : whR l = (groupsL l).flatten := by rw [whR, if_pos hg]
  rw [hdr] at hp
  rw [hdr, hwr]
  have hf := groupsL_facts hg
  have i1 := outK_in hg xs xs.length
  have hok : agOK (outK l xs xs.length) (groupsL l).flatten ps = true := by
    simp only [agOK, Bool.and_eq_true, decide_eq_true_eq, onceB, List.all_eq_true]
    refine ⟨⟨⟨⟨fun x hx => ?_, outK_nodup hg xs xs.length⟩, ⟨fun x hx => ?_, hf.1⟩⟩, h60⟩, fun p hp' => ?_⟩
    · have := i1 x hx; unfold InR at this; omega
    · have := (hf.2.1 x).2 hx; unfold InR at this; omega
    · obtain ⟨a, b, rfl, ha, r⟩ := hp p hp'
      have h1 := i1 a ha
      have h2 := r.lt hg h1
      unfold InR at h1; omega
  refine ⟨hok, ?_⟩
  rw [agV, hok, Bool.true_and, List.all_eq_true]
  intro p hp'
  obtain ⟨a, b, rfl, ha, r⟩ := hp p hp'
  have h1 := i1 a ha
  have h2 := r.lt hg h1
  have h1' := h1
  unfold InR at h1'
  have t1 : (12 * a + b).tdiv 12 = a := by rw [Int.tdiv_eq_ediv_of_nonneg (by omega)]; omega
  have t2 : (12 * a + b).tmod 12 = b := by rw [Int.tmod_eq_emod_of_nonneg (by omega)]; omega
  simp only [agQ, agH, t1, t2]
  by_cases hb : b ∈ outK l xs xs.length
  · have wa := (hf.2.1 a).1 h1
    have wb := (hf.2.1 b).1 h2
    rw [place_idx ha, place_idx hb, place_idx wa, place_idx wb]
    have := outK_agree hg hin xs.length ha hb r
    have e : (((outK l xs xs.length).idxOf a : Int) < ((outK l xs xs.length).idxOf b : Int)) ↔ (((groupsL l).flatten.idxOf a : Int) < ((groupsL l).flatten.idxOf b : Int)) := by
      rw [Int.ofNat_lt, Int.ofNat_lt]; exact this
    simp [e]
  · simp [hb]
theorem ready_count {l : List (List Int)} {xs ys : List Int} (hd : dnB l xs = true) (hp : ys.Perm xs) (hr : ys.Pairwise (· < ·)) : knownB l ys = true ∧ (readyL l ys).length = (dnR l xs).length ∧ ∀ x ∈ dnR l xs, x ∈ readyL l ys := by
  obtain ⟨hg, _, hin, hn, hxl, h12⟩ := dnB_facts hd
  have hdr : dnR l xs = outK l xs xs.length := by rw [dnR, if_pos hd]
  rw [hdr]
  have hm : ∀ x, x ∈ outK l xs xs.length ↔ x ∈ readyL l ys := fun x => by
    rw [mem_outK hg hin, List.take_length]; exact ready_perm (fun y => hp.symm.mem_iff) x
  have n1 : (readyL l ys).Nodup := List.Sublist.nodup List.filter_sublist (hp.symm.nodup hn)
  refine ⟨?_, Nat.le_antisymm (sub_len n1 fun x hx => (hm x).2 hx) (sub_len (outK_nodup hg xs _) fun x hx => (hm x).1 hx), fun x hx => (hm x).1 hx⟩
  simp only [knownB, hg, Bool.true_and, risB, decide_eq_true_eq]
  exact ⟨fun x hx => by have := hin x (hp.mem_iff.1 hx); unfold InR at this; omega, hr⟩
end GL

namespace GL
open Go

theorem oneB {lo : Nat} {h : Heap} {v : V} {xs : List Int} (ho : Out lo h v xs) (x : Int) (hx : xs.length ≤ 2 ^ 20) :
    ∃ v' h', appH 1 8 v 1 [vi x] (h ++ [⟨.own, [vi x]⟩]) = some (v', h') ∧ Out lo h' v' (xs ++ [x]) ∧ KeepsP (fun i => ¬ vB v i) h h' ∧ h.length < h'.length ∧ ∀ i, vB v' i → h.length ≤ i := by
  have o3 : Out lo (h ++ [⟨.own, [vi x]⟩]) v xs := (Keeps.append h _).out ho (by simp)
  obtain ⟨v', h', e4, o4, k4, l4, b4⟩ := o3.app [x] (by simp) (bytes := 8) (by decide) (by simp; omega) (k := 1) rfl (n := 1) rfl (ys := [vi x]) rfl
  exact ⟨v', h', e4, o4, fun i blk hi h1 h2 => k4 i blk hi (Keeps.append h _ i blk h1 h2) h2, by simp at l4; omega, fun i hi => by have := b4 i hi; simp at this; omega⟩
theorem ReachOfF_ok {h : Heap} {v : V} {l : List (List Int)} {F : List Nat} (hs : SdF h v l F) (k : Int) (hk : nodeB l k = true) :
    ∃ r h', call p 501 [v, vi k] h = some (r, h') ∧ ∃ o G, r = .tup [o, .bool true] ∧ SdF h' o (reachL l k) G ∧ Fresh h.length h' G ∧ Keeps h h' ∧ h.length ≤ h'.length := by
  obtain ⟨hl, hk⟩ := nodeB_facts hk
  obtain ⟨_, h1, e1, rfl, k1, l1⟩ := GoodLinks_ok hs
  rw [hl] at e1
  have h12 := (linksB_facts hl).1
  unfold InR at hk
  have w : IntKind.i64.wrap ((l.length : Int) - 1) = (l.length : Int) - 1 := by rw [IntWalk.i64_in] <;> omega
  have hk' : 0 ≤ k ∧ k ≤ (l.length : Int) - 1 := by omega
  obtain ⟨r, h2, e2, G, s2, f2, k2, l2⟩ := reach_ok (hs.keep k1) hl k hk
  refine go (fn := g501) rfl rfl fun R hR => ?_
  simp [g501, e1, hs.len, w, hk', e2]
  exact hR _ _ ⟨r, G, rfl, s2, f2.mono l1, k1.trans k2, by omega⟩
theorem done_tail {h : Heap} {v : V} {bs : List Byte} (hb : Sl h v bs) : ∃ (a b w : V) (h1 h2 : Heap) (x y : Bool), call p 592 [v] h = some (.tup [a, b, w], h1) ∧ call p 591 [a, b, w] h1 = some (.tup [.bool x, .bool y], h2) ∧ call p 593 [a, b, w] h2 = some (.tup [.bool x, .bool y], h2) := by
  obtain ⟨_, h1, e1, a, b, w, as, xs, ps, Fa, Fb, rfl, sa, sb, sp, la, lb, k1, l1⟩ := drawAgreeOn_ok hb
  obtain ⟨_, h2, e2, rfl, k2, l2⟩ := AgreeOn_ok sa.sl sb.sl sp (by omega) (by omega)
  have e3 := AgreeOnS_ok (sa.keep k2) (sb.keep k2) (sp.keeps k2)
  exact ⟨a, b, w, h1, h2, _, _, e1, e2, e3⟩

set_option maxRecDepth 20000 in
theorem FnDone_ok {h : Heap} {va vb : V} {as bs : List Byte} (ha : Sl h va as) (hb : Sl h vb bs) : ∃ r h', call p 585 [va, vb] h = some (r, h') ∧ r = .bool true := by
  refine go (fn := g585) rfl rfl fun R hR => ?_
  by_cases hbig : (1048576 : Int) < IntKind.i64.wrap ((as.length : Int) + bs.length)
  · simp [g585, ha.len, hb.len, hbig]
    exact hR _ _ rfl
  · obtain ⟨_, h1, e1, w, u, l, F, G, xs, rfl, s1, s2, hxl, k1, l1⟩ := drawDoneBy_ok ha
    obtain ⟨_, h2, e2, o2, G2, rfl, t2, k2, l2⟩ := DoneBy_ok s1 s2.sl (by omega)
    obtain ⟨_, h3, e3, o3, rfl, t3, k3, l3⟩ := DoneByS2_ok (s1.keep k2) (s2.keep k2)
    obtain ⟨_, h4, e4, o4, rfl, t4, k4, l4⟩ := WholeOrder_ok (s1.keep (k2.trans k3))
    obtain ⟨_, h5, e5, o5, rfl, t5, k5, l5⟩ := WholeOrderS_ok (s1.keep ((k2.trans k3).trans k4))
    have k35 := (k3.trans k4).trans k5
    have k25 := k2.trans k35
    have f1 := sameInts_eq (t2.sl.keeps k35) (t3.keeps (k4.trans k5))
    have f2 := sameInts_eq (t4.keeps k5) t5
    rw [decide_eq_true rfl] at f1 f2
    cases hd : dnB l xs with
    | false =>
      rw [hd] at e2 e3
      obtain ⟨a, b, w9, h6, h7, x, y, q1, q2, q3⟩ := done_tail (hb.keeps (k1.trans k25))
      simp [g585, ha.len, hb.len, hbig, e1, e2, e3, e4, e5, f1, f2, q1, q2, q3]
      exact hR _ _ rfl
    | true =>
      rw [hd] at e2 e3
      obtain ⟨hg, hon, hin, hn, hxl2, h12⟩ := dnB_facts hd
      rw [hg] at e4 e5
      have hxs := s2.sl.keeps k25
      have kl : Keeps h5 (h5 ++ [⟨.own, []⟩]) := Keeps.append _ _
      obtain ⟨ys6, v6, h6, e6, e7, o6, k6, l6, b6⟩ := (Out.empty (α := Int) (lo := h5.length) (h := h5 ++ [⟨.own, []⟩]) (b := h5.length) (Nat.le_refl _) (by simp)).appT (hxs.keeps kl) (bytes := 8) (by decide) (by simp; omega) (k := 1) rfl (n := xs.length) rfl
      simp only [List.nil_append] at o6
      have k56 : Keeps h5 h6 := Keeps.far (n := h5.length) kl k6 (Nat.le_refl _) fun i hi ⟨_, _, _, e⟩ => by cases e; omega
      obtain ⟨F6, s6, fr6⟩ := o6.fr
      simp at l6
      simp [g585, ha.len, hb.len, hbig, e1, e2, e3, e4, e5, f1, f2, hxs.len, e6, e7, o6.sl.len]
      refine sort585 _ _ s6 fr6.own (by simp) (by simp) (by simp) fun s ys hM sy hperm hris kp hlen => ?_
      have kA : Keeps h5 s.h := Keeps.far (n := h5.length) k56 kp (Nat.le_refl _) fun i hi hF => by have := fr6.ge i hF; omega
      have hlt := sorted_nodup hris (hperm.symm.nodup hn)
      obtain ⟨hkn, hcnt, hmem⟩ := ready_count hd hperm hlt
      obtain ⟨_, h7, e8, o7, G7, rfl, t7, k7, l7⟩ := ReadyOf_ok (s1.keep (k25.trans kA)) sy.sl
      rw [hkn] at e8 t7
      simp only [if_true] at t7
      have hlen7 := t7.len
      rw [hcnt] at hlen7
      have t2' := t2.keep ((k35.trans kA).trans k7)
      have s1' := s1.keep ((k25.trans kA).trans k7)
      have t4' := (t4.keeps ((k5.trans kA).trans k7))
      have hd12 := dnR_len (l := l) xs
      have hdr : dnR l xs = outK l xs xs.length := by rw [dnR, if_pos hd]
      have hdn : (dnR l xs).Nodup := by rw [hdr]; exact outK_nodup hg xs _
      have hdi : ∀ x ∈ dnR l xs, InR l x := by rw [hdr]; exact outK_in hg xs _
      have hwl : (whR l).length ≤ 12 := by rw [whR, if_pos hg, groupsL_flat hg]; exact h12
      have kB : Keeps h h7 := ((k1.trans k25).trans kA).trans k7
      generalize hdd : dnR l xs = dd at *
      have t2l := t2'.len
      simp [hM, e8, hlen7, t2l]
      refine Wc_upM (M := [4, 21, 22, 23, 24, 25, 27, 155, 156, 157, 158, 159, 160, 161, 162, 163, 164, 165, 166, 167, 168, 169, 170, 171, 172, 173, 174, 175, 176, 177, 178, 179, 180, 181, 182, 183, 184, 185, 186, 187, 188, 189, 190, 191, 192, 193, 194, 195, 196]) rfl dd.length (fun i s => i ≤ dd.length ∧ s.σ 155 = .v (vi i) ∧ (∃ (v : V) (ps : List Int), s.σ 21 = .v v ∧ Out h7.length s.h v ps ∧ ps.length ≤ 60 ∧ ∀ p ∈ ps, pairOK l dd p) ∧ Keeps h7 s.h) 0
        ⟨by omega, by simp, ⟨.nils, [], by simp, Out.nil (Nat.le_refl _), by simp, by simp⟩, Keeps.refl _⟩ fun i t ⟨gi, g155, ⟨v21, ps, g21, op, pl, hp⟩, hk⟩ hM2 J hJ => ?_
      by_cases hi : i < dd.length
      · have t2t := t2'.keep hk
        have ix := t2t.idx 1 .i64 i hi
        simp only [Nat.mul_one] at ix
        have ld := t2t.sl.loadI i hi
        have st := t2t.step hi
        have hmi : dd[i] ∈ dd := List.getElem_mem hi
        have c1 := has_eq (t7.sl.keeps hk) dd[i]
        rw [decide_eq_true (hmem _ hmi)] at c1
        obtain ⟨pu, Gp, ep, sp, _⟩ := t2t.pre (i := i) (by omega)
        have c2 := has_eq sp.sl dd[i]
        have hnt : dd[i] ∉ dd.take i := fun hm => by
          rw [List.mem_take_iff_getElem] at hm
          obtain ⟨j, hj, e⟩ := hm
          have := (List.getElem_inj hdn).1 e
          omega
        rw [decide_eq_false hnt] at c2
        have hnb : nodeB l dd[i] = true := by
          have := hdi _ hmi
          simp only [nodeB, hg, Bool.true_and, decide_eq_true_eq]; unfold InR at this; omega
        obtain ⟨_, h8, e9, o9, G9, rfl, t9, f9, k9, l9⟩ := ReachOfF_ok (s1'.keep hk) dd[i] hnb
        have hri : InR l dd[i] := hdi _ hmi
        have hrl := reachL_len hg hri
        have op8 : Out h7.length h8 v21 ps := op.keeps (k9.p fun _ => True) (fun _ _ => trivial) l9
        generalize dd[i] = a at *
        simp [g585_3, hM2, hM, g155, hi, ix, ld, c1, bounds, takeB, ep, c2, e9, t9.len]
        refine Wc_upM (M := [21, 27, 181, 182, 183, 184, 185, 186, 187, 188, 189, 190, 191, 192, 193, 194, 195]) rfl (reachL l a).length (fun j s => j ≤ (reachL l a).length ∧ s.σ 181 = .v (vi j) ∧ (∃ (v : V) (ps : List Int), s.σ 21 = .v v ∧ Out h7.length s.h v ps ∧ ps.length ≤ 60 ∧ (∀ p ∈ ps, pairOK l dd p) ∧ ∀ b ∈ G9, ¬ vB v b) ∧ SdF s.h o9 (reachL l a) G9 ∧ Keeps h7 s.h) 0
          ⟨by omega, by simp, ⟨v21, ps, by simp [g21], op8, pl, hp, fun b hb hv => by have := (op.ge hv).2; have := f9.ge b hb; omega⟩, t9, hk.trans k9⟩ fun j t2 ⟨gj, g181, ⟨v22, ps2, g22, op2, pl2, hp2, hG2⟩, t9t, hk2⟩ hM3 J2 hJ2 => ?_
        by_cases hj : j < (reachL l a).length
        · have ix2 := t9t.idx 1 .i64 j hj
          simp only [Nat.mul_one] at ix2
          have ld2 := t9t.sl.loadI j hj
          have st2 := t9t.step hj
          have hrm : Rch l a (reachL l a)[j] := (mem_reachL hg hri).1 (List.getElem_mem hj)
          have hbi := hrm.lt hg hri
          unfold InR at hri
          generalize (reachL l a)[j] = b at *
          have w1 : IntKind.i64.wrap (12 * a) = 12 * a := by rw [IntWalk.i64_in] <;> omega
          have w2 : IntKind.i64.wrap (12 * a + b) = 12 * a + b := by rw [IntWalk.i64_in] <;> omega
          have o2l := op2.sl.len
          by_cases h60 : ps2.length < 60
          · have h60i : (ps2.length : Int) < 60 := by omega
            obtain ⟨v', h9, e10, o10, k10, l10, b10⟩ := oneB op2 (12 * a + b) (by omega)
            simp [g585_2, hM3, hM2, hM, g181, g22, hj, ix2, ld2, o2l, h60i, w1, w2, fillL, rdS_last, e10, st2]
            exact hJ2 _ hj ⟨hj, by simp, ⟨v', ps2 ++ [12 * a + b], by simp, o10, by simp; omega, fun p hp' => by
              rcases List.mem_append.1 hp' with h | h
              · exact hp2 p h
              · simp at h; subst h; exact ⟨a, b, rfl, hmi, hrm⟩, fun q hq hv => by have := b10 q hv; have := t9t.ltF hq; omega⟩, t9t.keeps (k10.mono hG2), op2.far hk2 k10 (Nat.le_refl _)⟩
          · have h60i : ¬ (ps2.length : Int) < 60 := by omega
            simp [g585_2, hM3, hM2, hM, g181, g22, hj, ix2, ld2, o2l, h60i, st2]
            exact hJ2 _ hj ⟨hj, by simp, ⟨v22, ps2, by simp [g22], op2, pl2, hp2, hG2⟩, t9t, hk2⟩
        · simp [g585_2, hM3, hM2, hM, g181, hj, g155, st]
          exact hJ _ hi ⟨hi, by simp, ⟨v22, ps2, by simp [g22], op2, pl2, hp2⟩, hk2⟩
      · have heq : i = dd.length := by omega
        subst heq
        obtain ⟨a1, a2⟩ := done_agree (ps := ps) hd pl (by rw [hdd]; exact hp)
        rw [hdd] at a1 a2
        obtain ⟨_, h8, e9, rfl, k8, l8⟩ := AgreeOn_ok (t2'.keep hk).sl (t4'.keeps hk) op.sl (by omega) (by omega)
        rw [a1, a2] at e9
        obtain ⟨a, b, w9, h9, h10, x, y, q1, q2, q3⟩ := done_tail (hb.keeps ((kB.trans hk).trans k8))
        simp [g585_3, hM2, hM, g155, g21, e9, q1, q2, q3]
        exact hR _ _ rfl
end GL

