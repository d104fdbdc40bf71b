import Derived.ChangeArms
import Derived.IntWalk
import Derived.WideShapes
import Derived.Test.YtmgbbehacaldlaaGreatGuFnHouseA
/- What the functions of the law do, on the machine. -/
set_option linter.unusedSimpArgs false
set_option linter.unusedVariables false
set_option linter.unnecessarySimpa false
namespace GL
open Go

theorem memE_of {l : List (List Int)} {k : Nat} (hk : k < l.length) {y : Int} (hy : y ∈ l[k]) : Edge l (k : Int) y := ⟨k, hk, rfl, hy⟩

theorem reach_ok {h : Heap} {v : V} {l : List (List Int)} {F : List Nat} (hs : SdF h v l F) (hg : linksB l = true) (a : Int) (ha : 0 ≤ a ∧ a < l.length) :
    ∃ r h', call p 545 [v, vi a] h = some (r, h') ∧ ∃ G, SdF h' r (reachL l a) G ∧ Fresh h.length h' G ∧ Keeps h h' ∧ h.length ≤ h'.length := by
  obtain ⟨g12, gfacts⟩ := linksB_facts hg
  refine go (fn := g545) rfl rfl fun R hR => ?_
  simp [g545, fillL]
  refine Wc_upM (M := [5, 6, 8, 11, 12, 13, 14, 15, 16, 17, 18, 19, 20, 21, 22, 23, 24, 25, 26, 27, 28, 29, 30, 31, 32, 33, 34, 35, 36, 37]) rfl l.length
    (fun i s => s.σ 6 = .v (vi i) ∧ ∃ (out : List Int) (v5 : V), i ≤ out.length ∧ s.σ 5 = .v v5 ∧ Qs h.length s.h v5 out ∧ Keeps h s.h ∧ out.Nodup ∧ a ∈ out ∧ (∀ x ∈ out, Rch l a x) ∧ ∀ x ∈ out.take i, ∀ y, Edge l x y → y ∈ out) 0
    ⟨by simp, [a], .slice h.length 0 1 (.k 1), by simp, by simp, Qs.lit h a (Nat.le_refl _), Keeps.append _ _, by simp, by simp, by simp; exact .refl _, by simp⟩ fun i s ⟨g6, out, v5, gi, g5, q, hk, hn, h0, h1, h2⟩ hM J hJ => ?_
  have hlen : out.length ≤ l.length := nodup_len hn fun x hx => (h1 x hx).lt hg ha
  by_cases hi : i < out.length
  · have hoi := (h1 _ (List.getElem_mem hi)).lt hg ha
    obtain ⟨k, hk0⟩ := Int.eq_ofNat_of_zero_le hoi.1
    have hkl : k < l.length := by omega
    obtain ⟨x, F2, ex, hx, _⟩ := hs.loadL k hkl
    have ex' := rdH_keep hk ex
    have ix := hs.idx 1 .i64 k hkl
    simp only [Nat.mul_one] at ix
    have e1 := q.sl.loadI i hi
    rw [hk0] at e1
    obtain ⟨_, _, row12⟩ := gfacts k hkl
    simp [g545_1, hM, g6, g5, q.sl.len, hi, q.sl.idx, e1, ix, ex', hx.len]
    refine Wc_upM (M := [5, 8, 25, 26, 27, 28, 29, 30, 31, 32, 33, 34, 35, 36, 37]) rfl l[k].length
      (fun j t => j ≤ l[k].length ∧ t.σ 25 = .v (vi j) ∧ ∃ (ext : List Int) (v6 : V), t.σ 5 = .v v6 ∧ Qs h.length t.h v6 (out ++ ext) ∧ Keeps h t.h ∧ (out ++ ext).Nodup ∧ (∀ x ∈ out ++ ext, Rch l a x) ∧ ∀ y ∈ l[k].take j, y ∈ out ++ ext) 0
      ⟨by omega, by simp, [], v5, by simp [g5], by simpa using q, hk, by simpa using hn, by simpa using h1, by simp⟩ fun j t ⟨gj, g25, ext, v6, g5', q2, hk2, hn2, h3, h4⟩ hM2 J2 hJ2 => ?_
    have hlen2 : (out ++ ext).length ≤ l.length := nodup_len hn2 fun x hx => (h3 x hx).lt hg ha
    by_cases hj : j < l[k].length
    · have hx2 := hx.keep hk2
      have e2 := hx2.sl.loadI j hj
      have ij := hx2.idx 1 .i64 j hj
      simp only [Nat.mul_one] at ij
      have e3 := containsI_eq q2.sl l[k][j]
      have edge : Edge l (k : Int) l[k][j] := memE_of hkl (List.getElem_mem hj)
      by_cases hm : l[k][j] ∈ out ++ ext
      · rw [decide_eq_true hm] at e3
        simp [g545_0, hM2, hM, g25, g5', hj, ij, e2, e3, hx.step hj]
        exact hJ2 _ hj ⟨hj, by simp, ext, v6, by simp [g5'], q2, hk2, hn2, h3, (all_take_succ hj).2 ⟨h4, hm⟩⟩
      · rw [decide_eq_false hm] at e3
        obtain ⟨v7, h7, e7, q7, k7, l7, _⟩ := q2.one l[k][j] (by omega)
        simp [g545_0, hM2, hM, g25, g5', hj, ij, e2, e3, fillL, rdS_last, e7, hx.step hj]
        refine hJ2 _ hj ⟨hj, by simp, ext ++ [l[k][j]], v7, by simp, by rw [← List.append_assoc]; exact q7, q2.far hk2 k7 (Nat.le_refl _), ?_, ?_, ?_⟩
        · rw [← List.append_assoc, List.nodup_append]
          exact ⟨hn2, by simp, fun x hx y hy e => by simp at hy; subst hy; subst e; exact hm hx⟩
        · intro y hy
          rw [← List.append_assoc] at hy
          rcases List.mem_append.1 hy with hy | hy
          · exact h3 y hy
          · simp at hy; subst hy
            exact (h3 _ (List.mem_append_left _ (by rw [← hk0]; exact List.getElem_mem hi))).step edge
        · refine (all_take_succ hj).2 ⟨fun y hy => ?_, by simp⟩
          rw [← List.append_assoc]; exact List.mem_append_left _ (h4 y hy)
    · have hjl : j = l[k].length := by omega
      subst hjl
      rw [List.take_length] at h4
      have w6 : IntKind.i64.wrap ((i : Int) + 1) = (i + 1 : Nat) := by rw [IntWalk.i64_in] <;> omega
      simp [g545_0, hM2, hM, g25, g6, w6, -Int.natCast_add]
      refine hJ _ (by omega) ⟨by simp, out ++ ext, v6, by simp; omega, by simp [g5'], q2, hk2, hn2, List.mem_append_left _ h0, h3, ?_⟩
      have ht : (out ++ ext).take (i + 1) = out.take (i + 1) := List.take_append_of_le_length (by omega)
      rw [ht]
      refine (all_take_succ hi).2 ⟨fun x hx y e => List.mem_append_left _ (h2 x hx y e), fun y e => h4 y ?_⟩
      obtain ⟨k', hk', e1, e2⟩ := e
      have : k' = k := by omega
      subst this; exact e2
  · rw [List.take_of_length_le (by omega)] at h2
    obtain ⟨F3, s3, f3⟩ := q.fr
    obtain ⟨_, h4, e4, ys, rfl, s4, p4, q4, k4, l4, o4⟩ := sortI_ok s3 f3.own (by omega)
    have hys : ys = reachL l a := rising_ext (sorted_nodup q4 (p4.nodup_iff.2 hn)) (reachL_rising l a) fun x => by rw [p4.mem_iff]; exact closed_reach hg ha h0 h1 h2 x
    rw [hys] at s4
    simp [g545_1, hM, g6, g5, q.sl.len, hi, e4]
    exact hR _ _ ⟨F3, s4, ⟨f3.nodup, f3.ge, fun b hb => o4 b (f3.own b hb)⟩, Keeps.far (n := h.length) hk k4 (Nat.le_refl _) fun b hb hm => by have := f3.ge b hm; omega, by have := q.2.1; omega⟩

theorem l9Reach_ok {h : Heap} {v : V} {l : List (List Int)} {F : List Nat} (hs : SdF h v l F) (hg : linksB l = true) (a : Int) (ha : 0 ≤ a ∧ a < l.length) :
    ∃ r h', call p 547 [v, vi a] h = some (r, h') ∧ ∃ G, SdF h' r (reachL l a) G ∧ Keeps h h' ∧ h.length ≤ h'.length := by
  obtain ⟨g12, gfacts⟩ := linksB_facts hg
  refine go (fn := g547) rfl rfl fun R hR => ?_
  simp [g547, fillL]
  have hl : ((h ++ [(⟨.own, [vi a]⟩ : Blk)]) ++ [(⟨.own, [vi a]⟩ : Blk)]).length = h.length + 2 := by simp
  refine Wc_dnM (M := [5, 6, 7, 9, 14, 15, 16, 17, 18, 19, 20, 21, 22, 23, 24, 25, 26, 27, 28, 29, 30, 31, 32, 33, 34, 35, 36, 37, 38, 39, 40, 41, 42]) rfl
    (fun m s => ∃ (out que : List Int) (v5 v6 : V) (G5 : List Nat), s.σ 5 = .v v5 ∧ s.σ 6 = .v v6 ∧ SdF s.h v5 out G5 ∧ Qs h.length s.h v6 que ∧ (∀ b ∈ G5, ¬ vB v6 b) ∧ Keeps h s.h ∧ out.Pairwise (· < ·) ∧ a ∈ out ∧ (∀ x ∈ out, Rch l a x) ∧ (∀ x ∈ que, x ∈ out) ∧ (∀ x ∈ out, x ∈ que ∨ ∀ y, Edge l x y → y ∈ out) ∧ 2 * (l.length - out.length) + que.length ≤ m ∧ m ≤ 100) (2 * l.length)
    ⟨[a], [a], .slice h.length 0 1 (.k 1), .slice (h.length + 1) 0 1 (.k 1), [h.length], by simp, by simp, ?_, ?_, ?_, ?_, by simp, by simp, by simp; exact .refl _, by simp, by simp, by simp; omega, by omega⟩ fun m s ⟨out, que, v5, v6, G5, g5, g6, s5, q, hsep, hk, hr, h0, h1, hq, h2, hm, hmm⟩ hM J hJ => ?_
  · have : SdF (h ++ [(⟨.own, [vi a]⟩ : Blk)]) (.slice h.length 0 1 (.k 1)) [a] [h.length] := SdF.lit (F := []) (.one (show Data.rep h a [vi a] [] from ⟨rfl, rfl⟩)) 1 rfl (by simp)
    have k2 := Keeps.append (h ++ [(⟨.own, [vi a]⟩ : Blk)]) [⟨.own, [vi a]⟩]
    simp at k2
    exact this.keep k2
  · have := Qs.lit (lo := h.length) (h ++ [(⟨.own, [vi a]⟩ : Blk)]) a (by simp)
    simpa using this
  · rintro b hb ⟨_, _, _, e⟩; simp at hb; injection e with e1; omega
  · exact Keeps.append h _
  have hlen : out.length ≤ l.length := rising_len hr fun x hx => (h1 x hx).lt hg ha
  cases que with
  | nil =>
    have ho : out = reachL l a := rising_ext hr (reachL_rising l a) (closed_reach hg ha h0 h1 fun x hx => by
      rcases h2 x hx with h | h
      · cases h
      · exact h)
    simp [g547_1, hM, g6, g5, q.sl.len]
    exact hR _ _ ⟨G5, by rw [← ho]; exact s5, hk, q.2.1⟩
  | cons c que =>
    have hcl := (h1 _ (hq c (by simp))).lt hg ha
    obtain ⟨k, rfl⟩ := Int.eq_ofNat_of_zero_le hcl.1
    have hkl : k < l.length := by omega
    obtain ⟨x, F2, ex, hx, _⟩ := hs.loadL k hkl
    have ex' := rdH_keep hk ex
    have ix := hs.idx 1 .i64 k hkl
    simp only [Nat.mul_one] at ix
    have i0 := q.sl.idx 1 .i64 0 (by simp)
    have e1 := q.sl.loadI 0 (by simp)
    simp at i0 e1
    obtain ⟨v8, e8, q8, b8⟩ := q.tail
    have c1 : (1 : Int) ≤ (que.length : Int) + 1 := by omega
    simp [g547_1, hM, g6, g5, q.sl.len, i0, e1, bounds, takeB, e8, ix, ex', hx.len]
    refine Wc_upM (M := [5, 6, 9, 27, 28, 29, 30, 31, 32, 33, 34, 35, 36, 37, 38, 39, 40, 41, 42]) rfl l[k].length
      (fun j t => j ≤ l[k].length ∧ t.σ 27 = .v (vi j) ∧ ∃ (out2 que2 : List Int) (v5 v6 : V) (G5 : List Nat), t.σ 5 = .v v5 ∧ t.σ 6 = .v v6 ∧ SdF t.h v5 out2 G5 ∧ Qs h.length t.h v6 que2 ∧ (∀ b ∈ G5, ¬ vB v6 b) ∧ Keeps h t.h ∧ out2.Pairwise (· < ·) ∧ a ∈ out2 ∧ (∀ x ∈ out2, Rch l a x) ∧ (∀ x ∈ que2, x ∈ out2) ∧ (∀ x ∈ out2, x = (k : Int) ∨ x ∈ que2 ∨ ∀ y, Edge l x y → y ∈ out2) ∧ 2 * (l.length - out2.length) + que2.length < m ∧ (k : Int) ∈ out2 ∧ ∀ y ∈ l[k].take j, y ∈ out2) 0
      ⟨by omega, by simp, out, que, v5, v8, G5, by simp [g5], by simp, s5, q8, fun b hb hv => hsep b hb (b8 b hv), hk, hr, h0, h1, fun x hx => hq x (List.mem_cons_of_mem _ hx), fun x hx => by
        rcases h2 x hx with h | h
        · rcases List.mem_cons.1 h with h | h
          · exact .inl h
          · exact .inr (.inl h)
        · exact .inr (.inr h), by simp at hm; omega, hq _ (by simp), by simp⟩ fun j t ⟨gj, g27, out2, que2, v5, v6, G5, g5, g6, s5, q, hsep, hk, hr, h0, h1, hq, h2, hm, hkm, h4⟩ hM2 J2 hJ2 => ?_
    have hlen : out2.length ≤ l.length := rising_len hr fun x hx => (h1 x hx).lt hg ha
    by_cases hj : j < l[k].length
    · have hx2 := hx.keep hk
      have e2 := hx2.sl.loadI j hj
      have ij := hx2.idx 1 .i64 j hj
      simp only [Nat.mul_one] at ij
      have e3 := l1Has_eq s5.sl l[k][j]
      have edge : Edge l (k : Int) l[k][j] := memE_of hkl (List.getElem_mem hj)
      by_cases hme : l[k][j] ∈ out2
      · rw [decide_eq_true hme] at e3
        simp [g547_0, hM2, hM, g27, g5, hj, ij, e2, e3, hx.step hj]
        exact hJ2 _ hj ⟨hj, by simp, out2, que2, v5, v6, G5, by simp [g5], by simp [g6], s5, q, hsep, hk, hr, h0, h1, hq, h2, hm, hkm, (all_take_succ hj).2 ⟨h4, hme⟩⟩
      · rw [decide_eq_false hme] at e3
        obtain ⟨v7, h7, e7, out3, G7, s7, r7, m7, l7, G7s, k7, ln7⟩ := l1Put_ok s5 hr (by omega) l[k][j]
        have q7 := q.keeps (k7.p fun _ => True) (fun _ _ => trivial) ln7
        obtain ⟨v9, h9, e9, q9, k9, l9, b9⟩ := q7.one l[k][j] (by omega)
        have hsep7 : ∀ b ∈ G7, ¬ vB v6 b := fun b hb hv => by
          rcases G7s b hb with h | h
          · exact hsep b h hv
          · have := (q.ge hv).2; omega
        have hr3 : ∀ x ∈ out3, Rch l a x := fun x hx => by
          rcases (m7 x).1 hx with h | rfl
          · exact h1 x h
          · exact (h1 _ hkm).step edge
        have sub : ∀ x ∈ out2, x ∈ out3 := fun x hx => (m7 x).2 (.inl hx)
        have hlen3 : out3.length ≤ l.length := rising_len r7 fun x hx => (hr3 x hx).lt hg ha
        have hgt : out2.length < out3.length := by
          have hnd : (l[k][j] :: out2).Nodup := by
            rw [List.nodup_cons]
            exact ⟨hme, hr.imp fun h => by omega⟩
          have := hnd.length_le_of_subset (l₂ := out3) fun x hx => by
            rcases List.mem_cons.1 hx with rfl | hx
            · exact (m7 _).2 (.inr rfl)
            · exact sub x hx
          simp at this; omega
        simp [g547_0, hM2, hM, g27, g5, g6, hj, ij, e2, e3, e7, fillL, rdS_last, e9, hx.step hj]
        refine hJ2 _ hj ⟨hj, by simp, out3, que2 ++ [l[k][j]], v7, v9, G7, by simp, by simp, s7.keeps (k9.mono hsep7), q9, fun b hb hv => ?_, q7.far (hk.trans k7) k9 (Nat.le_refl _), r7, sub _ h0, hr3, fun x hx => ?_, fun x hx => ?_, by simp; omega, sub _ hkm, (all_take_succ hj).2 ⟨fun y hy => sub _ (h4 y hy), (m7 _).2 (.inr rfl)⟩⟩
        · obtain ⟨blk, hb1, _⟩ := s7.lt hb
          have := get_lt hb1; have := b9 b hv; omega
        · rcases List.mem_append.1 hx with h | h
          · exact sub _ (hq x h)
          · simp at h; subst h; exact (m7 _).2 (.inr rfl)
        · rcases (m7 x).1 hx with h | rfl
          · rcases h2 x h with h | h | h
            · exact .inl h
            · exact .inr (.inl (List.mem_append_left _ h))
            · exact .inr (.inr fun y e => sub _ (h y e))
          · exact .inr (.inl (by simp))
    · have hjl : j = l[k].length := by omega
      subst hjl
      rw [List.take_length] at h4
      simp [g547_0, hM2, hM, g27]
      refine hJ (2 * (l.length - out2.length) + que2.length) _ hm ⟨out2, que2, v5, v6, G5, by simp [g5], by simp [g6], s5, q, hsep, hk, hr, h0, h1, hq, fun x hx => ?_, Nat.le_refl _, by omega⟩
      rcases h2 x hx with h | h | h
      · subst h
        refine .inr fun y e => h4 y ?_
        obtain ⟨k', hk', e1, e2⟩ := e
        have : k' = k := by omega
        subst this; exact e2
      · exact .inl h
      · exact .inr h
end GL

namespace GL
open Go

/-- all that one leads to, and that lead back -/
noncomputable def groupL (l : List (List Int)) (a : Int) : List Int := (reachL l a).filter fun b => decide (a ∈ reachL l b)
def InR (l : List (List Int)) (a : Int) : Prop := 0 ≤ a ∧ a < l.length
theorem groupL_rising (l : List (List Int)) (a : Int) : (groupL l a).Pairwise (· < ·) := (reachL_rising l a).filter _
section
variable {l : List (List Int)} (hg : linksB l = true)
include hg
theorem mem_groupL {a b : Int} (ha : InR l a) : b ∈ groupL l a ↔ Rch l a b ∧ Rch l b a := by
  simp only [groupL, List.mem_filter, decide_eq_true_eq]
  rw [mem_reachL hg ha]
  constructor
  · rintro ⟨h1, h2⟩; exact ⟨h1, (mem_reachL hg (h1.lt hg ha)).1 h2⟩
  · rintro ⟨h1, h2⟩; exact ⟨h1, (mem_reachL hg (h1.lt hg ha)).2 h2⟩
theorem self_groupL {a : Int} (ha : InR l a) : a ∈ groupL l a := (mem_groupL hg ha).2 ⟨.refl _, .refl _⟩
theorem groupL_in {a b : Int} (ha : InR l a) (hb : b ∈ groupL l a) : InR l b := ((mem_groupL hg ha).1 hb).1.lt hg ha
theorem groupL_eq {a b : Int} (ha : InR l a) (hb : b ∈ groupL l a) : groupL l b = groupL l a := by
  have hb' := groupL_in hg ha hb
  have h := (mem_groupL hg ha).1 hb
  refine rising_ext (groupL_rising l b) (groupL_rising l a) fun x => ?_
  rw [mem_groupL hg ha, mem_groupL hg hb']
  exact ⟨fun ⟨p, q⟩ => ⟨h.1.trans p, q.trans h.2⟩, fun ⟨p, q⟩ => ⟨h.2.trans p, q.trans h.1⟩⟩
theorem groupL_len {a : Int} (ha : InR l a) : (groupL l a).length ≤ l.length := rising_len (groupL_rising l a) fun x hx => groupL_in hg ha hx
end

def readyB (l : List (List Int)) (done : List Int) (k : Int) : Prop := ∀ x ∈ reachL l k, x ∈ done ∨ x ∈ groupL l k
noncomputable instance (l : List (List Int)) (done : List Int) (k : Int) : Decidable (readyB l done k) := by unfold readyB; infer_instance
def nodes (l : List (List Int)) : List Int := (List.range l.length).map fun (i : Nat) => (i : Int)
theorem mem_nodes {l : List (List Int)} {a : Int} : a ∈ nodes l ↔ InR l a := by
  simp only [nodes, List.mem_map, List.mem_range, InR]
  exact ⟨fun ⟨i, hi, e⟩ => by omega, fun ⟨h1, h2⟩ => ⟨a.toNat, by omega, by omega⟩⟩
theorem nodes_rising (l : List (List Int)) : (nodes l).Pairwise (· < ·) := range_rising _
noncomputable def nextK (l : List (List Int)) (done : List Int) : Option Int := (nodes l).find? fun k => decide (k ∉ done ∧ readyB l done k)
noncomputable def groupsF (l : List (List Int)) : Nat → List Int → List (List Int)
  | 0, _ => []
  | f + 1, done => match nextK l done with
    | none => []
    | some k => groupL l k :: groupsF l f (done ++ groupL l k)
/-- all groups, each behind all that it leads to -/
noncomputable def groupsL (l : List (List Int)) : List (List Int) := groupsF l l.length []

/-- nothing leads out of these -/
structure Cl (l : List (List Int)) (done : List Int) : Prop where
  lt : ∀ x ∈ done, InR l x
  cl : ∀ x ∈ done, ∀ y, Rch l x y → y ∈ done

theorem Cl.nil (l : List (List Int)) : Cl l [] := ⟨by simp, by simp⟩
section
variable {l : List (List Int)} (hg : linksB l = true)
include hg
theorem ready_iff {done : List Int} {k : Int} (hk : InR l k) : readyB l done k ↔ ∀ x, Rch l k x → x ∈ done ∨ Rch l x k := by
  constructor
  · intro h x r
    rcases h x ((mem_reachL hg hk).2 r) with h | h
    · exact .inl h
    · exact .inr ((mem_groupL hg hk).1 h).2
  · intro h x hx
    have r := (mem_reachL hg hk).1 hx
    rcases h x r with h | h
    · exact .inl h
    · exact .inr ((mem_groupL hg hk).2 ⟨r, h⟩)
theorem ready_exists {done : List Int} : ∀ (n : Nat) (k : Int), InR l k → k ∉ done → (reachL l k).length ≤ n → ∃ k, InR l k ∧ k ∉ done ∧ readyB l done k
  | 0, k, hk, _, hn => by
    have : k ∈ reachL l k := (mem_reachL hg hk).2 (.refl _)
    rw [List.length_eq_zero_iff.1 (Nat.le_zero.1 hn)] at this; cases this
  | n + 1, k, hk, hd, hn => by
    by_cases hr : readyB l done k
    · exact ⟨k, hk, hd, hr⟩
    · have : ∃ x, Rch l k x ∧ x ∉ done ∧ ¬ Rch l x k := by
        refine Classical.byContradiction fun hc => hr ((ready_iff hg hk).2 fun x r => ?_)
        by_cases h1 : x ∈ done
        · exact .inl h1
        · by_cases h2 : Rch l x k
          · exact .inr h2
          · exact absurd ⟨x, r, h1, h2⟩ hc
      obtain ⟨x, r, h1, h2⟩ := this
      have hx := r.lt hg hk
      refine ready_exists n x hx h1 ?_
      have hnd : (k :: reachL l x).Nodup := by
        rw [List.nodup_cons]
        exact ⟨fun h => h2 ((mem_reachL hg hx).1 h), (reachL_rising l x).imp fun h => by omega⟩
      have := hnd.length_le_of_subset (l₂ := reachL l k) fun y hy => by
        rcases List.mem_cons.1 hy with rfl | hy
        · exact (mem_reachL hg hk).2 (.refl _)
        · exact (mem_reachL hg hk).2 (r.trans ((mem_reachL hg hx).1 hy))
      simp at this; omega
theorem next_none {done : List Int} (h : nextK l done = none) {k : Int} (hk : InR l k) : k ∈ done := by
  refine Classical.byContradiction fun hd => ?_
  obtain ⟨j, hj, h1, h2⟩ := ready_exists hg _ k hk hd (Nat.le_refl _)
  have := List.find?_eq_none.1 h j (mem_nodes.2 hj)
  simp [h1, h2] at this
theorem next_some {done : List Int} {k : Int} (h : nextK l done = some k) : InR l k ∧ k ∉ done ∧ readyB l done k ∧ ∀ j, InR l j → j ∉ done → readyB l done j → k ≤ j := by
  have _ := hg
  obtain ⟨h1, as, bs, h2, h3⟩ := List.find?_eq_some_iff_append.1 h
  have hk : k ∈ nodes l := by rw [h2]; simp
  simp only [decide_eq_true_eq] at h1
  refine ⟨mem_nodes.1 hk, h1.1, h1.2, fun j hj j1 j2 => ?_⟩
  have hjn := mem_nodes.2 hj
  have hr := nodes_rising l
  rw [h2] at hjn hr
  rw [List.pairwise_append, List.pairwise_cons] at hr
  rcases List.mem_append.1 hjn with h | h
  · have := h3 j h
    simp [j1, j2] at this
  · rcases List.mem_cons.1 h with rfl | h
    · exact Int.le_refl _
    · exact Int.le_of_lt (hr.2.1.1 j h)
theorem next_rep {done : List Int} (hc : Cl l done) {k : Int} (h : nextK l done = some k) : ∀ b ∈ groupL l k, k ≤ b := by
  obtain ⟨hk, h1, h2, h3⟩ := next_some hg h
  intro b hb
  have hb' := groupL_in hg hk hb
  have ⟨r1, r2⟩ := (mem_groupL hg hk).1 hb
  refine h3 b hb' (fun hbd => h1 (hc.cl b hbd k r2)) ((ready_iff hg hb').2 fun x r => ?_)
  rcases (ready_iff hg hk).1 h2 x (r1.trans r) with h | h
  · exact .inl h
  · exact .inr (h.trans r1)
theorem Cl.next {done : List Int} (hc : Cl l done) {k : Int} (hk : InR l k) (h2 : readyB l done k) : Cl l (done ++ groupL l k) := by
  refine ⟨fun x hx => ?_, fun x hx y r => ?_⟩
  · rcases List.mem_append.1 hx with h | h
    · exact hc.lt x h
    · exact groupL_in hg hk h
  · rcases List.mem_append.1 hx with h | h
    · exact List.mem_append_left _ (hc.cl x h y r)
    · have ⟨r1, r2⟩ := (mem_groupL hg hk).1 h
      rcases (ready_iff hg hk).1 h2 y (r1.trans r) with h | h
      · exact List.mem_append_left _ h
      · exact List.mem_append_right _ ((mem_groupL hg hk).2 ⟨r1.trans r, h⟩)
theorem nodup_next {done : List Int} (hc : Cl l done) (hn : done.Nodup) {k : Int} (hk : InR l k) (h1 : k ∉ done) : (done ++ groupL l k).Nodup := by
  rw [List.nodup_append]
  refine ⟨hn, (groupL_rising l k).imp fun h => by omega, fun a ha b hb e => ?_⟩
  subst e
  exact h1 (hc.cl a ha k ((mem_groupL hg hk).1 hb).2)
theorem groupsF_spec : ∀ (f : Nat) (done : List Int), Cl l done → done.Nodup → l.length ≤ f + done.length →
    (done ++ (groupsF l f done).flatten).Nodup ∧ (∀ x, InR l x ↔ x ∈ done ++ (groupsF l f done).flatten) ∧ ∀ i (hi : i < (groupsF l f done).length), ∃ k, InR l k ∧ (groupsF l f done)[i] = groupL l k ∧ ∀ x, Rch l k x → x ∈ done ++ ((groupsF l f done).take (i + 1)).flatten
  | 0, done, hc, hn, hf => by
    refine ⟨by simpa [groupsF] using hn, fun x => ?_, fun i hi => by simp [groupsF] at hi⟩
    simp only [groupsF, List.flatten_nil, List.append_nil]
    refine ⟨fun hx => ?_, hc.lt x⟩
    refine Classical.byContradiction fun hd => ?_
    have hnd : (x :: done).Nodup := List.nodup_cons.2 ⟨hd, hn⟩
    have := nodup_len (n := l.length) hnd fun y hy => by
      rcases List.mem_cons.1 hy with rfl | hy
      · exact hx
      · exact hc.lt y hy
    simp at this; omega
  | f + 1, done, hc, hn, hf => by
    cases h : nextK l done with
    | none =>
      simp only [groupsF, h, List.flatten_nil, List.append_nil]
      exact ⟨hn, fun x => ⟨fun hx => next_none hg h hx, hc.lt x⟩, fun i hi => by simp at hi⟩
    | some k =>
      obtain ⟨hk, h1, h2, _⟩ := next_some hg h
      have hne : 0 < (groupL l k).length := List.length_pos_of_mem (self_groupL hg hk)
      obtain ⟨p1, p2, p3⟩ := groupsF_spec f (done ++ groupL l k) (hc.next hg hk h2) (nodup_next hg hc hn hk h1) (by simp; omega)
      simp only [groupsF, h, List.flatten_cons]
      refine ⟨by rw [← List.append_assoc]; exact p1, fun x => by rw [← List.append_assoc]; exact p2 x, fun i hi => ?_⟩
      cases i with
      | zero =>
        refine ⟨k, hk, rfl, fun x r => ?_⟩
        rcases (ready_iff hg hk).1 h2 x r with h | h
        · exact List.mem_append_left _ h
        · simp; exact .inr ((mem_groupL hg hk).2 ⟨r, h⟩)
      | succ i =>
        obtain ⟨k', hk', e, q⟩ := p3 i (by simpa using hi)
        refine ⟨k', hk', by simpa using e, fun x r => ?_⟩
        have := q x r
        simpa [List.append_assoc] using this
end
end GL

namespace GL
open Go

theorem links1_eq {h : Heap} {b : Nat} {u : V} {l : List (List Int)} {F : List Nat} (hb : h[b]? = some ⟨.own, [u]⟩) (hu : SdF h u l F) {v : V} {xs : List Int} (hs : Sl h v xs) : call p 559 [v, .ptr b 0] h = some (.bool !risB 0 ((l.length : Int) - 1) xs, h) := by
  refine go_eq (fn := g559) rfl rfl fun R hR => ?_
  have hbd := hu.bd
  have w : IntKind.i64.wrap ((l.length : Int) - 1) = (l.length : Int) - 1 := by rw [IntWalk.i64_in] <;> omega
  simp [g559, rdH_at hb, hu.len, w, isRising_eq hs]; exact hR
theorem GoodLinks_ok {h : Heap} {v : V} {l : List (List Int)} {F : List Nat} (hs : SdF h v l F) : ∃ r h', call p 500 [v] h = some (r, h') ∧ r = .bool (linksB l) ∧ Keeps h h' ∧ h.length ≤ h'.length := by
  refine go (fn := g500) rfl rfl fun R hR => ?_
  have k0 : Keeps h (h ++ [⟨.own, [v]⟩]) := Keeps.append _ _
  have hb0 : (h ++ [⟨.own, [v]⟩])[h.length]? = some ⟨.own, [v]⟩ := get_last _ _
  have r0 : rdH (h ++ [⟨.own, [v]⟩]) h.length 0 1 = some [v] := by rw [rdH_at hb0 (by simp)]; rfl
  have e1 := containsL_eq (hs.keep k0) (f := 559) (capt := [.ptr h.length 0]) (q := fun xs => !risB 0 ((l.length : Int) - 1) xs) fun x xs G hx => links1_eq hb0 (hs.keep k0) hx.sl
  have ea : (l.any fun xs => !risB 0 ((l.length : Int) - 1) xs) = !(l.all fun xs => risB 0 ((l.length : Int) - 1) xs) := by rw [List.not_all_eq_any_not]
  rw [ea] at e1
  by_cases hl : l.length ≤ 12
  · have hl2 : (l.length : Int) ≤ 12 := by omega
    cases hall : (l.all fun xs => risB 0 ((l.length : Int) - 1) xs) <;>
    · rw [hall] at e1
      simp [g500, hs.cells, hs.cell, r0, hs.len, hl2, e1]
      exact hR _ _ ⟨by simp [linksB, hl, hall], k0, by simp⟩
  · have hl2 : ¬ (l.length : Int) ≤ 12 := by omega
    simp [g500, hs.cells, hs.cell, r0, hs.len, hl2]
    exact hR _ _ ⟨by simp [linksB, hl], k0, by simp⟩
theorem GoodLinksS_eq {h : Heap} {v : V} {l : List (List Int)} {F : List Nat} (hs : SdF h v l F) : call p 550 [v] h = some (.bool (linksB l), h) := by
  refine go_eq (fn := g550) rfl rfl fun R hR => ?_
  have hbd := hs.bd
  have w : IntKind.i64.wrap ((l.length : Int) - 1) = (l.length : Int) - 1 := by rw [IntWalk.i64_in] <;> omega
  simp [g550, hs.len]
  refine Wc_upM (M := [2, 4, 7, 8, 9, 10, 11, 12, 13, 14, 15, 16, 17]) rfl l.length (fun i s => s.σ 7 = .v (vi i) ∧ s.h = h ∧ ∀ xs ∈ l.take i, risB 0 ((l.length : Int) - 1) xs = true) 0 (by simp) fun i s ⟨g7, gh, hall⟩ hM J hJ => ?_
  by_cases hn : i < l.length
  · obtain ⟨x, F2, ex, hx, _⟩ := hs.loadL i hn
    have e1 := l1Rising_eq hx.sl 0 ((l.length : Int) - 1)
    cases hr : risB 0 ((l.length : Int) - 1) l[i] with
    | false =>
      rw [hr] at e1
      simp [g550_0, hM, g7, gh, hn, hs.idx, ex, hs.len, w, e1]
      have : linksB l = false := by
        have : (l.all fun xs => risB 0 ((l.length : Int) - 1) xs) = false := List.all_eq_false.2 ⟨_, List.getElem_mem hn, by simp [hr]⟩
        simp [linksB, this]
      rw [this] at hR; exact hR
    | true =>
      rw [hr] at e1
      simp [g550_0, hM, g7, gh, hn, hs.idx, ex, hs.len, w, e1, hs.step hn]
      exact hJ _ hn ⟨by simp, rfl, (all_take_succ hn).2 ⟨hall, hr⟩⟩
  · rw [List.take_of_length_le (by omega)] at hall
    have ha : (l.all fun xs => risB 0 ((l.length : Int) - 1) xs) = true := List.all_eq_true.2 hall
    by_cases hl : l.length ≤ 12
    · have hl2 : (l.length : Int) ≤ 12 := by omega
      simp [g550_0, hM, g7, gh, hn, hs.len, hl2]
      simpa [linksB, ha, hl] using hR
    · have hl2 : ¬ (l.length : Int) ≤ 12 := by omega
      simp [g550_0, hM, g7, gh, hn, hs.len, hl2]
      simpa [linksB, ha, hl] using hR

/-- what was read stands as it was -/
theorem stab1 {A B C : Type} {a : A} {b : B} {c : C} {P : A → B → C → Prop} : (∀ o as x, some (a, b, c) = some (o, as, x) → P o as x) ↔ P a b c := ⟨fun h => h _ _ _ rfl, fun h o as x e => by cases e; exact h⟩

theorem group_ok {h : Heap} {v : V} {l : List (List Int)} {F : List Nat} (hs : SdF h v l F) (hg : linksB l = true) (a : Int) (ha : InR l a) :
    ∃ r h', call p 560 [v, vi a] h = some (r, h') ∧ ∃ G, SdF h' r (groupL l a) G ∧ Fresh h.length h' G ∧ Keeps h h' ∧ h.length ≤ h'.length := by
  refine go (fn := g560) rfl rfl fun R hR => ?_
  have k1 : Keeps h (h ++ [⟨.own, [v]⟩, ⟨.own, [vi a]⟩]) := Keeps.append _ _
  have hb1 : (h ++ [⟨.own, [v]⟩, ⟨.own, [vi a]⟩])[h.length]? = some ⟨.own, [v]⟩ := by simp
  have hb2 : (h ++ [⟨.own, [v]⟩, ⟨.own, [vi a]⟩])[h.length + 1]? = some ⟨.own, [vi a]⟩ := by simp
  have r1 : rdH (h ++ [⟨.own, [v]⟩, ⟨.own, [vi a]⟩]) h.length 0 1 = some [v] := by rw [rdH_at hb1 (by simp)]; rfl
  have r2 : rdH (h ++ [⟨.own, [v]⟩, ⟨.own, [vi a]⟩]) (h.length + 1) 0 1 = some [vi a] := by rw [rdH_at hb2 (by simp)]; rfl
  obtain ⟨r, h2, e2, G, s2, f2, k2, l2⟩ := reach_ok (hs.keep k1) hg a ha
  simp at l2
  have hc1 := k2 _ _ hb1 (by simp)
  have hc2 := k2 _ _ hb2 (by simp)
  have f2' : ∀ b ∈ G, h.length + 2 ≤ b := fun b hb => by have := f2.ge b hb; simpa using this
  obtain ⟨r3, h3, e3, G3, s3, f3, k3, l3⟩ := deleteIg_ok s2 f2 (f := 576) (capt := [.ptr h.length 0, .ptr (h.length + 1) 0]) (q := fun b => !decide (a ∈ reachL l b)) fun h' hk hl n hn => by
    have d1 := hk _ _ (fun hm => by have := f2' _ hm; omega) hc1 (by simp)
    have d2 := hk _ _ (fun hm => by have := f2' _ hm; omega) hc2 (by simp)
    have kk : Keeps h h' := Keeps.far (n := h.length) (k1.trans k2) hk (Nat.le_refl _) fun i hi hm => by have := f2' i hm; omega
    have hn' : InR l n := ((mem_reachL hg ha).1 hn).lt hg ha
    obtain ⟨r4, h4, e4, G4, s4, f4, k4, l4⟩ := reach_ok (hs.keep kk) hg n hn'
    have : ∃ r h'', call p 576 [vi n, .ptr h.length 0, .ptr (h.length + 1) 0] h' = some (r, h'') ∧ r = .bool (!decide (a ∈ reachL l n)) ∧ h'' = h4 := by
      refine go (fn := g576) rfl rfl fun R hR => ?_
      have t1 : rdH h' h.length 0 1 = some [v] := by rw [rdH_at d1 (by simp)]; rfl
      have t2 : rdH h' (h.length + 1) 0 1 = some [vi a] := by rw [rdH_at d2 (by simp)]; rfl
      have t3 := rdH_keep k4 t2
      simp [g576, t1, t2, e4, stable, stab1, t3, containsI_eq s4.sl]
      exact hR _ _ ⟨rfl, rfl⟩
    obtain ⟨_, _, e, rfl, rfl⟩ := this
    exact ⟨_, e, k4, l4⟩
  have hf : (reachL l a).filter (fun n => !(!decide (a ∈ reachL l n))) = groupL l a := by unfold groupL; congr 1; funext n; simp
  rw [hf] at s3
  simp [g560, hs.cells, hs.cell, r1, r2, e2, e3]
  exact hR _ _ ⟨G3, s3, f3.mono (by simp), Keeps.far (n := h.length) (k1.trans k2) k3 (Nat.le_refl _) fun i hi hm => by have := f2' i hm; omega, by omega⟩
end GL

namespace GL
open Go

theorem hasAll_ok {h : Heap} {v w : V} {as bs : List Int} (hs : Sl h v as) (ht : Sl h w bs) : ∃ r h', call p 552 [v, w] h = some (r, h') ∧ r = .bool (bs.all fun n => decide (n ∈ as)) ∧ Keeps h h' ∧ h.length ≤ h'.length := by
  have k0 : Keeps h (h ++ [⟨.own, [v]⟩]) := Keeps.append _ _
  have hb0 : (h ++ [⟨.own, [v]⟩])[h.length]? = some ⟨.own, [v]⟩ := get_last _ _
  have r0 : rdH (h ++ [⟨.own, [v]⟩]) h.length 0 1 = some [v] := by rw [rdH_at hb0 (by simp)]; rfl
  have e1 := containsFh_eq (ht.keeps k0) 572 [.ptr h.length 0] (fun n => !decide (n ∈ as)) fun n => by
    refine go_eq (fn := g572) rfl rfl fun R hR => ?_
    simp [g572, r0, containsI_eq (hs.keeps k0)]; simpa using hR
  have ea : (bs.any fun n => !decide (n ∈ as)) = !(bs.all fun n => decide (n ∈ as)) := by rw [List.not_all_eq_any_not]
  rw [ea] at e1
  generalize (bs.all fun n => decide (n ∈ as)) = q at e1 ⊢
  refine go (fn := g552) rfl rfl fun R hR => ?_
  simp [g552, hs.cells, hs.cell, e1]
  exact hR _ _ ⟨rfl, k0, by simp⟩

theorem Out.mono {α : Type} [Flat α] {lo lo' : Nat} {h : Heap} {v : V} {xs : List α} (o : Out lo' h v xs) (hl : lo ≤ lo') : Out lo h v xs := by
  obtain ⟨h1, h2, ⟨rfl, rfl⟩ | ⟨b, rfl, hb, h3⟩ | ⟨b, rfl, rfl, h3, h4⟩⟩ := o
  · exact ⟨h1, by omega, .inl ⟨rfl, rfl⟩⟩
  · exact ⟨h1, by omega, .inr (.inl ⟨b, rfl, hb, by omega⟩)⟩
  · exact ⟨h1, by omega, .inr (.inr ⟨b, rfl, rfl, by omega, h4⟩)⟩

theorem l9Group_ok {h : Heap} {v : V} {l : List (List Int)} {F : List Nat} (hs : SdF h v l F) (hg : linksB l = true) (a : Int) (ha : InR l a) :
    ∃ r h', call p 562 [v, vi a] h = some (r, h') ∧ Out h.length h' r (groupL l a) ∧ Keeps h h' ∧ h.length ≤ h'.length := by
  obtain ⟨r, h1, e1, G, s1, k1, l1⟩ := l9Reach_ok hs hg a ha
  have hlen := reachL_len hg ha
  obtain ⟨g12, _⟩ := linksB_facts hg
  refine go (fn := g562) rfl rfl fun R hR => ?_
  simp [g562, e1, s1.len]
  refine Wc_upM (M := [5, 7, 12, 13, 14, 15, 16, 17, 18, 19, 20, 21, 22, 23, 24, 25]) rfl (reachL l a).length (fun i s => s.σ 12 = .v (vi i) ∧ ∃ v5, s.σ 5 = .v v5 ∧ Out h1.length s.h v5 (((reachL l a).take i).filter fun b => decide (a ∈ reachL l b)) ∧ Keeps h1 s.h ∧ h1.length ≤ s.h.length) 0
    ⟨by simp, .nils, by simp, by simpa using Out.nil (Nat.le_refl _), Keeps.refl _, Nat.le_refl _⟩ fun i s ⟨g12', v5, g5, ho, hk, hl⟩ hM J hJ => ?_
  by_cases hn : i < (reachL l a).length
  · have s1' := s1.keep hk
    have ht := List.take_succ_eq_append_getElem hn
    have hin : InR l (reachL l a)[i] := ((mem_reachL hg ha).1 (List.getElem_mem hn)).lt hg ha
    obtain ⟨r2, h2, e2, G2, s2, k2, l2⟩ := l9Reach_ok ((hs.keep k1).keep hk) hg _ hin
    have e3 := l1Has_eq s2.sl a
    have ho2 : Out h1.length h2 v5 _ := ho.keeps (k2.p fun _ => True) (fun _ _ => trivial) l2
    by_cases hm : a ∈ reachL l (reachL l a)[i]
    · rw [decide_eq_true hm] at e3
      have hle : (((reachL l a).take i).filter fun b => decide (a ∈ reachL l b)).length ≤ 2 ^ 20 := Nat.le_trans (List.length_filter_le ..) (by simp; omega)
      obtain ⟨v6, h3, e4, o3, k3, l3⟩ := ho2.one (reachL l a)[i] hle
      have s1'' := s1'.sl.loadI i hn
      have ij := s1'.idx 1 .i64 i hn
      simp only [Nat.mul_one] at ij
      simp [g562_0, hM, g12', g5, hn, ij, s1'', e2, e3, fillL, rdS_last, e4, s1.step hn]
      refine hJ _ hn ⟨by simp, v6, by simp, ?_, ho2.far (hk.trans k2) k3 (Nat.le_refl _), by show h1.length ≤ h3.length; omega⟩
      rw [ht, List.filter_append]; simpa [hm] using o3
    · rw [decide_eq_false hm] at e3
      have s1'' := s1'.sl.loadI i hn
      have ij := s1'.idx 1 .i64 i hn
      simp only [Nat.mul_one] at ij
      simp [g562_0, hM, g12', g5, hn, ij, s1'', e2, e3, s1.step hn]
      refine hJ _ hn ⟨by simp, v5, by simp [g5], ?_, hk.trans k2, by show h1.length ≤ h2.length; omega⟩
      rw [ht, List.filter_append]; simpa [hm] using ho2
  · rw [List.take_of_length_le (by omega)] at ho
    simp [g562_0, hM, g12', g5, hn]
    exact hR _ _ ⟨ho.mono l1, k1.trans hk, by omega⟩
/-- one of a list of lists of one's own is taken out, in place -/
theorem deleteL_ok {h : Heap} {b off n : Nat} {l : List (List Int)} {F : List Nat} (hs : SdF h (.slice b off n (.o 1)) l F) (hn : b ∉ F.tail) (ho : OwnB h b) {i : Nat} (hi : i < l.length) (hl : l.length ≤ 2 ^ 20) :
    ∃ r h', call p 575 [.slice b off n (.o 1), vi i, vi (i + 1 : Nat)] h = some (r, h') ∧ ∃ F', r = .slice b off (n - 1) (.o 1) ∧ SdF h' r (l.take i ++ l.drop (i + 1)) F' ∧ (∀ c ∈ F', c ∈ F) ∧ b ∉ F'.tail ∧ (F.Nodup → F'.Nodup) ∧ OwnB h' b ∧ KeepsP (fun c => c ≠ b) h h' ∧ h'.length = h.length := by
  have hs0 := hs
  obtain ⟨hbd, ⟨e, _⟩ | ⟨b', off', cap, e, hcap, hs⟩⟩ := hs
  · cases e
  injection e with e1 e2 e3 e4
  subst e1; subst e2; subst e4
  have hnl : n = l.length := by omega
  subst hnl
  rcases hs with ⟨rfl, _⟩ | ⟨blk, cs, G, rfl, hb, hlv, hc, hr⟩
  · simp at hi
  obtain ⟨ds, hd⟩ := ho
  rw [hd] at hb; cases hb
  have hbG : b ∉ G := by simpa using hn
  have hcl := hr.len
  rw [show l.length * Data.sz (List Int) = l.length from Nat.mul_one _] at hc hcl
  have hoff : off + l.length ≤ ds.length := by
    unfold cut at hc; split at hc
    · assumption
    · cases hc
  have hcs : (ds.drop off).take l.length = cs := by
    unfold cut at hc; rw [if_pos hoff] at hc; exact Option.some.inj hc
  obtain ⟨F1, F2, F3, hG, r2, r1, r3⟩ := hr.get i hi
  rw [show i * Data.sz (List Int) = i from Nat.mul_one _] at r1 r2
  rw [show (i + 1) * Data.sz (List Int) = i + 1 from Nat.mul_one _] at r3
  have hblt := get_lt hd
  obtain ⟨n, hn0⟩ : ∃ n, n = l.length := ⟨_, rfl⟩
  rw [← hn0] at hi hl hc hcl hoff hcs hbd ⊢
  -- what is laid
  have hdl : (cs.drop (i + 1)).length = n - (i + 1) := by simp; omega
  obtain ⟨ds', hds'⟩ : ∃ x, x = ds.take (off + i) ++ cs.drop (i + 1) ++ ds.drop (off + i + (n - (i + 1))) := ⟨_, rfl⟩
  have hl1 : ds'.length = ds.length := by rw [hds']; simp; omega
  have c13 : slcV 1 (.slice b off n (.o 1)) (some i) (some (i + 1)) (some n) = some (.slice b (if n = i then off else off + i * 1) (i + 1 - i) (.k (n - i))) := by
    simp only [slcV, Option.getD_some]; rw [if_pos ⟨by omega, by omega, Nat.le_refl _⟩]
  have c22 : slcV 1 (.slice b off n (.o 1)) none (some i) none = some (.slice b (off + 0 * 1) (i - 0) (.o 1)) := by
    simp only [slcV, Option.getD_some, Option.getD_none]; rw [if_pos ⟨trivial, by omega, by omega⟩]
  have c25 : slcV 1 (.slice b off n (.o 1)) (some (i + 1)) none none = some (.slice b (off + (i + 1) * 1) (n - (i + 1)) (.o 1)) := by
    simp only [slcV, Option.getD_some, Option.getD_none]; rw [if_pos ⟨trivial, by omega, by omega⟩]
  have hrd : rdS h 1 (.slice b (off + (i + 1) * 1) (n - (i + 1)) (.o 1)) (n - (i + 1)) = some (cs.drop (i + 1)) := by
    simp only [rdS, Nat.le_refl, if_true]
    split
    · rename_i h0
      rw [List.drop_of_length_le (by omega)]
    · simp only [rdH, hd, cut]
      rw [if_neg (by simp), if_pos (by omega), ← hcs, List.drop_take, List.drop_drop]
      simp
  obtain ⟨h1, e26, d1, k1, l1⟩ : ∃ h1, appH 1 24 (.slice b (off + 0 * 1) (i - 0) (.o 1)) (n - (i + 1)) (cs.drop (i + 1)) h = some (.slice b off (n - 1) (.o 1), h1) ∧ h1[b]? = some ⟨.own, ds'⟩ ∧ KeepsP (fun c => c ≠ b) h h1 ∧ h1.length = h.length := by
    by_cases h0 : n - (i + 1) = 0
    · refine ⟨h, ?_, ?_, KeepsP.refl _ _, rfl⟩
      · rw [h0]; simp [appH, lenV_s]; omega
      · rw [hd, hds', List.drop_of_length_le (by omega), h0]; simp
    · refine ⟨h.set b ⟨.own, ds'⟩, ?_, by simp [hblt], fun c blk hc hb2 _ => by rw [List.getElem?_set_ne (Ne.symm hc)]; exact hb2, by simp⟩
      simp only [appH, hd]
      rw [if_neg h0, if_pos ⟨trivial, trivial, by decide⟩, if_pos (by omega), wrH_at hd rfl]
      have : lay ds (off + 0 * 1 + (i - 0) * 1) (cs.drop (i + 1)) = some ds' := by
        unfold lay; rw [if_pos (by omega), hdl, hds']; simp
      rw [this]
      simp only [Option.bind_some, Option.some.injEq, Prod.mk.injEq, V.slice.injEq, and_true, true_and]
      omega
  have e31 : rop (.sliceX 1) [.v (.slice b off (n - 1) (.o 1)), .v (.int .i64 ((n - 1 : Nat) : Int)), .v (.int .i64 (n : Int))] h1 = some (.slice b (off + (n - 1) * 1) (n - (n - 1)) (.o 1)) := by
    simp only [rop, natV_i, d1]
    rw [if_pos (by omega), if_pos (by omega)]
    simp only [Option.bind_some, Int.toNat_natCast]
    rw [if_pos ⟨trivial, by omega, trivial, by decide, by omega⟩]
  obtain ⟨ds2, hds2⟩ : ∃ x, x = ds'.take (off + (n - 1)) ++ [V.nils] ++ ds'.drop (off + (n - 1) + 1) := ⟨_, rfl⟩
  have h1lt : b < h1.length := by omega
  have e32 : eop (call p) (.clear 1 [.nils]) [.v (.slice b (off + (n - 1) * 1) (n - (n - 1)) (.o 1))] h1 = some (.tup [], h1.set b ⟨.own, ds2⟩) := by
    rw [eop_clear, if_neg (by omega), show n - (n - 1) = 1 by omega]
    simp only [List.replicate, List.flatten_cons, List.flatten_nil, List.append_nil]
    rw [wrH_at d1 rfl]
    have : lay ds' (off + (n - 1) * 1) [V.nils] = some ds2 := by
      unfold lay; rw [if_pos (by simp; omega), hds2]; simp
    rw [this]; rfl
  have hl2 : ds2.length = ds.length := by rw [hds2]; simp; omega
  have htk : ds2.take (off + (n - 1)) = ds.take (off + i) ++ cs.drop (i + 1) := by
    rw [hds2, List.append_assoc, List.take_append_of_le_length (by simp; omega), List.take_take, Nat.min_self, hds', List.take_append_of_le_length (by simp; omega), List.take_of_length_le (by simp; omega)]
  have hcut : cut ds2 off (n - 1) = some (cs.take i ++ cs.drop (i + 1)) := by
    unfold cut
    rw [if_pos (by omega)]
    have e : (ds2.drop off).take (n - 1) = (ds2.take (off + (n - 1))).drop off := by
      rw [List.drop_take]; congr 1; omega
    rw [e, htk, List.drop_append_of_le_length (by simp; omega), List.drop_take, ← hcs, List.take_take]
    congr 3; omega
  have kk : KeepsP (fun c => c ≠ b) h (h1.set b ⟨.own, ds2⟩) := k1.trans fun c blk hc hb2 _ => by rw [List.getElem?_set_ne (Ne.symm hc)]; exact hb2
  simp only [Nat.zero_mul, Nat.add_zero, Nat.sub_zero, Nat.mul_one] at c13 c22 c25 hrd e26 e31 e32
  have w1 : ¬ (i : Int) = ((i + 1 : Nat) : Int) := by omega
  refine go (fn := g575) rfl rfl fun R hR => ?_
  simp [g575, bounds, takeB, c13, c22, c25, w1, hrd, e26, e31, e32, -Int.natCast_add]
  have hsub : ∀ c ∈ F1 ++ F3, c ∈ G := fun c hc => by rw [hG]; simp at hc ⊢; rcases hc with h | h <;> simp [h]
  have hkG : KeepsP (fun c => c ∈ F1 ++ F3) h (h1.set b ⟨.own, ds2⟩) := kk.mono fun c hc e => hbG (by rw [← e]; exact hsub c hc)
  refine hR _ _ ⟨b :: (F1 ++ F3), rfl, ⟨by simp; omega, .inr ⟨b, off, .o 1, by simp; omega, rfl, .inr ⟨⟨.own, ds2⟩, cs.take i ++ cs.drop (i + 1), F1 ++ F3, rfl, by simp [h1lt], by simp, ?_, (r1.append r3).keeps hkG⟩⟩⟩, fun c hc => ?_, ?_, fun hnd => ?_, ⟨ds2, by simp [h1lt]⟩, kk, by simp; omega⟩
  · rw [show (l.take i ++ l.drop (i + 1)).length * Data.sz (List Int) = n - 1 by rw [show Data.sz (List Int) = 1 from rfl]; simp; omega]
    exact hcut
  · rcases List.mem_cons.1 hc with rfl | h
    · simp
    · exact List.mem_cons_of_mem _ (hsub c h)
  · simpa using fun h => hbG (hsub b h)
  · rw [List.nodup_cons] at hnd ⊢
    refine ⟨fun h => hbG (hsub b h), ?_⟩
    rw [hG, List.append_assoc, List.nodup_append] at hnd
    have h2 := List.nodup_append.1 hnd.2.2.1
    rw [List.nodup_append]
    exact ⟨hnd.2.1, h2.2.1, fun a ha b hb => hnd.2.2.2 a ha b (List.mem_append_right _ hb)⟩
end GL

namespace GL
open Go

noncomputable def reps (l : List (List Int)) : List Int := (nodes l).filter fun k => decide ((groupL l k)[0]? = some k)
noncomputable def leftK (l : List (List Int)) (done : List Int) : List Int := (reps l).filter fun k => decide (k ∉ done)
noncomputable def leftL (l : List (List Int)) (done : List Int) : List (List Int) := (leftK l done).map (groupL l)
noncomputable def ownQ (l : List (List Int)) (done : List Int) (own : List Int) : Bool := match own with
  | [] => false
  | a :: _ => (reachL l a).all fun n => decide (n ∈ done ++ own)
theorem rising_head {xs : List Int} (hr : xs.Pairwise (· < ·)) {k : Int} (hk : k ∈ xs) : xs[0]? = some k ↔ ∀ b ∈ xs, k ≤ b := by
  cases xs with
  | nil => cases hk
  | cons a r =>
    rw [List.pairwise_cons] at hr
    simp only [List.getElem?_cons_zero, Option.some.injEq]
    constructor
    · rintro rfl b hb
      rcases List.mem_cons.1 hb with rfl | hb
      · exact Int.le_refl _
      · exact Int.le_of_lt (hr.1 b hb)
    · intro h
      have h1 := h a (by simp)
      rcases List.mem_cons.1 hk with h2 | h2
      · exact h2.symm
      · have := hr.1 k h2; omega
theorem leftK_rising (l : List (List Int)) (done : List Int) : (leftK l done).Pairwise (· < ·) := ((nodes_rising l).filter _).filter _
section
variable {l : List (List Int)} (hg : linksB l = true)
include hg
theorem mem_leftK {done : List Int} {k : Int} : k ∈ leftK l done ↔ InR l k ∧ k ∉ done ∧ ∀ b ∈ groupL l k, k ≤ b := by
  simp only [leftK, reps, List.mem_filter, mem_nodes, decide_eq_true_eq]
  constructor
  · rintro ⟨⟨h1, h2⟩, h3⟩
    exact ⟨h1, h3, (rising_head (groupL_rising l k) (self_groupL hg h1)).1 h2⟩
  · rintro ⟨h1, h2, h3⟩
    exact ⟨⟨h1, (rising_head (groupL_rising l k) (self_groupL hg h1)).2 h3⟩, h2⟩
theorem ownQ_eq {done : List Int} {k : Int} (hk : k ∈ leftK l done) : ownQ l done (groupL l k) = true ↔ readyB l done k := by
  obtain ⟨h1, h2, h3⟩ := (mem_leftK hg).1 hk
  have h4 := (rising_head (groupL_rising l k) (self_groupL hg h1)).2 h3
  unfold readyB
  cases he : groupL l k with
  | nil => rw [he] at h4; simp at h4
  | cons a r =>
    rw [he] at h4; simp at h4; subst h4
    simp only [ownQ, List.all_eq_true, decide_eq_true_eq, List.mem_append]
theorem left_next {done : List Int} (hc : Cl l done) {k : Int} (h : nextK l done = some k) : k ∈ leftK l done := by
  obtain ⟨h1, h2, _, _⟩ := next_some hg h
  exact (mem_leftK hg).2 ⟨h1, h2, next_rep hg hc h⟩
theorem left_first {done : List Int} (hc : Cl l done) {kk : Int} (hf : FirstP (ownQ l done) (leftL l done) kk) (hne : leftL l done ≠ []) :
    ∃ (i : Nat) (k : Int) (hi : i < (leftL l done).length), kk = i ∧ nextK l done = some k ∧ (leftL l done)[i] = groupL l k ∧ (leftL l done).take i ++ (leftL l done).drop (i + 1) = leftL l (done ++ groupL l k) := by
  have hks := leftK_rising l done
  have hex : ∃ k, nextK l done = some k := by
    cases hn : nextK l done with
    | some k => exact ⟨k, rfl⟩
    | none =>
      obtain ⟨g, hg'⟩ := List.exists_mem_of_ne_nil _ hne
      obtain ⟨k, hk, _⟩ := List.mem_map.1 hg'
      obtain ⟨h1, h2, _⟩ := (mem_leftK hg).1 hk
      exact absurd (next_none hg hn h1) h2
  obtain ⟨k, hn⟩ := hex
  obtain ⟨q1, q2, q3, q4⟩ := next_some hg hn
  have hk := left_next hg hc hn
  obtain ⟨j, hj, hjk⟩ := List.getElem_of_mem hk
  have hlen : (leftL l done).length = (leftK l done).length := by simp [leftL]
  rcases hf with ⟨_, hall⟩ | ⟨i, hi, rfl, hq, hall⟩
  · have := hall (groupL l k) (List.mem_map.2 ⟨k, hk, rfl⟩)
    rw [(ownQ_eq hg hk).2 q3] at this; cases this
  · have hi' : i < (leftK l done).length := by omega
    have hgi : (leftL l done)[i] = groupL l (leftK l done)[i] := by simp [leftL]
    have hmi := List.getElem_mem hi'
    obtain ⟨m1, m2, m3⟩ := (mem_leftK hg).1 hmi
    rw [hgi] at hq
    have hle := q4 _ m1 m2 ((ownQ_eq hg hmi).1 hq)
    have hij : i ≤ j := by
      rcases Nat.lt_or_ge j i with h | h
      · have : groupL l k ∈ (leftL l done).take i := by
          rw [leftL, ← List.map_take]
          exact List.mem_map.2 ⟨k, by rw [← hjk]; exact List.mem_take_iff_getElem.2 ⟨j, by omega, rfl⟩, rfl⟩
        have := hall _ this
        rw [(ownQ_eq hg hk).2 q3] at this; cases this
      · exact h
    have hik : (leftK l done)[i] = k := by
      rcases Nat.lt_or_eq_of_le hij with h | h
      · have := List.pairwise_iff_getElem.1 hks i j hi' hj h
        omega
      · subst h; exact hjk
    refine ⟨i, k, hi, rfl, hn, by rw [hgi, hik], ?_⟩
    have e : leftK l (done ++ groupL l k) = (leftK l done).take i ++ (leftK l done).drop (i + 1) := by
      have e1 : leftK l (done ++ groupL l k) = (leftK l done).filter fun x => decide (x ∉ groupL l k) := by
        simp only [leftK, List.filter_filter]
        congr 1; funext x; simp [Bool.and_comm]
      have hsplit : leftK l done = (leftK l done).take i ++ k :: (leftK l done).drop (i + 1) := by
        rw [← hik, ← List.drop_eq_getElem_cons hi', List.take_append_drop]
      have hkg : k ∈ groupL l k := self_groupL hg q1
      have keep : ∀ x ∈ leftK l done, x ≠ k → x ∉ groupL l k := fun x hx hne hxg => by
        obtain ⟨a1, _, a3⟩ := (mem_leftK hg).1 hx
        obtain ⟨b1, _, b3⟩ := (mem_leftK hg).1 hk
        have := groupL_eq hg q1 hxg
        have := a3 k (by rw [this]; exact hkg)
        have := b3 x hxg
        omega
      rw [e1]
      conv => lhs; rw [hsplit]
      rw [List.filter_append, List.filter_cons, if_neg (by simpa using hkg)]
      have hp := hks
      rw [hsplit, List.pairwise_append, List.pairwise_cons] at hp
      congr 1
      · exact List.filter_eq_self.2 fun x hx => by simpa using keep x (List.mem_of_mem_take hx) (by have := hp.2.2 x hx k (by simp); omega)
      · exact List.filter_eq_self.2 fun x hx => by simpa using keep x (List.mem_of_mem_drop hx) (by have := hp.2.1.1 x hx; omega)
    rw [leftL, ← List.map_take, ← List.map_drop, ← List.map_append, ← e]; rfl
theorem left_end {done : List Int} (hc : Cl l done) (h : leftL l done = []) (f : Nat) : groupsF l f done = [] := by
  cases f with
  | zero => rfl
  | succ f =>
    cases hn : nextK l done with
    | none => simp [groupsF, hn]
    | some k =>
      have := left_next hg hc hn
      simp only [leftL, List.map_eq_nil_iff] at h
      rw [h] at this; cases this
end

/-- the question that 'groups' asks of each group left -/
theorem groups1_ok {h : Heap} {b1 b2 : Nat} {v w x : V} {l : List (List Int)} {F Ft Gx : List Nat} {done own : List Int} (hb1 : h[b1]? = some ⟨.own, [w]⟩) (hb2 : h[b2]? = some ⟨.own, [v]⟩) (hs : SdF h v l F) (hg : linksB l = true) (ht : SdF h w done Ft) (hx : SdF h x own Gx)
    {a : Int} {r : List Int} (ho : own = a :: r) (ha : InR l a) (hl : done.length + own.length ≤ 2 ^ 20) : ∃ h', call p 574 [x, .ptr b1 0, .ptr b2 0] h = some (.bool (ownQ l done own), h') ∧ Keeps h h' ∧ h.length ≤ h'.length := by
  have r1 : rdH h b1 0 1 = some [w] := by rw [rdH_at hb1 (by simp)]; rfl
  have r2 : rdH h b2 0 1 = some [v] := by rw [rdH_at hb2 (by simp)]; rfl
  have hp : 0 < own.length := by rw [ho]; simp
  have i0 := hx.sl.idx 1 .i64 0 hp
  have e0 := hx.sl.loadI 0 hp
  have h00 : own[0] = a := by simp [ho]
  rw [h00] at e0
  simp at i0 e0
  have kl := Keeps.append h [⟨.own, [w, x]⟩]
  have hr : Reps h [done, own] [w, x] (Ft ++ Gx) := by
    have a : Reps h [done] [w] Ft := .one (show Data.rep h done [w] Ft from ⟨w, rfl, ht⟩)
    have b : Reps h [own] [x] Gx := .one (show Data.rep h own [x] Gx from ⟨x, rfl, hx⟩)
    exact a.append b
  have hls := SdF.lit hr 2 rfl (by simp)
  have hfl : [done, own].flatten = done ++ own := by simp
  obtain ⟨o, h1, e1, G1, s1, f1, k1, l1⟩ := concat_ok hls (by rw [hfl]; simp; omega)
  rw [hfl] at s1
  have k01 := kl.trans k1
  obtain ⟨o2, h2, e2, G2, s2, f2, k2, l2⟩ := reach_ok (hs.keep k01) hg a ha
  obtain ⟨_, h3, e3, rfl, k3, l3⟩ := hasAll_ok (s1.keep k2).sl s2.sl
  have q0 : ownQ l done own = (reachL l a).all fun n => decide (n ∈ done ++ own) := by rw [ho]; rfl
  rw [q0]
  generalize (reachL l a).all (fun n => decide (n ∈ done ++ own)) = q at e3 ⊢
  have : ∃ r h'', call p 574 [x, .ptr b1 0, .ptr b2 0] h = some (r, h'') ∧ r = .bool q ∧ h'' = h3 := by
    refine go (fn := g574) rfl rfl fun R hR => ?_
    have t2 := rdH_keep k01 r2
    have t0 := rdH_keep k01 e0
    have t2' := rdH_keep kl r2
    have t0' := rdH_keep kl e0
    simp [g574, r1, r2, i0, e0, ht.cells, ht.cell, hx.cells, hx.cell, fillL, e1, e2, e3, stable, t2, t0, t2', t0']
    exact hR _ _ ⟨rfl, rfl⟩
  obtain ⟨_, _, e, rfl, rfl⟩ := this
  simp at l1
  exact ⟨_, e, (k01.trans k2).trans k3, by omega⟩
end GL

namespace GL
open Go

theorem OdF.keep {α : Type} [Data α] {lo : Nat} {h h' : Heap} {v : V} {xs : List α} {G : List Nat} (o : OdF lo h v xs G) (hk : Keeps h h') (hl : h.length ≤ h'.length) : OdF lo h' v xs G :=
  ⟨o.1.keeps (hk.p fun _ => True) (fun _ _ => trivial) (fun _ _ => trivial) hl, o.2.keeps (hk.p _)⟩

/-- the groups of the first nodes that are the least of theirs -/
noncomputable def leftN (l : List (List Int)) (i : Nat) : List (List Int) := ((((List.range i).map fun (j : Nat) => (j : Int)).filter fun k => decide ((groupL l k)[0]? = some k))).map (groupL l)
theorem leftN_succ (l : List (List Int)) (i : Nat) : leftN l (i + 1) = if (groupL l (i : Int))[0]? = some (i : Int) then leftN l i ++ [groupL l (i : Int)] else leftN l i := by
  simp only [leftN, List.range_succ, List.map_append, List.filter_append, List.map_cons, List.map_nil]
  split
  · rename_i h; simp [List.filter_cons, h]
  · rename_i h; simp [List.filter_cons, h]
theorem leftN_len (l : List (List Int)) (i : Nat) : (leftN l i).length ≤ i := by
  simp only [leftN, List.length_map]
  exact Nat.le_trans (List.length_filter_le ..) (by simp)
theorem leftN_all (l : List (List Int)) : leftN l l.length = leftL l [] := by
  simp [leftN, leftL, leftK, reps, nodes]

theorem groups_fst {v : V} {l : List (List Int)} {F : List Nat} {h : Heap} (hs : SdF h v l F) (hg : linksB l = true) (s0 : S) (K : Ex → S → Prop) (g1 : s0.σ 1 = .v (.ptr h.length 0)) (g3 : s0.σ 3 = .v (.slice (h.length + 1) 0 0 (.k 0))) (g11 : s0.σ 11 = .v (vi l.length)) (g12 : s0.σ 12 = .v (vi 0))
    (gh : s0.h = h ++ [(⟨.own, [v]⟩ : Blk), ⟨.own, []⟩])
    (hK : ∀ s v3 G3, (∀ k, k ∉ [3, 4, 5, 12, 13, 14, 15, 16, 17, 18, 19, 20, 21, 22, 23, 24, 25, 26, 27] → s.σ k = s0.σ k) → s.σ 3 = .v v3 → OdF (h.length + 1) s.h v3 (leftL l []) G3 → Keeps (h ++ [(⟨.own, [v]⟩ : Blk)]) s.h → h.length + 1 ≤ s.h.length → K (.exit 0) s) : Wc p (.loop g557_0) s0 K := by
  obtain ⟨l12, _⟩ := linksB_facts hg
  refine Wc_upM (M := [3, 4, 5, 12, 13, 14, 15, 16, 17, 18, 19, 20, 21, 22, 23, 24, 25, 26, 27]) rfl l.length (fun i s => i ≤ l.length ∧ s.σ 12 = .v (vi i) ∧ (∃ v3 G3, s.σ 3 = .v v3 ∧ OdF (h.length + 1) s.h v3 (leftN l i) G3) ∧ Keeps (h ++ [(⟨.own, [v]⟩ : Blk)]) s.h ∧ h.length + 1 ≤ s.h.length) 0
    ⟨by omega, g12, ⟨_, [], g3, by rw [gh]; exact OdF.empty (Nat.le_refl _) (by simp)⟩, by
      rw [gh]; have := Keeps.append (h ++ [(⟨.own, [v]⟩ : Blk)]) [⟨.own, []⟩]; simpa using this, by rw [gh]; simp⟩ fun i s ⟨gi, g12, ⟨v3, G3, g3, ho⟩, hk, hl⟩ hM J hJ => ?_
  have hkh : Keeps h s.h := (Keeps.append h [(⟨.own, [v]⟩ : Blk)]).trans hk
  by_cases hn : i < l.length
  · have hb1 : s.h[h.length]? = some ⟨.own, [v]⟩ := hk _ _ (get_last _ _) (by simp)
    have r1 : rdH s.h h.length 0 1 = some [v] := by rw [rdH_at hb1 (by simp)]; rfl
    have hin : InR l (i : Int) := ⟨by omega, by omega⟩
    obtain ⟨r, h2, e2, G, s2, f2, k2, l2⟩ := group_ok (hs.keep hkh) hg (i : Int) hin
    have hp : 0 < (groupL l (i : Int)).length := List.length_pos_of_mem (self_groupL hg hin)
    have i0 := s2.sl.idx 1 .i64 0 hp
    have e0 := s2.sl.loadI 0 hp
    simp at i0 e0
    have hlen := leftN_len l i
    have w1 : IntKind.i64.wrap ((i : Int) + 1) = (i + 1 : Nat) := by rw [IntWalk.i64_in] <;> omega
    have ix : (groupL l (i : Int))[0]? = some (groupL l (i : Int))[0] := List.getElem?_eq_getElem hp
    by_cases he : (groupL l (i : Int))[0] = (i : Int)
    · obtain ⟨v4, h3, e3, o3, kk3, l3⟩ := ho.one k2 l2 f2 (x := groupL l (i : Int)) (cs := [r]) ⟨r, rfl, s2⟩ (by omega) (k := 1) rfl (bytes := 24) (by decide)
      simp [g557_0, hM, g12, g11, g1, g3, hn, r1, e2, i0, e0, he, s2.cells, s2.cell, fillL, rdS_last, e3, w1, -Int.natCast_add]
      refine hJ _ hn ⟨hn, by simp, ⟨v4, G3 ++ G, by simp, ?_⟩, kk3 _ hk (by simp), by show h.length + 1 ≤ h3.length; omega⟩
      rw [leftN_succ, if_pos (by rw [ix, he])]; exact o3
    · simp [g557_0, hM, g12, g11, g1, g3, hn, r1, e2, i0, e0, he, w1, -Int.natCast_add]
      refine hJ _ hn ⟨hn, by simp, ⟨v3, G3, by simp [g3], ?_⟩, hk.trans k2, by show h.length + 1 ≤ h2.length; omega⟩
      rw [leftN_succ, if_neg (by rw [ix]; simpa using he)]; exact ho.keep k2 l2
  · have : i = l.length := by omega
    subst this
    rw [leftN_all] at ho
    simp [g557_0, hM, g12, g11]
    exact hK _ v3 G3 (fun k hk => by simp only [List.mem_cons, not_or] at hk; simp [hk, hM]) (by simp [g3]) ho hk hl
end GL

namespace GL
open Go

theorem leftL_mem {l : List (List Int)} (hg : linksB l = true) {done own : List Int} (h : own ∈ leftL l done) : ∃ a r, own = a :: r ∧ InR l a ∧ own = groupL l a := by
  obtain ⟨k, hk, rfl⟩ := List.mem_map.1 h
  obtain ⟨h1, h2, h3⟩ := (mem_leftK hg).1 hk
  have h4 := (rising_head (groupL_rising l k) (self_groupL hg h1)).2 h3
  cases he : groupL l k with
  | nil => rw [he] at h4; simp at h4
  | cons a r => rw [he] at h4; simp at h4; subst h4; exact ⟨a, r, rfl, h1, he.symm⟩
theorem leftL_len {l : List (List Int)} (hg : linksB l = true) (done : List Int) : (leftL l done).length ≤ l.length := by
  rw [leftL, List.length_map]
  exact rising_len (leftK_rising l done) fun x hx => ((mem_leftK hg).1 hx).1

theorem groups_snd {v : V} {l : List (List Int)} {F : List Nat} {h H1 : Heap} (hs : SdF h v l F) (hg : linksB l = true) (s0 : S) (K : Ex → S → Prop) {v3 : V} {G3 : List Nat} (g1 : s0.σ 1 = .v (.ptr h.length 0)) (g3 : s0.σ 3 = .v v3) (g6 : s0.σ 6 = .v (.slice H1.length 0 0 (.k 0))) (g7 : s0.σ 7 = .v (.ptr (H1.length + 2) 0))
    (ho : OdF (h.length + 1) H1 v3 (leftL l []) G3) (hk1 : Keeps (h ++ [(⟨.own, [v]⟩ : Blk)]) H1) (hl1 : h.length + 1 ≤ H1.length)
    (gh : s0.h = H1 ++ [(⟨.own, []⟩ : Blk), ⟨.own, []⟩, ⟨.own, [.slice (H1.length + 1) 0 0 (.k 0)]⟩])
    (hK : ∀ s v6 G, s.σ 6 = .v v6 → SdF s.h v6 (groupsL l) G → Keeps h s.h → h.length ≤ s.h.length → K (.exit 2) s) : Wc p (.loop g557_1) s0 K := by
  obtain ⟨l12, _⟩ := linksB_facts hg
  obtain ⟨F0, hsd0, hF0⟩ := ho.1.sd
  have hfr := ho.2
  -- where the list of what is left lies
  have form : leftL l [] = [] ∨ ∃ bl, v3 = .slice bl 0 (leftL l []).length (.o 1) ∧ OwnB H1 bl ∧ F0 = bl :: G3 ∧ bl ∉ G3 ∧ h.length + 1 ≤ bl := by
    obtain ⟨_, _, ⟨_, e, _⟩ | ⟨b, cs, e, hb, h3, hr, hn⟩ | ⟨b, _, e, _⟩⟩ := ho.1
    · exact .inl e
    · rcases hF0 with rfl | ⟨rfl, _⟩
      · by_cases h0 : leftL l [] = []
        · exact .inl h0
        · have := hsd0.bIn (List.length_pos_iff.2 h0)
          rw [e] at this; exact absurd this hn
      · refine .inr ⟨b, e, ⟨cs, hb⟩, by rw [e]; rfl, hn, h3⟩
    · exact .inl e
  obtain ⟨bl, hbl⟩ : ∃ bl, bl = bOf v3 := ⟨_, rfl⟩
  have hGlt : ∀ b ∈ G3, b < H1.length := fun b hb => (hfr.own b hb).lt
  refine Wc_dnM (M := [3, 6, 8, 30, 31, 32, 33, 34, 35, 36, 37, 38, 39, 40, 41, 42, 43, 44, 45, 46, 47, 48, 49, 50, 51, 52, 53]) rfl
    (fun m s => ∃ (done : List Int) (outs : List (List Int)) (v3 v6 vt : V) (FL GO : List Nat) (f : Nat), s.σ 3 = .v v3 ∧ s.σ 6 = .v v6 ∧ s.h[H1.length + 2]? = some ⟨.own, [vt]⟩ ∧ Out H1.length s.h vt done ∧ Od H1.length s.h v6 outs GO ∧
      (∀ b, vB v6 b → ¬ vB vt b ∧ b ≠ H1.length + 2) ∧ (∀ b, vB vt b → b ≠ H1.length + 2) ∧ (∀ b ∈ GO, b ∈ G3) ∧
      (leftL l done = [] ∨ (∃ off n, v3 = .slice bl off n (.o 1) ∧ SdF s.h v3 (leftL l done) FL ∧ OwnB s.h bl ∧ bl ∉ FL.tail ∧ (∀ b ∈ FL, b = bl ∨ b ∈ G3) ∧ bl ∉ G3 ∧ h.length + 1 ≤ bl ∧ bl < H1.length)) ∧ lenV v3 = some (leftL l done).length ∧
      KeepsP (fun b => b < H1.length ∧ (b = bl → bl < h.length + 1)) H1 s.h ∧ H1.length + 3 ≤ s.h.length ∧ l.length ≤ f + done.length ∧
      groupsL l = outs ++ groupsF l f done ∧ Cl l done ∧ done.Nodup ∧ outs.length + (leftL l done).length ≤ 100 ∧ m = (leftL l done).length) (leftL l []).length
    ⟨[], [], v3, .slice H1.length 0 0 (.k 0), .slice (H1.length + 1) 0 0 (.k 0), F0, [], l.length, g3, g6, by rw [gh]; simp, by rw [gh]; exact Out.empty (by omega) (by simp), by rw [gh]; exact Od.empty (Nat.le_refl _) (by simp), ?_, ?_, by simp, ?_, by rw [hsd0.len], by rw [gh]; exact (Keeps.append H1 _).p _, by rw [gh]; simp, by simp, by simp [groupsL], Cl.nil l, List.nodup_nil, by have := leftL_len hg []; simp; omega, rfl⟩ fun m s ⟨done, outs, v3, v6, vt, FL, GO, f, g3, g6, ht, hto, hoo, sp1, sp2, hGO, hleft, hlen, hk, hln, hfl, hgl, hcl, hnd, hcnt, hm⟩ hM J hJ => ?_
  · rintro b ⟨_, _, _, e⟩; injection e with e1; subst e1
    exact ⟨fun ⟨_, _, _, e⟩ => by injection e with e1; omega, by omega⟩
  · rintro b ⟨_, _, _, e⟩; injection e with e1; omega
  · rcases form with e | ⟨b, e, hb, hF, hnb, hge⟩
    · exact .inl e
    · have : bl = b := by rw [hbl, e]; rfl
      subst this
      have kk := Keeps.append H1 [(⟨.own, []⟩ : Blk), ⟨.own, []⟩, ⟨.own, [.slice (H1.length + 1) 0 0 (.k 0)]⟩]
      refine .inr ⟨0, _, e, by rw [gh]; exact hsd0.keep kk, by rw [gh]; exact hb.keep kk, by rw [hF]; exact hnb, fun b hb => ?_, hnb, hge, hb.lt⟩
      rw [hF] at hb
      exact List.mem_cons.1 hb
  have hk1h : Keeps h H1 := (Keeps.append h [(⟨.own, [v]⟩ : Blk)]).trans hk1
  have hkh : Keeps h s.h := Keeps.far (n := h.length) hk1h hk (Nat.le_refl _) fun b hb => ⟨by omega, fun e => by omega⟩
  by_cases he : leftL l done = []
  · have hfin : groupsL l = outs := by rw [hgl, left_end hg hcl he f, List.append_nil]
    obtain ⟨F', hF', _⟩ := hoo.sd
    rw [he] at hlen
    simp [g557_1, hM, g3, hlen]
    exact hK _ v6 F' (by simp [g6]) (by rw [hfin]; exact hF') hkh (by show h.length ≤ s.h.length; omega)
  · rcases hleft with h0 | ⟨off, n, rfl, hsd, hown, hnt, hFL, hbG, hge, hblt⟩
    · exact absurd h0 he
    have hb1 : s.h[h.length]? = some ⟨.own, [v]⟩ := hk _ _ ⟨by omega, by omega⟩ (hk1 _ _ (get_last _ _) (by simp)) (by simp)
    obtain ⟨Ft, hst, frt⟩ := hto.fr
    have hdl : done.length ≤ l.length := nodup_len hnd hcl.lt
    obtain ⟨_, h2, e2, kk, rfl, hfirst, k2, l2⟩ := indexLg_ok hsd (f := 574) (capt := [.ptr (H1.length + 2) 0, .ptr h.length 0]) (q := ownQ l done) fun h' hk' => fun x own G hmem hx => by
      obtain ⟨a, r, e, ha, e'⟩ := leftL_mem hg hmem
      exact groups1_ok (hk' _ _ ht (by simp)) (hk' _ _ hb1 (by simp)) (hs.keep (hkh.trans hk')) hg (hst.keep hk') hx e ha (by have := groupL_len hg ha; rw [e']; omega)
    obtain ⟨i, k, hi, rfl, hnext, hgi, herase⟩ := left_first hg hcl hfirst he
    obtain ⟨hkin, hknd, hkr, _⟩ := next_some hg hnext
    cases f with
    | zero =>
      exfalso
      have hnd2 : (k :: done).Nodup := List.nodup_cons.2 ⟨hknd, hnd⟩
      have := nodup_len (n := l.length) hnd2 fun y hy => by
        rcases List.mem_cons.1 hy with rfl | hy
        · exact hkin
        · exact hcl.lt y hy
      simp at this hfl; omega
    | succ f =>
    have hgl2 : groupsL l = (outs ++ [groupL l k]) ++ groupsF l f (done ++ groupL l k) := by
      rw [hgl]; simp [groupsF, hnext]
    have hkg : 0 < (groupL l k).length := List.length_pos_of_mem (self_groupL hg hkin)
    have hkl := groupL_len hg hkin
    -- the group, where it lies
    have hsd2 := hsd.keep k2
    obtain ⟨cs, F1, Gx, F3, ex, ⟨x, rfl, hx⟩, hFe⟩ := hsd2.load i hi
    rw [show i * Data.sz (List Int) = i from Nat.mul_one i] at ex
    change rdH _ _ _ 1 = _ at ex
    rw [hgi] at hx
    have hGx : ∀ b ∈ Gx, b ∈ G3 := fun b hb => by
      have h1 : b ∈ FL := by rw [hFe]; simp [hb]
      rcases hFL b h1 with rfl | h
      · exact absurd (by rw [hFe]; simp [hb]) hnt
      · exact h
    have ix := hsd.idx 1 .i64 i hi
    simp only [Nat.mul_one] at ix
    have ht2 := k2 _ _ ht (by simp)
    have rt2 : rdH h2 (H1.length + 2) 0 1 = some [vt] := by rw [rdH_at ht2 (by simp)]; rfl
    have kl : Keeps h2 (h2 ++ [⟨.own, [x]⟩]) := Keeps.append _ _
    have rt3 := rdH_keep kl rt2
    have ex3 := rdH_keep kl ex
    have no6 : ∀ b, b < H1.length → ¬ vB v6 b := fun b hb hv => by have := (hoo.ge hv).1; omega
    have noT : ∀ b, b < H1.length → ¬ vB vt b := fun b hb hv => by have := (hto.ge hv).1; omega
    have hoo3 : Od H1.length (h2 ++ [⟨.own, [x]⟩]) v6 outs GO := hoo.keeps ((k2.trans kl).p fun _ => True) (fun _ _ => trivial) (fun _ _ => trivial) (by simp; omega)
    obtain ⟨v6', h4, e4, o4, k4, l4, b4⟩ := hoo3.app (zs := [groupL l k]) (ys := [x]) (G := Gx) (by simp) (.one (show Data.rep _ (groupL l k) [x] Gx from ⟨x, rfl, hx.keep kl⟩)) (fun b hb => no6 b (hGlt b (hGx b hb))) (bytes := 24) (by decide) (by simp; omega) (k := 1) rfl (n := 1) rfl
    have ht4 : h4[H1.length + 2]? = some ⟨.own, [vt]⟩ := k4 _ _ (fun hv => (sp1 _ hv).2 rfl) (kl _ _ ht2 (by simp)) (by simp)
    have rt4 : rdH h4 (H1.length + 2) 0 1 = some [vt] := by rw [rdH_at ht4 (by simp)]; rfl
    have hx4 : SdF h4 x (groupL l k) Gx := (hx.keep kl).keeps (k4.mono fun b hb => no6 b (hGlt b (hGx b hb)))
    have hFlt : ∀ b ∈ FL, b < H1.length := fun b hb => by
      rcases hFL b hb with rfl | h
      · exact hblt
      · exact hGlt b h
    have hsd4 : SdF h4 (.slice bl off n (.o 1)) (leftL l done) FL := (hsd2.keep kl).keeps (k4.mono fun b hb => no6 b (hFlt b hb))
    have ex4 : rdH h4 (bOf (.slice bl off n (.o 1))) (oOf (.slice bl off n (.o 1)) + i) 1 = some [x] := by
      obtain ⟨blk, hb, hl⟩ := hsd2.lt (i := bl) (by rw [hFe]; simp [bOf])
      have h3b := kl _ _ hb hl
      have h4b := k4 _ _ (no6 _ hblt) h3b hl
      rw [rdH_at (by exact hb) hl] at ex
      rw [rdH_at (by exact h4b) hl]; exact ex
    have hto4 : Out H1.length h4 vt done := (hto.keeps ((k2.trans kl).p fun _ => True) (fun _ _ => trivial) (by simp; omega)).keeps k4 (fun b hb hv => (sp1 b hv).1 hb) (by simp at l4 ⊢; omega)
    have e5r := hx4.sl.rdS (groupL l k).length (Nat.le_refl _)
    rw [List.take_length] at e5r
    change rdS _ 1 _ _ = _ at e5r
    obtain ⟨vt', h5, e5, o5, k5, l5, b5⟩ := hto4.app (groupL l k) hkg (bytes := 8) (by decide) (by omega) (k := 1) rfl (n := (groupL l k).length) rfl rfl
    have ht5 : h5[H1.length + 2]? = some ⟨.own, [vt]⟩ := k5 _ _ (fun hv => sp2 _ hv rfl) ht4 (by simp)
    have e6 : wrH h5 (H1.length + 2) 0 [vt'] = some (h5.set (H1.length + 2) ⟨.own, [vt']⟩) := by rw [wrH_at ht5 rfl]; rfl
    have hlt5 := get_lt ht5
    have k6 : KeepsP (fun b => b ≠ H1.length + 2) h5 (h5.set (H1.length + 2) ⟨.own, [vt']⟩) := fun c blk hc hb2 _ => by rw [List.getElem?_set_ne (Ne.symm hc)]; exact hb2
    have low : KeepsP (fun b => b < H1.length) h4 (h5.set (H1.length + 2) ⟨.own, [vt']⟩) := (k5.mono fun b hb => noT b hb).trans (k6.mono fun b hb => by omega)
    have hsd6 := hsd4.keeps (low.mono hFlt)
    have hown6 : OwnB (h5.set (H1.length + 2) ⟨.own, [vt']⟩) bl := ((((hown.keep k2).keep kl).keeps k4 (no6 _ hblt))).keeps low hblt
    obtain ⟨_, h7, e7, F7, rfl, s7, q7, n7, _, ow7, k7, l7⟩ := deleteL_ok hsd6 hnt hown6 hi (by have := leftL_len hg done; omega)
    rw [herase] at s7
    have hlv := s7.len
    have hcnt2 : (leftL l (done ++ groupL l k)).length + 1 = (leftL l done).length := by
      rw [← herase]; simp; omega
    have w1 : IntKind.i64.wrap ((i : Int) + 1) = (i + 1 : Nat) := by rw [IntWalk.i64_in] <;> omega
    have lo4 : KeepsP (fun b => b < H1.length) s.h h4 := ((k2.trans kl).p _).trans (k4.mono no6)
    have lo7 : KeepsP (fun b => b < H1.length ∧ (b = bl → bl < h.length + 1)) s.h h7 := ((lo4.trans low).mono fun b hb => hb.1).trans (k7.mono fun b hb e => by have := hb.2 e; omega)
    simp only [bOf, oOf] at ix ex ex3 ex4
    have lpos : (0 : Int) < (leftL l done).length := by omega
    simp [g557_1, hM, g1, g3, g6, g7, hlen, hi, Nat.pos_of_ne_zero (show (leftL l done).length ≠ 0 by omega), e2, ix, ex, rt2, hx.cells, hx.cell, fillL, stable, rt3, ex3, rdS_last, e4, rt4, ex4, hx4.len, e5r, e5, o5.sl.cells, o5.sl.cell, e6, w1, e7, -Int.natCast_add]
    have n3lt : H1.length + 2 < s.h.length := get_lt ht
    simp only [List.length_append, List.length_singleton] at l4 b4
    have vb6 : ∀ b, vB v6' b → b = h2.length + 1 := fun b hb => by have := b4 b hb; simpa using this
    have g7lt : ∀ b ∈ GO ++ Gx, b ∈ G3 := fun b hb => by
      rcases List.mem_append.1 hb with h | h
      · exact hGO b h
      · exact hGx b h
    have k47 : KeepsP (fun b => ¬ vB vt b ∧ b ≠ H1.length + 2 ∧ b ≠ bl) h4 h7 := ((k5.mono fun b hb => hb.1).trans (k6.mono fun b hb => hb.2.1)).trans (k7.mono fun b hb => hb.2.2)
    have l47 : h4.length ≤ h7.length := by rw [l7]; simp; omega
    refine hJ (leftL l (done ++ groupL l k)).length _ (by omega) ⟨done ++ groupL l k, outs ++ [groupL l k], .slice bl off (n - 1) (.o 1), v6', vt', F7, GO ++ Gx, f, by simp, by simp, ?_, ?_, ?_, ?_, ?_, g7lt, .inr ⟨off, n - 1, rfl, s7, ow7, n7, fun b hb => hFL b (q7 b hb), hbG, hge, hblt⟩, hlv, hk.trans lo7, by show H1.length + 3 ≤ h7.length; omega, by simp; omega, hgl2, hcl.next hg hkin hkr, nodup_next hg hcl hnd hkin hknd, by simp; omega, rfl⟩
    · exact k7 _ _ (by omega) (by simp [hlt5]) (by simp)
    · exact (o5.keeps k6 (fun b hb => by have := b5 b hb; omega) (by simp)).keeps k7 (fun b hb => by have := b5 b hb; omega) (by rw [l7]; exact Nat.le_refl _)
    · refine o4.keeps k47 (fun b hb => ⟨fun hv => ?_, ?_, ?_⟩) (fun b hb => ⟨noT b (hGlt b (g7lt b hb)), ?_, fun e => hbG (by rw [← e]; exact g7lt b hb)⟩) l47
      · have := vb6 b hb; have := (hto.ge hv).2; omega
      · have := vb6 b hb; omega
      · have := vb6 b hb; omega
      · have := hGlt b (g7lt b hb); omega
    · intro b hb
      have := vb6 b hb
      exact ⟨fun hv => by have := b5 b hv; omega, by omega⟩
    · intro b hb
      have := b5 b hb; omega
end GL

namespace GL
open Go

theorem groups_ok {v : V} {l : List (List Int)} {F : List Nat} {h : Heap} (hs : SdF h v l F) (hg : linksB l = true) :
    ∃ r h', call p 557 [v] h = some (r, h') ∧ ∃ G, SdF h' r (groupsL l) G ∧ Keeps h h' ∧ h.length ≤ h'.length := by
  refine go (fn := g557) rfl rfl fun R hR => ?_
  have r1 : rdH (h ++ [(⟨.own, [v]⟩ : Blk), ⟨.own, []⟩]) h.length 0 1 = some [v] := by
    rw [rdH_at (blk := ⟨.own, [v]⟩) (by simp) (by simp)]; rfl
  simp [g557, hs.cells, hs.cell, fillL, r1, hs.len]
  refine groups_fst hs hg _ _ (by simp) (by simp) (by simp) (by simp) rfl fun s v3 G3 hM g3 ho hk hl => ?_
  have e1 : wrH (s.h ++ [(⟨.own, []⟩ : Blk), ⟨.own, []⟩, ⟨.own, [.nils]⟩]) (s.h.length + 2) 0 [V.slice (s.h.length + 1) 0 0 (.k 0)] = some (s.h ++ [(⟨.own, []⟩ : Blk), ⟨.own, []⟩, ⟨.own, [V.slice (s.h.length + 1) 0 0 (.k 0)]⟩]) := by
    rw [wrH_at (blk := ⟨.own, [.nils]⟩) (by simp) rfl]
    simp [lay]
  simp [hM, g3, fillL, e1]
  refine groups_snd hs hg _ _ (by simp [hM]) (by simp [g3]) (by simp) (by simp) ho hk hl (by simp) fun s2 v6 G g6 h6 k6 l6 => ?_
  simp [g6]
  exact hR _ _ ⟨G, h6, k6, l6⟩

theorem groupsL_facts {l : List (List Int)} (hg : linksB l = true) : (groupsL l).flatten.Nodup ∧ (∀ x, InR l x ↔ x ∈ (groupsL l).flatten) ∧ ∀ i (hi : i < (groupsL l).length), ∃ k, InR l k ∧ (groupsL l)[i] = groupL l k ∧ ∀ x, Rch l k x → x ∈ ((groupsL l).take (i + 1)).flatten := by
  have := groupsF_spec hg l.length [] (Cl.nil l) List.nodup_nil (by simp)
  simpa [groupsL] using this
theorem groupsL_flat {l : List (List Int)} (hg : linksB l = true) : (groupsL l).flatten.length = l.length := by
  obtain ⟨h1, h2, _⟩ := groupsL_facts hg
  have a := nodup_len (n := l.length) h1 fun x hx => (h2 x).2 hx
  have nd : (nodes l).Nodup := (nodes_rising l).imp fun h => by omega
  have b := nd.length_le_of_subset (l₂ := (groupsL l).flatten) fun x hx => (h2 x).1 (mem_nodes.1 hx)
  have c : (nodes l).length = l.length := by simp [nodes]
  omega
theorem OrderBy_ok {h : Heap} {v : V} {l : List (List Int)} {F : List Nat} (hs : SdF h v l F) :
    ∃ r h', call p 498 [v] h = some (r, h') ∧ ∃ o, r = .tup [o, .bool (linksB l)] ∧ Sl h' o (if linksB l = true then (groupsL l).flatten else []) ∧ Keeps h h' ∧ h.length ≤ h'.length := by
  obtain ⟨_, h1, e1, rfl, k1, l1⟩ := GoodLinks_ok hs
  refine go (fn := g498) rfl rfl fun R hR => ?_
  cases hl : linksB l with
  | false =>
    rw [hl] at e1; simp [g498, e1]
    exact hR _ _ ⟨.nils, by rw [hl], by simp [hl]; exact Sl.nil, k1, l1⟩
  | true =>
    rw [hl] at e1
    obtain ⟨l12, _⟩ := linksB_facts hl
    obtain ⟨r, h2, e2, G, s2, k2, l2⟩ := groups_ok (hs.keep k1) hl
    obtain ⟨o, h3, e3, G3, s3, f3, k3, l3⟩ := concat_ok s2 (by rw [groupsL_flat hl]; omega)
    simp [g498, e1, e2, e3]
    exact hR _ _ ⟨o, by rw [hl], by simp [hl]; exact s3.sl, (k1.trans k2).trans k3, by omega⟩
end GL

namespace GL
open Go

theorem readyB_iff (l : List (List Int)) (ds done : List Int) (hm : ∀ x, x ∈ ds ↔ x ∈ done) (k : Int) : ((reachL l k).all fun x => decide (x ∈ ds) || decide (x ∈ groupL l k)) = decide (readyB l done k) := by
  rw [Bool.eq_iff_iff, decide_eq_true_iff]
  simp [readyB, hm]
theorem next_first {l : List (List Int)} {done : List Int} {k : Nat} (hk : k < l.length) (h1 : (k : Int) ∉ done) (h2 : readyB l done k) (hall : ∀ j : Nat, j < k → (j : Int) ∈ done ∨ ¬ readyB l done j) : nextK l done = some (k : Int) := by
  refine List.find?_eq_some_iff_append.2 ⟨by simp [h1, h2], ((List.range k).map fun (i : Nat) => (i : Int)), ((List.range (l.length - (k + 1))).map fun (i : Nat) => ((k + 1 + i : Nat) : Int)), ?_, ?_⟩
  · unfold nodes
    have : l.length = k + (1 + (l.length - (k + 1))) := by omega
    conv => lhs; rw [this, List.range_add, List.range_add]
    simp [List.map_map, Function.comp_def, Nat.add_assoc]
  · intro a ha
    obtain ⟨j, hj, rfl⟩ := List.mem_map.1 ha
    rw [List.mem_range] at hj
    rcases hall j hj with h | h <;> simp [h]

theorem l9Groups_ok {v : V} {l : List (List Int)} {F : List Nat} {h : Heap} (hs : SdF h v l F) (hg : linksB l = true) :
    ∃ r h', call p 558 [v] h = some (r, h') ∧ ∃ G, SdF h' r (groupsL l) G ∧ Keeps h h' ∧ h.length ≤ h'.length := by
  obtain ⟨l12, _⟩ := linksB_facts hg
  refine go (fn := g558) rfl rfl fun R hR => ?_
  simp [g558]
  refine Wc_dnM (M := [3, 4, 5, 6, 7, 9, 11, 12, 13, 14, 15, 16, 17, 18, 19, 20, 21, 22, 23, 24, 25, 26, 27, 28, 29, 30, 31, 32, 33, 34, 35, 36, 37, 38, 39, 40, 41, 42, 43, 44, 45, 46, 47, 48, 49, 50, 51, 52, 53, 54, 55, 56, 57, 58, 59, 60, 61, 62, 63]) rfl
    (fun m s => ∃ (done ds : List Int) (outs : List (List Int)) (v3 v4 : V) (Go Gd : List Nat) (f : Nat), s.σ 3 = .v v3 ∧ s.σ 4 = .v v4 ∧ Od h.length s.h v3 outs Go ∧ SdF s.h v4 ds Gd ∧ (∀ b ∈ Gd, ¬ vB v3 b) ∧ ds.Pairwise (· < ·) ∧ (∀ x, x ∈ ds ↔ x ∈ done) ∧ ds.length = done.length ∧
      Keeps h s.h ∧ h.length ≤ s.h.length ∧ l.length ≤ f + done.length ∧ groupsL l = outs ++ groupsF l f done ∧ Cl l done ∧ done.Nodup ∧ outs.length ≤ done.length ∧ m = l.length - done.length) l.length
    ⟨[], [], [], .nils, .nils, [], [], l.length, by simp, by simp, Od.nil (Nat.le_refl _), SdF.nil, by simp, by simp, by simp, rfl, Keeps.refl _, Nat.le_refl _, by simp, by simp [groupsL], Cl.nil l, List.nodup_nil, by simp, by simp⟩ fun m s ⟨done, ds, outs, v3, v4, Go, Gd, f, g3, g4, hoo, hsd, hsep, hri, hmem, hlen, hk, hl, hf, hgl, hcl, hnd, hol, hm⟩ hM J hJ => ?_
  have hdl : done.length ≤ l.length := nodup_len hnd hcl.lt
  by_cases hlt : done.length < l.length
  · -- there is a next one
    have hex : ∃ k, nextK l done = some k := by
      cases hn : nextK l done with
      | some k => exact ⟨k, rfl⟩
      | none =>
        have nd : (nodes l).Nodup := (nodes_rising l).imp fun h => by omega
        have b := nd.length_le_of_subset (l₂ := done) fun x hx => next_none hg hn (mem_nodes.1 hx)
        have c : (nodes l).length = l.length := by simp [nodes]
        omega
    have hlt2 : (ds.length : Int) < l.length := by omega
    simp [g558_3, hM, g4, hsd.len, hs.len, hlt2]
    refine Wc_upM (M := [3, 4, 5, 6, 7, 9, 11, 19, 20, 21, 22, 23, 24, 25, 26, 27, 28, 29, 30, 31, 32, 33, 34, 35, 36, 37, 38, 39, 40, 41, 42, 43, 44, 45, 46, 47, 48, 49, 50, 51, 52, 53, 54, 55, 56, 57, 58, 59, 60, 61, 62, 63]) rfl l.length
      (fun k t => t.σ 19 = .v (vi k) ∧ t.σ 3 = .v v3 ∧ t.σ 4 = .v v4 ∧ Keeps s.h t.h ∧ s.h.length ≤ t.h.length ∧ ∀ j : Nat, j < k → j < l.length → (j : Int) ∈ done ∨ ¬ readyB l done j) 0
      ⟨by simp, by simp [g3], by simp [g4], Keeps.refl _, Nat.le_refl _, by simp⟩ fun k t ⟨g19, g3, g4, kt, lt, hall⟩ hM2 J2 hJ2 => ?_
    by_cases hkl : k < l.length
    · have hin : InR l (k : Int) := ⟨by omega, by omega⟩
      have hsdt := hsd.keep kt
      have e1 := l1Has_eq hsdt.sl (k : Int)
      have w1 : IntKind.i64.wrap ((k : Int) + 1) = (k + 1 : Nat) := by rw [IntWalk.i64_in] <;> omega
      by_cases hkd : (k : Int) ∈ done
      · rw [decide_eq_true ((hmem _).2 hkd)] at e1
        simp [g558_2, hM2, hM, g19, g4, hkl, e1, w1, -Int.natCast_add]
        refine hJ2 _ hkl ⟨by simp, by simp [g3], by simp [g4], kt, lt, fun j hj hjl => ?_⟩
        rcases Nat.lt_or_eq_of_le (Nat.le_of_lt_succ hj) with h | rfl
        · exact hall j h hjl
        · exact .inl hkd
      · rw [decide_eq_false (fun h => hkd ((hmem _).1 h))] at e1
        have hst := (hs.keep hk).keep kt
        obtain ⟨x, h2, e2, o2, k2, l2⟩ := l9Group_ok hst hg (k : Int) hin
        obtain ⟨y, h3, e3, G3, s3, k3, l3⟩ := l9Reach_ok (hst.keep k2) hg (k : Int) hin
        simp [g558_2, hM2, hM, g19, g4, hkl, e1, e2, e3, s3.len]
        -- is it ready?
        refine Wc_upM (M := [7, 9, 32, 33, 34, 35, 36, 37, 38, 39, 40, 41, 42, 43, 44, 45, 46, 47]) rfl (reachL l (k : Int)).length
          (fun i u => u.σ 32 = .v (vi i) ∧ u.h = h3 ∧ u.σ 7 = .v (.bool (((reachL l (k : Int)).take i).all fun x => decide (x ∈ ds) || decide (x ∈ groupL l k)))) 0 (by simp) fun i u ⟨g32, gh, g7⟩ hM3 J3 hJ3 => ?_
        have hsd3 := (hsdt.keep k2).keep k3
        have o3 := o2.keeps (k3.p fun _ => True) (fun _ _ => trivial) l3
        by_cases hi : i < (reachL l (k : Int)).length
        · have a1 := l1Has_eq hsd3.sl (reachL l (k : Int))[i]
          have a2 := l1Has_eq o3.sl (reachL l (k : Int))[i]
          have ix := s3.idx 1 .i64 i hi
          simp only [Nat.mul_one] at ix
          have ex := s3.sl.loadI i hi
          have ht : (((reachL l (k : Int)).take (i + 1)).all fun x => decide (x ∈ ds) || decide (x ∈ groupL l k)) = ((((reachL l (k : Int)).take i).all fun x => decide (x ∈ ds) || decide (x ∈ groupL l k)) && (decide ((reachL l (k : Int))[i] ∈ ds) || decide ((reachL l (k : Int))[i] ∈ groupL l k))) := by
            rw [List.take_succ_eq_append_getElem hi]; simp only [List.all_append, List.all_cons, List.all_nil, Bool.and_true]
          generalize decide ((reachL l (k : Int))[i] ∈ ds) = q2 at a1 ht
          generalize decide ((reachL l (k : Int))[i] ∈ groupL l k) = q3 at a2 ht
          generalize (((reachL l (k : Int)).take i).all fun x => decide (x ∈ ds) || decide (x ∈ groupL l k)) = q1 at g7 ht
          cases q1 <;> cases q2 <;> cases q3 <;>
          · simp [g558_0, hM3, hM2, hM, g32, gh, g7, g4, hi, ix, ex, a1, a2, s3.step hi]
            exact hJ3 _ hi ⟨by simp, rfl, by rw [ht]; simp⟩
        · rw [List.take_of_length_le (by omega), readyB_iff l ds done hmem] at g7
          by_cases hr : readyB l done (k : Int)
          · rw [decide_eq_true hr] at g7
            have hnext := next_first hkl hkd hr fun j hj => hall j hj (by omega)
            cases f with
            | zero => omega
            | succ f =>
            have hgl2 : groupsL l = (outs ++ [groupL l (k : Int)]) ++ groupsF l f (done ++ groupL l (k : Int)) := by
              rw [hgl]; simp [groupsF, hnext]
            have hkg : 0 < (groupL l (k : Int)).length := List.length_pos_of_mem (self_groupL hg hin)
            have hkln := groupL_len hg hin
            have kk3 : Keeps s.h h3 := (kt.trans k2).trans k3
            have kl : Keeps h3 (h3 ++ [⟨.own, [x]⟩]) := Keeps.append _ _
            obtain ⟨Gx, sx, fx⟩ := o3.fr
            have no3 : ∀ b ∈ Gx, ¬ vB v3 b := fun b hb hv => by have := (hoo.ge hv).2; have := fx.ge b hb; omega
            have hoo3 : Od h.length (h3 ++ [⟨.own, [x]⟩]) v3 outs Go := hoo.keeps ((kk3.trans kl).p fun _ => True) (fun _ _ => trivial) (fun _ _ => trivial) (by simp; omega)
            obtain ⟨v3', h4, e4, o4, k4, l4, b4⟩ := hoo3.app (zs := [groupL l (k : Int)]) (ys := [x]) (G := Gx) (by simp) (.one (show Data.rep _ (groupL l (k : Int)) [x] Gx from ⟨x, rfl, sx.keep kl⟩)) no3 (bytes := 24) (by decide) (by simp; omega) (k := 1) rfl (n := 1) rfl
            have sx4 : SdF h4 x (groupL l (k : Int)) Gx := (sx.keep kl).keeps (k4.mono no3)
            have hsd4 : SdF h4 v4 ds Gd := (hsd3.keep kl).keeps (k4.mono hsep)
            simp only [List.length_append, List.length_singleton] at l4 b4
            have kk4 : Keeps h h4 := Keeps.far (n := h.length) (hk.trans (kk3.trans kl)) k4 (Nat.le_refl _) fun b hb hv => by have := (hoo.ge hv).1; omega
            have hc1 := sx.cells
            have hc2 := sx.cell
            have w1' := w1
            simp [g558_0, hM3, hM2, hM, g32, gh, g7, hi, g3, hc1, hc2, fillL, rdS_last, e4, sx4.len]
            refine Wc_upM (M := [4, 11, 55, 56, 57, 58, 59, 60, 61, 62]) rfl (groupL l (k : Int)).length
              (fun j u => j ≤ (groupL l (k : Int)).length ∧ u.σ 55 = .v (vi j) ∧ ∃ (ds2 : List Int) (v5 : V) (G5 : List Nat), u.σ 4 = .v v5 ∧ SdF u.h v5 ds2 G5 ∧ (∀ b ∈ G5, ¬ vB v3' b) ∧ ds2.Pairwise (· < ·) ∧ (∀ y, y ∈ ds2 ↔ y ∈ ds ∨ y ∈ (groupL l (k : Int)).take j) ∧ ds2.length ≤ ds.length + j ∧ Keeps h4 u.h ∧ h4.length ≤ u.h.length) 0
              ⟨by omega, by simp, ds, v4, Gd, by simp [hM3, g4], hsd4, fun b hb hv => ?_, hri, by simp, by simp, Keeps.refl _, Nat.le_refl _⟩ fun j u ⟨gj, g55, ds2, v5, G5, g4', s5, sep5, r5, m5, n5, k5, l5⟩ hM4 J4 hJ4 => ?_
            · have e := b4 b hv
              obtain ⟨blk, hb1, _⟩ := hsd3.lt hb
              have := get_lt hb1; omega
            · by_cases hj : j < (groupL l (k : Int)).length
              · have sxu := sx4.keep k5
                have ij := sxu.idx 1 .i64 j hj
                simp only [Nat.mul_one] at ij
                have ej := sxu.sl.loadI j hj
                obtain ⟨v7, h7, e7, ds3, G7, s7, r7, m7, n7, G7s, k7, l7⟩ := l1Put_ok s5 r5 (by omega) (groupL l (k : Int))[j]
                simp [g558_1, hM4, hM3, hM2, hM, g55, g4', hj, ij, ej, e7, sx4.step hj]
                refine hJ4 _ hj ⟨hj, by simp, ds3, v7, G7, by simp, s7, fun b hb hv => ?_, r7, fun y => ?_, by omega, k5.trans k7, by show h4.length ≤ h7.length; omega⟩
                · rcases G7s b hb with h | h
                  · exact sep5 b h hv
                  · have e := b4 b hv; omega
                · rw [m7, m5, mem_take_succ hj, or_assoc]
              · have hjl : j = (groupL l (k : Int)).length := by omega
                subst hjl
                simp only [List.take_length] at m5
                have hnd2 := nodup_next hg hcl hnd hin hkd
                have hmem2 : ∀ y, y ∈ ds2 ↔ y ∈ done ++ groupL l (k : Int) := fun y => by rw [m5, List.mem_append, hmem]
                have hlen2 : ds2.length = (done ++ groupL l (k : Int)).length := by
                  have nd5 : ds2.Nodup := r5.imp fun h => by omega
                  have a := nd5.length_le_of_subset (l₂ := done ++ groupL l (k : Int)) fun y hy => (hmem2 y).1 hy
                  have b := hnd2.length_le_of_subset (l₂ := ds2) fun y hy => (hmem2 y).2 hy
                  omega
                simp [g558_1, hM4, hM3, hM2, hM, g55]
                refine hJ (l.length - (done ++ groupL l (k : Int)).length) _ (by simp; omega) ⟨done ++ groupL l (k : Int), ds2, outs ++ [groupL l (k : Int)], v3', v5, Go ++ Gx, G5, f, by simp [hM4], by simp [g4'], ?_, s5, sep5, r5, hmem2, hlen2, kk4.trans k5, by show h.length ≤ u.h.length; omega, by simp; omega, hgl2, hcl.next hg hin hr, hnd2, by simp; omega, rfl⟩
                exact o4.keeps (k5.p fun _ => True) (fun _ _ => trivial) (fun _ _ => trivial) l5
          · rw [decide_eq_false hr] at g7
            simp [g558_0, hM3, hM2, hM, g32, gh, g7, hi, g19, w1, -Int.natCast_add]
            refine hJ2 _ hkl ⟨by simp, by simp [hM3, g3], by simp [hM3, g4], (kt.trans k2).trans k3, by show s.h.length ≤ h3.length; omega, fun j hj hjl => ?_⟩
            rcases Nat.lt_or_eq_of_le (Nat.le_of_lt_succ hj) with h | rfl
            · exact hall j h hjl
            · exact .inr hr
    · exfalso
      obtain ⟨k', hk'⟩ := hex
      obtain ⟨a1, a2, a3, _⟩ := next_some hg hk'
      have e : ((k'.toNat : Nat) : Int) = k' := by have := a1.1; omega
      rcases hall k'.toNat (by have := a1.2; omega) (by have := a1.2; omega) with h | h
      · rw [e] at h; exact a2 h
      · rw [e] at h; exact h a3
  · have hfin : groupsL l = outs := by
      have : groupsF l f done = [] := by
        cases f with
        | zero => rfl
        | succ f =>
          cases hn : nextK l done with
          | none => simp [groupsF, hn]
          | some k =>
            obtain ⟨a1, a2, _⟩ := next_some hg hn
            have hnd2 : (k :: done).Nodup := List.nodup_cons.2 ⟨a2, hnd⟩
            have := nodup_len (n := l.length) hnd2 fun y hy => by
              rcases List.mem_cons.1 hy with rfl | hy
              · exact a1
              · exact hcl.lt y hy
            simp at this; omega
      rw [hgl, this, List.append_nil]
    obtain ⟨F', hF', _⟩ := hoo.sd
    have hlt2 : ¬ (ds.length : Int) < l.length := by omega
    simp [g558_3, hM, g4, g3, hsd.len, hs.len, hlt2]
    exact hR _ _ ⟨F', by rw [hfin]; exact hF', hk, hl⟩
end GL

namespace GL
open Go

theorem sameRows_same {h : Heap} {v w : V} {l : List (List Int)} {F G : List Nat} (hs : SdF h v l F) (ht : SdF h w l G) : call p 383 [v, w] h = some (.bool true, h) := by
  refine go_eq (fn := g383) rfl rfl fun R hR => ?_
  simp [g383, hs.len, ht.len]
  refine Wc_upM (M := [4, 5, 13, 14, 15, 16, 17, 18, 19, 20, 21, 22, 23, 24, 25, 26]) rfl l.length (fun i s => s.σ 13 = .v (vi i) ∧ s.h = h) 0 (by simp) fun i s ⟨g13, gh⟩ hM J hJ => ?_
  by_cases hn : i < l.length
  · obtain ⟨x, F2, ex, hx, _⟩ := hs.loadL i hn
    obtain ⟨y, F3, ey, hy, _⟩ := ht.loadL i hn
    have e := sameInts_eq hx.sl hy.sl
    rw [decide_eq_true rfl] at e
    simp [g383_0, hM, g13, gh, hn, hs.idx 1 .i64 i hn, ht.idx 1 .i64 i hn, ex, ey, e, hs.step hn]
    exact hJ _ hn ⟨by simp, rfl⟩
  · simp [g383_0, hM, g13, gh, hn]
    exact hR

/-- where a number stands, or -1 -/
def placeL (xs : List Int) (n : Int) : Int := if n ∈ xs then (xs.idxOf n : Int) else -1
end GL

namespace GL
open Go

/-- what one leads to, and that does not lead back, stands ahead of it -/
theorem place_le {l : List (List Int)} (hg : linksB l = true) {a b : Int} (ha : InR l a) (r : Rch l a b) (nr : ¬ Rch l b a) : placeL (groupsL l).flatten b ≤ placeL (groupsL l).flatten a := by
  obtain ⟨h1, h2, h3⟩ := groupsL_facts hg
  have ma := (h2 a).1 ha
  obtain ⟨g, hgm, hag⟩ := List.mem_flatten.1 ma
  obtain ⟨i, hi, rfl⟩ := List.getElem_of_mem hgm
  obtain ⟨k, hk, e, hr⟩ := h3 i hi
  rw [e] at hag
  have ⟨r1, r2⟩ := (mem_groupL hg hk).1 hag
  have hb := hr b (r1.trans r)
  rw [flat_take hi, e] at hb
  have hbP : b ∈ ((groupsL l).take i).flatten := by
    rcases List.mem_append.1 hb with h | h
    · exact h
    · exact absurd (((mem_groupL hg hk).1 h).2.trans r1) nr
  have hsplit : (groupsL l).flatten = ((groupsL l).take i).flatten ++ ((groupsL l).drop i).flatten := by
    rw [← List.flatten_append, List.take_append_drop]
  have haQ : a ∈ ((groupsL l).drop i).flatten := by
    rw [List.drop_eq_getElem_cons hi, List.flatten_cons, e]
    exact List.mem_append_left _ hag
  have haP : a ∉ ((groupsL l).take i).flatten := fun h => by
    rw [hsplit, List.nodup_append] at h1
    exact h1.2.2 a h a haQ rfl
  have hb2 : b ∈ (groupsL l).flatten := by rw [hsplit]; exact List.mem_append_left _ hbP
  rw [placeL, placeL, if_pos hb2, if_pos ma, hsplit, List.idxOf_append, List.idxOf_append, if_pos hbP, if_neg haP]
  have := List.idxOf_lt_length_of_mem hbP
  omega

end GL

namespace GL
open Go

theorem getD_in {α : Type} {xs : List α} {i : Nat} (hi : i < xs.length) (d : α) : xs.getD i d = xs[i] := by simp [hi]
section
variable {l : List (List Int)} (hg : linksB l = true)
include hg
end

end GL

namespace GL
open Go

theorem KeepsP.low {h h1 h2 : Heap} {n : Nat} (hk : Keeps h h1) (hp : KeepsP (fun b => b < n) h1 h2) (hn : h.length ≤ n) : Keeps h h2 := Keeps.far (n := h.length) hk hp (Nat.le_refl _) fun i hi => by omega

end GL

namespace GL
open Go

end GL

namespace GL
open Go

end GL

namespace GL
open Go

theorem srtI_ris (xs : List Int) (lo hi : Int) : risB lo hi (srtI xs) = decide ((∀ x ∈ xs, lo ≤ x ∧ x ≤ hi) ∧ xs.Nodup) := by
  unfold risB
  have hp := srtI_perm xs
  congr 1
  refine propext ⟨fun ⟨h1, h2⟩ => ⟨fun x hx => h1 x (hp.mem_iff.2 hx), hp.nodup_iff.1 (h2.imp fun h => by omega)⟩, fun ⟨h1, h2⟩ => ⟨fun x hx => h1 x (hp.mem_iff.1 hx), sorted_nodup (srtI_le xs) (hp.nodup_iff.2 h2)⟩⟩
/-- slices.Sorted(slices.Values(v)) -/
theorem sorted_call {h : Heap} {v : V} {xs : List Int} (hs : Sl h v xs) (hl : xs.length ≤ 2 ^ 20) :
    ∃ c h1 r h', call p 406 [v] h = some (c, h1) ∧ call p 407 [c] h1 = some (r, h') ∧ Sl h' r (srtI xs) ∧ Keeps h h' ∧ h.length ≤ h'.length := by
  have hv : v = .nils ∨ ∃ b o n c, v = .slice b o n c := by
    rcases hs.2 with ⟨rfl, _⟩ | ⟨b, o, c, rfl, _⟩
    · exact .inl rfl
    · exact .inr ⟨_, _, _, _, rfl⟩
  have k0 : Keeps h (h ++ [⟨.own, [v]⟩]) := Keeps.append _ _
  have hb : (h ++ [⟨.own, [v]⟩])[h.length]? = some ⟨.own, [v]⟩ := get_last _ _
  have r0 : rdH (h ++ [⟨.own, [v]⟩]) h.length 0 1 = some [v] := by rw [rdH_at hb (by simp)]; rfl
  have hr := (hs.keeps k0).rdS xs.length (Nat.le_refl _)
  rw [List.take_length, flats_ints] at hr
  have e2 := sortedE_eq r0 hs.len (by omega) hr
  refine ⟨_, _, (sortedR xs (h ++ [⟨.own, [v]⟩])).1, (sortedR xs (h ++ [⟨.own, [v]⟩])).2, by rw [call_ext (e := valuesE) rfl]; exact valuesE_eq h hv, by rw [call_ext (e := sortedE) rfl]; exact e2, ?_⟩
  unfold sortedR
  by_cases h0 : xs = []
  · rw [if_pos h0]; subst h0
    exact ⟨by simpa [srtI] using Sl.nil, k0, by simp⟩
  · rw [if_neg h0]
    refine ⟨?_, k0.trans (Keeps.append _ _), by simp⟩
    exact Sl.lit (srtI xs) xs.length (srtI_length xs).symm _ (flats_ints _).symm _ (by rw [srtI_length]; omega)
theorem cut_take {cs xs : List V} {off n m : Nat} (e : cut cs off n = some xs) (hm : m ≤ n) : cut cs off m = some (xs.take m) := by
  unfold cut at e ⊢
  split at e
  case isFalse => cases e
  injection e with e
  subst e
  rw [if_pos (by omega), List.take_take, Nat.min_eq_left hm]
theorem SdF.pre {h : Heap} {v : V} {xs : List Int} {F : List Nat} (hs : SdF h v xs F) {i : Nat} (hi : i ≤ xs.length) : ∃ u F', slcV 1 v none (some i) none = some u ∧ SdF h u (xs.take i) F' ∧ ∀ b ∈ F', b ∈ F := by
  have hbd := hs.bd
  rcases hs with ⟨hb, ⟨rfl, rfl, rfl⟩ | ⟨b, off, cap, rfl, hc, hs⟩⟩
  · simp at hi; subst hi
    exact ⟨.nils, [], rfl, .nil, by simp⟩
  · have s2 : ∃ cap2, slcV 1 (.slice b off xs.length cap) none (some i) none = some (.slice b off i cap2) ∧ capW 1 i cap2 := by
      cases cap with
      | k c =>
        have hc' : xs.length ≤ c := hc
        refine ⟨.k c, ?_, Nat.le_trans hi hc'⟩
        simp only [slcV, Option.getD_none, Option.getD_some]
        rw [if_pos ⟨by omega, by omega, by omega⟩]
        simp
      | o k =>
        have hc' : k = 1 := hc
        subst hc'
        refine ⟨.o 1, ?_, rfl⟩
        simp only [slcV, Option.getD_none, Option.getD_some]
        rw [if_pos ⟨trivial, by omega, by omega⟩]
        simp
    obtain ⟨cap2, e, c2⟩ := s2
    have hl : (xs.take i).length = i := by simp; omega
    rcases hs with ⟨rfl, rfl⟩ | ⟨blk, cs, G, rfl, h1, h2, h3, h4⟩
    · simp at hi; subst hi
      exact ⟨_, [], e, ⟨by simp, .inr ⟨b, off, cap2, rfl, c2, .inl ⟨rfl, rfl⟩⟩⟩, by simp⟩
    · obtain ⟨rfl, rfl⟩ := Reps.flat.1 h4
      have h3' : cut blk.cells off (i * 1) = some (flats (xs.take i)) := by
        rw [← flats_take]
        exact cut_take h3 (show i * 1 ≤ xs.length * 1 by omega)
      refine ⟨_, [b], e, ⟨by omega, .inr ⟨b, off, cap2, by rw [hl], by rw [hl]; exact c2, .inr ⟨blk, flats (xs.take i), [], rfl, h1, h2, by rw [hl]; exact h3', Reps.flat.2 ⟨rfl, rfl⟩⟩⟩⟩, by simp⟩
def onceB (n : Int) (xs : List Int) : Bool := decide ((∀ x ∈ xs, 0 ≤ x ∧ x ≤ n - 1) ∧ xs.Nodup)
theorem areOnce_ok {h : Heap} {v : V} {xs : List Int} (hs : Sl h v xs) (hl : xs.length ≤ 2 ^ 20) (n : Int) (hn : 0 ≤ n ∧ n < 2 ^ 60) :
    ∃ r h', call p 541 [v, vi n] h = some (r, h') ∧ r = .bool (onceB n xs) ∧ Keeps h h' ∧ h.length ≤ h'.length := by
  obtain ⟨c, h1, r, h2, e1, e2, s2, k2, l2⟩ := sorted_call hs hl
  have w : IntKind.i64.wrap (n - 1) = n - 1 := by rw [IntWalk.i64_in] <;> omega
  refine go (fn := g541) rfl rfl fun R hR => ?_
  simp [g541, e1, e2, w, isRising_eq s2, srtI_ris, -Bool.decide_and]
  exact hR _ _ ⟨rfl, k2, l2⟩
theorem l14Once_eq {h : Heap} {v : V} {xs : List Int} {F : List Nat} (hd : SdF h v xs F) (n : Int) (hn : 0 ≤ n ∧ n < 2 ^ 60) : call p 539 [vi n, v] h = some (.bool (onceB n xs), h) := by
  have hs := hd.sl
  have w : IntKind.i64.wrap (n - 1) = n - 1 := by rw [IntWalk.i64_in] <;> omega
  refine go_eq (fn := g539) rfl rfl fun R hR => ?_
  simp [g539, hs.len]
  refine Wc_upM (M := [4, 5, 6, 9, 10, 11, 12, 13, 14, 15, 16, 17, 18, 19, 20, 21, 22, 23, 24, 25, 26]) rfl xs.length (fun i s => s.σ 9 = .v (vi i) ∧ s.h = h ∧ onceB n (xs.take i) = true) 0 (by simp [onceB]) fun i s ⟨g9, gh, hall⟩ hM J hJ => ?_
  by_cases hi : i < xs.length
  · have ix := hs.idx 1 .i64 i hi
    simp only [Nat.mul_one] at ix
    have ht := List.take_succ_eq_append_getElem hi
    obtain ⟨u, _, eu, su', _⟩ := hd.pre (i := i) (by omega)
    have su := su'.sl
    have eh := l1Has_eq su xs[i]
    simp only [onceB, decide_eq_true_eq] at hall
    by_cases hin : 0 ≤ xs[i] ∧ xs[i] ≤ n - 1
    · by_cases hm : xs[i] ∈ xs.take i
      · rw [decide_eq_true hm] at eh
        simp [g539_0, hM, g9, gh, hi, ix, hs.loadI, w, hin, bounds, takeB, eu, eh, -Bool.decide_and]
        have : onceB n xs = false := by
          simp only [onceB, decide_eq_false_iff_not]
          rintro ⟨_, h2⟩
          have h3 : (xs.take (i + 1)).Nodup := List.Sublist.nodup (List.take_sublist ..) h2
          rw [ht, List.nodup_append] at h3
          exact h3.2.2 _ hm _ (by simp) rfl
        rw [this] at hR; exact hR
      · rw [decide_eq_false hm] at eh
        simp [g539_0, hM, g9, gh, hi, ix, hs.loadI, w, hin, bounds, takeB, eu, eh, hs.step hi, -Bool.decide_and]
        refine hJ _ hi ⟨by simp, rfl, ?_⟩
        simp only [onceB, decide_eq_true_eq, ht]
        refine ⟨fun x hx => ?_, ?_⟩
        · rcases List.mem_append.1 hx with hx | hx
          · exact hall.1 x hx
          · simp at hx; subst hx; exact hin
        · rw [List.nodup_append]
          exact ⟨hall.2, by simp, fun a ha b hb e => by simp at hb; subst hb; subst e; exact hm ha⟩
    · simp [g539_0, hM, g9, gh, hi, ix, hs.loadI, w, hin, -Bool.decide_and]
      have : onceB n xs = false := by
        simp only [onceB, decide_eq_false_iff_not]
        exact fun h2 => hin (h2.1 _ (List.getElem_mem hi))
      rw [this] at hR; exact hR
  · rw [List.take_of_length_le (by omega)] at hall
    simp [g539_0, hM, g9, gh, hi]
    rw [hall] at hR; exact hR
end GL

namespace GL
open Go

/-- those of ds whose reach lies in ds -/
noncomputable def readyL (l : List (List Int)) (ds : List Int) : List Int := ds.filter fun n => (reachL l n).all fun x => decide (x ∈ ds)
theorem ready1_ok {h : Heap} {v w : V} {l : List (List Int)} {F : List Nat} {ds : List Int} (hs : SdF h v l F) (hd : Sl h w ds) (hg : linksB l = true) {bd bl : Nat} (h1 : h[bd]? = some ⟨.own, [w]⟩) (h2 : h[bl]? = some ⟨.own, [v]⟩) (n : Int) (hn : InR l n) :
    ∃ h', call p 571 [vi n, .ptr bd 0, .ptr bl 0] h = some (.bool (!(reachL l n).all fun x => decide (x ∈ ds)), h') ∧ Keeps h h' ∧ h.length ≤ h'.length := by
  obtain ⟨r, h3, e1, G, s1, f1, k1, l1⟩ := reach_ok hs hg n hn
  obtain ⟨_, h4, e2, rfl, k2, l2⟩ := hasAll_ok (hd.keeps k1) s1.sl
  have r1 : rdH h bd 0 1 = some [w] := by rw [rdH_at h1 (by simp)]; rfl
  have r2 : rdH h bl 0 1 = some [v] := by rw [rdH_at h2 (by simp)]; rfl
  have r3 := rdH_keep k1 r1
  obtain ⟨x, h', e, hx, hk, hl⟩ : ∃ r h', call p 571 [vi n, .ptr bd 0, .ptr bl 0] h = some (r, h') ∧ r = .bool (!(reachL l n).all fun x => decide (x ∈ ds)) ∧ Keeps h h' ∧ h.length ≤ h'.length := by
    refine go (fn := g571) rfl rfl fun R hR => ?_
    simp [g571, r1, r2, r3, e1, e2, stable]
    exact hR _ _ ⟨rfl, k1.trans k2, by omega⟩
  exact ⟨h', by rw [e, hx], hk, hl⟩
theorem ready_ok {h : Heap} {v w : V} {l : List (List Int)} {F : List Nat} {ds : List Int} (hs : SdF h v l F) (hd : Sl h w ds) (hg : linksB l = true) (hin : ∀ x ∈ ds, InR l x) (hl : ds.length ≤ 2 ^ 20) :
    ∃ r h', call p 549 [v, w] h = some (r, h') ∧ ∃ G, SdF h' r (readyL l ds) G ∧ Fresh h.length h' G ∧ Keeps h h' ∧ h.length ≤ h'.length := by
  refine go (fn := g549) rfl rfl fun R hR => ?_
  have k0 : Keeps h (h ++ [⟨.own, [v]⟩]) := Keeps.append _ _
  have k1 : Keeps (h ++ [⟨.own, [v]⟩]) (h ++ [⟨.own, [v]⟩, ⟨.own, [w]⟩]) := by
    have := Keeps.append (h ++ [⟨.own, [v]⟩]) [⟨.own, [w]⟩]
    simpa using this
  generalize hh : h ++ [⟨.own, [v]⟩, ⟨.own, [w]⟩] = H at k1
  have hb1 : H[h.length]? = some ⟨.own, [v]⟩ := k1 _ _ (get_last _ _) (by simp)
  have hb2 : H[h.length + 1]? = some ⟨.own, [w]⟩ := by
    rw [← hh]; simp
  have hHl : H.length = h.length + 2 := by rw [← hh]; simp
  have r2 : rdH H (h.length + 1) 0 1 = some [w] := by rw [rdH_at hb2 (by simp)]; rfl
  have k01 := k0.trans k1
  obtain ⟨c, h1, e1, F1, c1, f1, kc, lc⟩ := cloneI_ok (hd.keeps k01) hl
  have nF : ∀ b ∈ F1, ¬ b < h.length + 2 := fun b hb e => by have := f1.ge b hb; omega
  obtain ⟨r, h2, e2, G, p1, p2, p3, p4⟩ := deleteIg_ok c1 f1 (f := 571) (capt := [.ptr (h.length + 1) 0, .ptr h.length 0]) (q := fun n => !(reachL l n).all fun x => decide (x ∈ ds)) fun h' hk hl' n hn => by
    have hkk : Keeps H h' := Keeps.far (n := h.length + 2) kc hk (by omega) fun i hi hm => nF _ hm hi
    exact ready1_ok (hs.keep (k01.trans hkk)) (hd.keeps (k01.trans hkk)) hg (hkk _ _ hb2 (by simp)) (hkk _ _ hb1 (by simp)) n (hin n hn)
  have hf : (ds.filter fun n => !(!(reachL l n).all fun x => decide (x ∈ ds))) = readyL l ds := by unfold readyL; congr 1; funext n; simp
  rw [hf] at p1
  simp [g549, hs.cells, hs.cell, hd.cells, hd.cell, fillL, hh, r2, e1, e2]
  exact hR _ _ ⟨G, p1, p2.mono (by omega), Keeps.far (n := h.length + 2) (k01.trans kc) p3 (by omega) fun i hi hm => nF _ hm hi, by omega⟩
theorem l5Sub_eq {h : Heap} {v w : V} {as bs : List Int} (ha : Sl h v as) (hb : Sl h w bs) : call p 554 [v, w] h = some (.bool (as.all fun x => decide (x ∈ bs)), h) := by
  refine go_eq (fn := g554) rfl rfl fun R hR => ?_
  simp [g554, ha.len]
  refine Wc_upM (M := [4, 6, 9, 10, 11, 12, 13, 14, 15, 16, 17]) rfl as.length (fun i s => s.σ 9 = .v (vi i) ∧ s.h = h ∧ ∀ x ∈ as.take i, decide (x ∈ bs) = true) 0 (by simp) fun i s ⟨g9, gh, hall⟩ hM J hJ => ?_
  by_cases hi : i < as.length
  · have ix := ha.idx 1 .i64 i hi
    simp only [Nat.mul_one] at ix
    have e := l1Has_eq hb as[i]
    by_cases hm : as[i] ∈ bs
    · rw [decide_eq_true hm] at e
      simp [g554_0, hM, g9, gh, hi, ix, ha.loadI, e, ha.step hi]
      exact hJ _ hi ⟨by simp, rfl, (all_take_succ (P := fun x => decide (x ∈ bs) = true) hi).2 ⟨hall, decide_eq_true hm⟩⟩
    · rw [decide_eq_false hm] at e
      simp [g554_0, hM, g9, gh, hi, ix, ha.loadI, e]
      have : (as.all fun x => decide (x ∈ bs)) = false := List.all_eq_false.2 ⟨_, List.getElem_mem hi, by simp [hm]⟩
      rw [this] at hR; exact hR
  · rw [List.take_of_length_le (by omega)] at hall
    have : (as.all fun x => decide (x ∈ bs)) = true := List.all_eq_true.2 hall
    rw [this] at hR
    simp [g554_0, hM, g9, gh, hi]; exact hR
theorem l14Ready_ok {h : Heap} {v w : V} {l : List (List Int)} {F : List Nat} {ds : List Int} (hs : SdF h v l F) (hd : Sl h w ds) (hg : linksB l = true) (hin : ∀ x ∈ ds, InR l x) (hl : ds.length ≤ 2 ^ 20) :
    ∃ r h', call p 551 [v, w] h = some (r, h') ∧ Out h.length h' r (readyL l ds) ∧ Keeps h h' ∧ h.length ≤ h'.length := by
  refine go (fn := g551) rfl rfl fun R hR => ?_
  simp [g551, hd.len]
  refine Wc_upM (M := [5, 7, 10, 11, 12, 13, 14, 15, 16, 17, 18, 19, 20, 21, 22, 23]) rfl ds.length (fun i s => s.σ 10 = .v (vi i) ∧ ∃ v5, s.σ 5 = .v v5 ∧ Out h.length s.h v5 (((ds.take i)).filter fun n => (reachL l n).all fun x => decide (x ∈ ds)) ∧ Keeps h s.h ∧ h.length ≤ s.h.length) 0
    ⟨by simp, .nils, by simp, by simpa using Out.nil (Nat.le_refl _), Keeps.refl _, Nat.le_refl _⟩ fun i s ⟨g10, v5, g5, ho, hk, hln⟩ hM J hJ => ?_
  by_cases hn : i < ds.length
  · have hd' := hd.keeps hk
    have ht := List.take_succ_eq_append_getElem hn
    obtain ⟨r2, h2, e2, G2, s2, k2, l2⟩ := l9Reach_ok (hs.keep hk) hg ds[i] (hin _ (List.getElem_mem hn))
    have e3 := l5Sub_eq s2.sl (hd'.keeps k2)
    have ij := hd.idx 1 .i64 i hn
    simp only [Nat.mul_one] at ij
    have ho2 : Out h.length h2 v5 _ := ho.keeps (k2.p fun _ => True) (fun _ _ => trivial) l2
    cases hm : (reachL l ds[i]).all fun x => decide (x ∈ ds) with
    | false =>
      rw [hm] at e3
      simp [g551_0, hM, g10, g5, hn, ij, hd'.loadI, e2, e3, hd.step hn]
      refine hJ _ hn ⟨by simp, v5, by simp [g5], ?_, hk.trans k2, by show h.length ≤ h2.length; omega⟩
      rw [ht, List.filter_append, List.filter_cons, hm]; simpa using ho2
    | true =>
      rw [hm] at e3
      have hle : ((ds.take i).filter fun n => (reachL l n).all fun x => decide (x ∈ ds)).length ≤ 2 ^ 20 := Nat.le_trans (List.length_filter_le ..) (by simp; omega)
      obtain ⟨v6, h3, e4, o3, k3, l3⟩ := ho2.one ds[i] hle
      simp [g551_0, hM, g10, g5, hn, ij, hd'.loadI, e2, e3, fillL, rdS_last, e4, hd.step hn]
      refine hJ _ hn ⟨by simp, v6, by simp, ?_, ho2.far (hk.trans k2) k3 (Nat.le_refl _), by show h.length ≤ h3.length; omega⟩
      rw [ht, List.filter_append, List.filter_cons, hm]; simpa using o3
  · rw [List.take_of_length_le (by omega)] at ho
    simp [g551_0, hM, g10, g5, hn]
    exact hR _ _ ⟨ho, hk, hln⟩
end GL

namespace GL
open Go

noncomputable def nextL (l : List (List Int)) (ds c : List Int) : List Int := ((groupsL l).flatten.filter fun n => decide (n ∈ readyL l ds)).filter fun n => !decide (n ∈ c)
theorem nextDone_ok {h : Heap} {v w u : V} {l : List (List Int)} {F : List Nat} {ds c : List Int} (hs : SdF h v l F) (hd : Sl h w ds) (hc : Sl h u c) (hg : linksB l = true) (hin : ∀ x ∈ ds, InR l x) (hl : ds.length ≤ 2 ^ 20) :
    ∃ r h', call p 553 [v, w, u] h = some (r, h') ∧ Sl h' r (nextL l ds c) ∧ Keeps h h' ∧ h.length ≤ h'.length := by
  obtain ⟨l12, _⟩ := linksB_facts hg
  obtain ⟨r1, h1, e1, G1, s1, k1, l1⟩ := groups_ok hs hg
  obtain ⟨r2, h2, e2, G2, s2, _, k2, l2⟩ := concat_ok s1 (by rw [groupsL_flat hg]; omega)
  obtain ⟨r3, h3, e3, G3, s3, _, k3, l3⟩ := ready_ok (hs.keep (k1.trans k2)) (hd.keeps (k1.trans k2)) hg hin hl
  obtain ⟨r4, h4, e4, G4, s4, _, k4, l4⟩ := both_ok (s2.keep k3).sl s3.sl (by rw [groupsL_flat hg]; omega)
  have hle : ((groupsL l).flatten.filter fun n => decide (n ∈ readyL l ds)).length ≤ 2 ^ 20 := Nat.le_trans (List.length_filter_le ..) (by rw [groupsL_flat hg]; omega)
  have k14 := ((k1.trans k2).trans k3).trans k4
  obtain ⟨r5, h5, e5, G5, s5, _, k5, l5⟩ := without_ok s4.sl (hc.keeps k14) hle
  refine go (fn := g553) rfl rfl fun R hR => ?_
  simp [g553, e1, e2, e3, e4, e5]
  exact hR _ _ ⟨s5.sl, k14.trans k5, by omega⟩
theorem l14Order_ok {h : Heap} {v : V} {l : List (List Int)} {F : List Nat} (hs : SdF h v l F) (hl : linksB l = true) :
    ∃ r h', call p 573 [v] h = some (r, h') ∧ Sl h' r (groupsL l).flatten ∧ Keeps h h' ∧ h.length ≤ h'.length := by
  obtain ⟨l12, _⟩ := linksB_facts hl
  obtain ⟨r, h2, e2, G, s2, k2, l2⟩ := l9Groups_ok hs hl
  have hfl := groupsL_flat hl
  refine go (fn := g573) rfl rfl fun R hR => ?_
  simp [g573, e2, s2.len]
  refine Wc_upM (M := [3, 5, 9, 10, 11, 12, 13, 14, 15, 16]) rfl (groupsL l).length (fun i s => s.σ 9 = .v (vi i) ∧ ∃ v4, s.σ 3 = .v v4 ∧ Out h2.length s.h v4 ((groupsL l).take i).flatten ∧ Keeps h2 s.h ∧ h2.length ≤ s.h.length) 0
    ⟨by simp, .nils, by simp, by simpa using Out.nil (Nat.le_refl _), Keeps.refl _, Nat.le_refl _⟩ fun i s ⟨g9, v4, g3, ho, hk, hln⟩ hM J hJ => ?_
  by_cases hn : i < (groupsL l).length
  · obtain ⟨x, F2, ex, hx, _⟩ := (s2.keep hk).loadL i hn
    have hle := flat_le (groupsL l) i
    have hle2 := flat_le (groupsL l) (i + 1)
    have ht := flat_take hn
    rw [ht, List.length_append] at hle2
    obtain ⟨ys, v5, h3, e3, e4, o3, k3, l3⟩ := ho.appS hx.sl (bytes := 8) (by decide) (by omega) (k := 1) rfl (n := (groupsL l)[i].length) rfl
    have ix := s2.idx 1 .i64 i hn
    simp only [Nat.mul_one] at ix
    simp [g573_0, hM, g9, g3, hn, ix, ex, hx.len, e3, e4, s2.step hn]
    exact hJ _ hn ⟨by simp, v5, by simp, by rw [ht]; exact o3, ho.far hk k3 (Nat.le_refl _), by show h2.length ≤ h3.length; omega⟩
  · rw [List.take_of_length_le (by omega)] at ho
    simp [g573_0, hM, g9, g3, hn]
    exact hR _ _ ⟨ho.sl, k2.trans hk, by omega⟩
theorem l14Next_ok {h : Heap} {v w u : V} {l : List (List Int)} {F : List Nat} {ds c : List Int} (hs : SdF h v l F) (hd : Sl h w ds) (hc : Sl h u c) (hg : linksB l = true) (hin : ∀ x ∈ ds, InR l x) (hl : ds.length ≤ 2 ^ 20) :
    ∃ r h', call p 555 [v, w, u] h = some (r, h') ∧ Sl h' r (nextL l ds c) ∧ Keeps h h' ∧ h.length ≤ h'.length := by
  obtain ⟨l12, _⟩ := linksB_facts hg
  obtain ⟨r1, h1, e1, s1, k1, l1⟩ := l14Ready_ok hs hd hg hin hl
  obtain ⟨r2, h2, e2, s2, k2, l2⟩ := l14Order_ok (hs.keep k1) hg
  have hfl := groupsL_flat hg
  have k12 := k1.trans k2
  have hr2 := s1.sl.keeps k2
  have hc2 := hc.keeps k12
  unfold nextL
  generalize (groupsL l).flatten = ord at s2 hfl ⊢
  refine go (fn := g555) rfl rfl fun R hR => ?_
  simp [g555, e1, e2, s2.len]
  refine Wc_upM (M := [8, 10, 17, 18, 19, 20, 21, 22, 23, 24, 25, 26, 27, 28, 29, 30, 31, 32, 33, 34]) rfl ord.length (fun i s => s.σ 17 = .v (vi i) ∧ ∃ v5, s.σ 8 = .v v5 ∧ Out h2.length s.h v5 (((ord.take i).filter fun n => decide (n ∈ readyL l ds)).filter fun n => !decide (n ∈ c)) ∧ Keeps h2 s.h ∧ h2.length ≤ s.h.length) 0
    ⟨by simp, .nils, by simp, by simpa using Out.nil (Nat.le_refl _), Keeps.refl _, Nat.le_refl _⟩ fun i s ⟨g17, v5, g8, ho, hk, hln⟩ hM J hJ => ?_
  by_cases hn : i < ord.length
  · have s2' := s2.keeps hk
    have ht := List.take_succ_eq_append_getElem hn
    have e3 := l1Has_eq (hr2.keeps hk) ord[i]
    have e4 := l1Has_eq (hc2.keeps hk) ord[i]
    have ij := s2.idx 1 .i64 i hn
    have ld := s2'.loadI i hn
    simp only [Nat.mul_one] at ij
    have st := s2.step hn
    generalize hx : ord[i] = x at *
    by_cases hm : x ∈ readyL l ds
    · rw [decide_eq_true hm] at e3
      by_cases hm2 : x ∈ c
      · rw [decide_eq_true hm2] at e4
        simp [g555_0, hM, g17, g8, hn, ij, ld, e3, e4, st]
        refine hJ _ hn ⟨by simp, v5, by simp [g8], ?_, hk, hln⟩
        rw [ht, List.filter_append, List.filter_append]; simpa [hm, hm2] using ho
      · rw [decide_eq_false hm2] at e4
        have hle : (((ord.take i).filter fun n => decide (n ∈ readyL l ds)).filter fun n => !decide (n ∈ c)).length ≤ 2 ^ 20 := Nat.le_trans (List.length_filter_le ..) (Nat.le_trans (List.length_filter_le ..) (by rw [List.length_take]; omega))
        obtain ⟨v6, h3, e5, o3, k3, l3⟩ := ho.one x hle
        simp [g555_0, hM, g17, g8, hn, ij, ld, e3, e4, fillL, rdS_last, e5, st]
        refine hJ _ hn ⟨by simp, v6, by simp, ?_, ho.far hk k3 (Nat.le_refl _), by show h2.length ≤ h3.length; omega⟩
        rw [ht, List.filter_append, List.filter_append]; simpa [hm, hm2] using o3
    · rw [decide_eq_false hm] at e3
      simp [g555_0, hM, g17, g8, hn, ij, ld, e3, st]
      refine hJ _ hn ⟨by simp, v5, by simp [g8], ?_, hk, hln⟩
      rw [ht, List.filter_append, List.filter_append]; simpa [hm] using ho
  · rw [List.take_of_length_le (by omega)] at ho
    simp [g555_0, hM, g17, g8, hn]
    exact hR _ _ ⟨ho.sl, k12.trans hk, by omega⟩

end GL

namespace GL
open Go

end GL

namespace GL
open Go

/-! deeds -/
structure Dd where
  key : Int
  wr : Bool
instance : Flat Dd := ⟨2, fun d => [vi d.key, .bool d.wr], fun _ => rfl, fun _ => rfl, by decide⟩
abbrev dv (d : Dd) : V := .agg [vi d.key, .bool d.wr]
theorem Sl.loadD {h : Heap} {v : V} {xs : List Dd} (hs : Sl h v xs) (i : Nat) (hi : i < xs.length) : rdH h (bOf v) (oOf v + i * 2) 2 = some [vi xs[i].key, .bool xs[i].wr] := hs.load i hi
def zD : Dd := ⟨0, false⟩
end GL

namespace GL
open Go

end GL

namespace GL
open Go

/-! a log that was heard: the places, the deeds, and what each place heard, in order -/
structure Hd where
  no : Int
  deeds : List Dd
  rows : List (List Int)
instance hdData : Data Hd where
  sz := 3
  pos := by decide
  rep := fun h c cs F => ∃ x y F1 F2, cs = [vi c.no, x, y] ∧ F = F1 ++ F2 ∧ SdF h x c.deeds F1 ∧ SdF h y c.rows F2
  len := by rintro h a cs F ⟨x, y, F1, F2, rfl, _⟩; rfl
  ok := by rintro h a cs F ⟨x, y, F1, F2, rfl, _, h1, h2⟩; simp [allCell, h1.cell, h2.cell, cell_int]
  keeps := by
    rintro h h' a cs F ⟨x, y, F1, F2, rfl, rfl, h1, h2⟩ hk
    exact ⟨x, y, F1, F2, rfl, rfl, h1.keeps (hk.mono fun b hb => List.mem_append_left _ hb), h2.keeps (hk.mono fun b hb => List.mem_append_right _ hb)⟩
  lt := by
    rintro h a cs F b ⟨x, y, F1, F2, rfl, rfl, h1, h2⟩ hb
    rcases List.mem_append.1 hb with hb | hb
    · exact h1.lt hb
    · exact h2.lt hb
def HdV (h : Heap) (v : V) (c : Hd) (F : List Nat) : Prop := ∃ x y F1 F2, v = .agg [vi c.no, x, y] ∧ F = F1 ++ F2 ∧ SdF h x c.deeds F1 ∧ SdF h y c.rows F2
section
variable {h h' : Heap} {v w : V} {c : Hd} {F G : List Nat}
theorem HdV.keeps (hc : HdV h v c F) (hk : KeepsP (fun b => b ∈ F) h h') : HdV h' v c F := by
  obtain ⟨x, y, F1, F2, rfl, rfl, h1, h2⟩ := hc
  exact ⟨x, y, F1, F2, rfl, rfl, h1.keeps (hk.mono fun b hb => List.mem_append_left _ hb), h2.keeps (hk.mono fun b hb => List.mem_append_right _ hb)⟩
theorem HdV.keep (hc : HdV h v c F) (hk : Keeps h h') : HdV h' v c F := hc.keeps (hk.p _)
theorem HdV.lt (hc : HdV h v c F) {b : Nat} (hb : b ∈ F) : b < h.length := by
  obtain ⟨x, y, F1, F2, rfl, rfl, h1, h2⟩ := hc
  rcases List.mem_append.1 hb with hb | hb
  · obtain ⟨_, h3, _⟩ := h1.lt hb; exact get_lt h3
  · obtain ⟨_, h3, _⟩ := h2.lt hb; exact get_lt h3
end

/-! deeds in a list -/
theorem indexD_eq {h : Heap} {v : V} {xs : List Dd} (hs : Sl h v xs) (f : Nat) (capt : List V) (q : Dd → Bool) (hf : ∀ d h, call p f (dv d :: capt) h = some (.bool (q d), h)) : ∃ k : Int, call p 569 [v, .fn f capt] h = some (vi k, h) ∧ (0 ≤ k ↔ ∃ x ∈ xs, q x = true) := by
  have : ∃ r h', call p 569 [v, .fn f capt] h = some (r, h') ∧ ∃ k : Int, r = vi k ∧ h' = h ∧ (0 ≤ k ↔ ∃ x ∈ xs, q x = true) := by
    refine go (fn := g569) rfl rfl fun R hR => ?_
    simp [g569, hs.len]
    refine Wc_upM (M := [4, 5, 8, 9, 10, 11, 12, 13, 14, 15, 16, 17, 18]) rfl xs.length (fun i s => s.σ 8 = .v (vi i) ∧ s.h = h ∧ ∀ x ∈ xs.take i, q x = false) 0 (by simp) fun i s ⟨g8, gh, hall⟩ hM J hJ => ?_
    by_cases hn : i < xs.length
    · have e1 := hf xs[i] h
      cases he : q xs[i] with
      | true =>
        rw [he] at e1
        simp [g569_0, hM, g8, gh, hn, hs.idx, hs.loadD, e1]
        exact hR _ _ ⟨i, rfl, rfl, by simp; exact ⟨xs[i], by simp, he⟩⟩
      | false =>
        rw [he] at e1
        simp [g569_0, hM, g8, gh, hn, hs.idx, hs.loadD, e1, hs.step hn]
        exact hJ _ hn ⟨by simp, rfl, (all_take_succ hn).2 ⟨hall, he⟩⟩
    · rw [List.take_of_length_le (by omega)] at hall
      simp [g569_0, hM, g8, gh, hn]
      exact hR _ _ ⟨-1, rfl, rfl, by simpa using hall⟩
  obtain ⟨_, _, e, k, rfl, rfl, hk⟩ := this
  exact ⟨k, e, hk⟩
theorem containsD_eq {h : Heap} {v : V} {xs : List Dd} (hs : Sl h v xs) (f : Nat) (capt : List V) (q : Dd → Bool) (hf : ∀ d h, call p f (dv d :: capt) h = some (.bool (q d), h)) : call p 530 [v, .fn f capt] h = some (.bool (xs.any q), h) := by
  obtain ⟨k, e, hk⟩ := indexD_eq hs f capt q hf
  refine go_eq (fn := g530) rfl rfl fun R hR => ?_
  have : decide (0 ≤ k) = xs.any q := by
    rw [Bool.eq_iff_iff]; simp [hk]
  simp [g530, e, this]
  exact hR
def okD (d : Dd) : Bool := decide (0 ≤ d.key ∧ d.key ≤ 9)
theorem isDeed_eq (d : Dd) (h : Heap) : call p 538 [dv d] h = some (.bool (okD d), h) := by
  refine go_eq (fn := g538) rfl rfl fun R hR => ?_
  simp [g538, fillL, upd, -Bool.decide_and]; exact hR
theorem l13Deed_eq (d : Dd) (h : Heap) : call p 533 [dv d] h = some (.bool (okD d), h) := by
  refine go_eq (fn := g533) rfl rfl fun R hR => ?_
  simp [g533, fillL, upd, -Bool.decide_and]; exact hR
theorem notDeed_eq (d : Dd) (h : Heap) : call p 531 [dv d] h = some (.bool !okD d, h) := by
  refine go_eq (fn := g531) rfl rfl fun R hR => ?_
  simp [g531, fillL, upd, isDeed_eq]; exact hR
/-- two deeds of one key, of which one writes -/
def clD (d e : Dd) : Bool := decide (d.key = e.key) && (d.wr || e.wr)
theorem clashing_eq (d e : Dd) (h : Heap) : call p 535 [dv d, dv e] h = some (.bool (clD d e), h) := by
  refine go_eq (fn := g535) rfl rfl fun R hR => ?_
  by_cases hk : d.key = e.key <;> cases hw : d.wr <;> simp [g535, fillL, upd, hk] <;> simpa [clD, hk, hw] using hR
theorem l13Clash_eq (d e : Dd) (h : Heap) : call p 537 [dv d, dv e] h = some (.bool (clD d e), h) := by
  refine go_eq (fn := g537) rfl rfl fun R hR => ?_
  by_cases hk : d.key = e.key <;> cases hw : d.wr <;> simp [g537, fillL, upd, hk] <;> simpa [clD, hk, hw] using hR

def rowB (n : Nat) (r : List Int) : Bool := decide (r.length = n) && onceB n r
def goodH (c : Hd) : Bool := manyB c.no && decide (c.deeds.length ≤ 8) && decide ((c.rows.length : Int) = c.no) && c.deeds.all okD && c.rows.all (rowB c.deeds.length)
theorem row2_ok {h : Heap} {b : Nat} {n : Nat} (hb : h[b]? = some ⟨.own, [vi n]⟩) (hn : n ≤ 8) {v : V} {xs : List Int} (hs : Sl h v xs) :
    ∃ h', call p 532 [v, .ptr b 0] h = some (.bool !rowB n xs, h') ∧ Keeps h h' ∧ h.length ≤ h'.length := by
  have r1 : rdH h b 0 1 = some [vi n] := by rw [rdH_at hb (by simp)]; rfl
  obtain ⟨x, h', e, hx, hk, hl⟩ : ∃ r h', call p 532 [v, .ptr b 0] h = some (r, h') ∧ r = .bool (!rowB n xs) ∧ Keeps h h' ∧ h.length ≤ h'.length := by
    refine go (fn := g532) rfl rfl fun R hR => ?_
    by_cases hl : xs.length = n
    · obtain ⟨_, h1, e1, rfl, k1, l1⟩ := areOnce_ok hs (by omega) (n : Int) (by omega)
      have hl2 : (xs.length : Int) = n := by omega
      simp [g532, hs.len, r1, e1, hl]
      exact hR _ _ ⟨by simp [rowB, hl], k1, l1⟩
    · have hl2 : ¬ (xs.length : Int) = n := by omega
      simp [g532, hs.len, r1, hl, hl2]
      exact hR _ _ ⟨by simp [rowB, hl], Keeps.refl _, Nat.le_refl _⟩
  exact ⟨h', by rw [e, hx], hk, hl⟩
theorem GoodHeard_ok {h : Heap} {v : V} {c : Hd} {F : List Nat} (hc : HdV h v c F) : ∃ r h', call p 464 [v] h = some (r, h') ∧ r = .bool (goodH c) ∧ Keeps h h' ∧ h.length ≤ h'.length := by
  obtain ⟨x, y, F1, F2, rfl, rfl, hx, hy⟩ := hc
  refine go (fn := g464) rfl rfl fun R hR => ?_
  have k0 : Keeps h (h ++ [⟨.own, [vi c.deeds.length]⟩]) := Keeps.append _ _
  have hb0 : (h ++ [⟨.own, [vi c.deeds.length]⟩])[h.length]? = some ⟨.own, [vi c.deeds.length]⟩ := get_last _ _
  have r0 : rdH (h ++ [⟨.own, [vi c.deeds.length]⟩]) h.length 0 1 = some [vi c.deeds.length] := by rw [rdH_at hb0 (by simp)]; rfl
  have w0 : wrH (h ++ [⟨.own, [vi 0]⟩]) h.length 0 [vi c.deeds.length] = some (h ++ [⟨.own, [vi c.deeds.length]⟩]) := wrH_last rfl
  have e1 := isMany_eq c.no (h ++ [⟨.own, [vi c.deeds.length]⟩])
  have e2 := containsD_eq (hx.keep k0).sl 531 [] (fun d => !okD d) notDeed_eq
  have ea : (c.deeds.any fun d => !okD d) = !(c.deeds.all okD) := by rw [List.not_all_eq_any_not]
  rw [ea] at e2
  have fin : goodH c = false → R (.bool false) (h ++ [⟨.own, [vi c.deeds.length]⟩]) := fun hg => hR _ _ ⟨by rw [hg], k0, by simp⟩
  cases hm : manyB c.no with
  | false =>
    rw [hm] at e1
    simp [g464, fillL, upd, hx.cells, hx.cell, hy.cells, hy.cell, hx.len, w0, e1]
    exact fin (by simp [goodH, hm])
  | true =>
    rw [hm] at e1
    by_cases h8 : c.deeds.length ≤ 8
    · have h8' : (c.deeds.length : Int) ≤ 8 := by omega
      by_cases hr : (c.rows.length : Int) = c.no
      · cases hd : c.deeds.all okD with
        | false =>
          rw [hd] at e2
          simp [g464, fillL, upd, hx.cells, hx.cell, hy.cells, hy.cell, hx.len, hy.len, w0, e1, r0, h8', hr, e2]
          exact fin (by simp [goodH, hd])
        | true =>
          rw [hd] at e2
          obtain ⟨_, h3, e3, rfl, k3, l3⟩ := containsLg_ok (hy.keep k0) (f := 532) (capt := [.ptr h.length 0]) (q := fun r => !rowB c.deeds.length r) fun h' hk z zs G _ hz => row2_ok (hk _ _ hb0 (by simp)) h8 hz.sl
          have eb : (c.rows.any fun r => !rowB c.deeds.length r) = !(c.rows.all (rowB c.deeds.length)) := by rw [List.not_all_eq_any_not]
          rw [eb] at e3
          have hg : goodH c = c.rows.all (rowB c.deeds.length) := by simp [goodH, hm, h8, hr, hd]
          rw [← hg] at e3
          generalize goodH c = gg at *
          simp [g464, fillL, upd, hx.cells, hx.cell, hy.cells, hy.cell, hx.len, hy.len, w0, e1, r0, h8', hr, e2, e3]
          exact hR _ _ ⟨rfl, k0.trans k3, by simp at l3; omega⟩
      · simp [g464, fillL, upd, hx.cells, hx.cell, hy.cells, hy.cell, hx.len, hy.len, w0, e1, r0, h8', hr]
        exact fin (by simp [goodH, hr])
    · have h8' : ¬ (c.deeds.length : Int) ≤ 8 := by omega
      simp [g464, fillL, upd, hx.cells, hx.cell, hy.cells, hy.cell, hx.len, hy.len, w0, e1, r0, h8']
      exact fin (by simp [goodH, h8])

theorem sub_len : ∀ {l m : List Int}, l.Nodup → (∀ x ∈ l, x ∈ m) → l.length ≤ m.length
  | [], m, _, _ => by simp
  | a :: l, m, hn, hs => by
    have h1 := List.nodup_cons.1 hn
    have ham := hs a (by simp)
    have := sub_len (l := l) (m := m.erase a) h1.2 fun x hx => (List.mem_erase_of_ne (fun e => h1.1 (by rw [← e]; exact hx))).2 (hs x (by simp [hx]))
    rw [List.length_erase_of_mem ham] at this
    have : 0 < m.length := List.length_pos_of_mem ham
    simp; omega
theorem twice : ∀ {r : List Int}, ¬ r.Nodup → ∃ a b x, r = a ++ x :: b ∧ x ∈ b
  | [], hd => absurd List.nodup_nil hd
  | y :: r, hd => by
    by_cases hy : y ∈ r
    · exact ⟨[], r, y, rfl, hy⟩
    · obtain ⟨a, b, x, e, hx⟩ := twice (r := r) fun h => hd (List.nodup_cons.2 ⟨hy, h⟩)
      exact ⟨y :: a, b, x, by rw [e]; rfl, hx⟩
theorem onceB_iff {n : Nat} {r : List Int} (hl : r.length = n) : onceB n r = decide ((∀ x ∈ r, 0 ≤ x ∧ x ≤ (n : Int) - 1) ∧ ∀ j : Nat, j < n → (j : Int) ∈ r) := by
  unfold onceB
  congr 1
  refine propext ⟨fun ⟨h1, h2⟩ => ⟨h1, fun j hj => ?_⟩, fun ⟨h1, h2⟩ => ⟨h1, ?_⟩⟩
  · refine Decidable.byContradiction fun hm => ?_
    have := nodup_len (n := n) (xs := (j : Int) :: r) (List.nodup_cons.2 ⟨hm, h2⟩) fun x hx => by
      rcases List.mem_cons.1 hx with rfl | hx
      · omega
      · have := h1 x hx; omega
    simp at this; omega
  · refine Decidable.byContradiction fun hd => ?_
    -- one of them stands twice: without it the rest still holds all
    have := twice hd
    obtain ⟨a, b, x, rfl, hx⟩ := this
    have hnd : ((List.range n).map fun (i : Nat) => (i : Int)).Nodup := (range_rising n).imp fun h => by omega
    have := sub_len hnd (m := a ++ b) fun y hy => by
      obtain ⟨j, hj, rfl⟩ := List.mem_map.1 hy
      have := h2 j (List.mem_range.1 hj)
      rcases List.mem_append.1 this with h | h
      · exact List.mem_append_left _ h
      · rcases List.mem_cons.1 h with e | h
        · rw [e]; exact List.mem_append_right _ hx
        · exact List.mem_append_right _ h
    simp at this hl; omega
end GL

namespace GL
open Go

theorem GoodHeardS_eq {h : Heap} {v : V} {c : Hd} {F : List Nat} (hc : HdV h v c F) : call p 465 [v] h = some (.bool (goodH c), h) := by
  obtain ⟨x, y, F1, F2, rfl, rfl, hx, hy⟩ := hc
  refine go_eq (fn := g465) rfl rfl fun R hR => ?_
  have bad : goodH c = false → R (.bool false) h := fun e => by rw [← e]; exact hR
  have hxs := hx.sl
  have w1 : IntKind.i64.wrap ((c.deeds.length : Int) - 1) = (c.deeds.length : Int) - 1 := by have := hx.bd; rw [IntWalk.i64_in] <;> omega
  have e1 := l11Places_eq c.no h
  cases hm : manyB c.no with
  | false =>
    rw [hm] at e1
    simp [g465, fillL, upd, hx.cells, hx.cell, hy.cells, hy.cell, hx.len, hy.len, e1]
    exact bad (by simp [goodH, hm])
  | true =>
    rw [hm] at e1
    by_cases h8 : c.deeds.length ≤ 8
    · have h8' : ¬ (8 : Int) < c.deeds.length := by omega
      by_cases hr : (c.rows.length : Int) = c.no
      · simp [g465, fillL, upd, hx.cells, hx.cell, hy.cells, hy.cell, hx.len, hy.len, e1, h8', hr]
        refine Wc_upM (M := [2, 5, 31, 32, 33, 34, 35, 36, 37, 38]) rfl c.deeds.length (fun i s => s.σ 31 = .v (vi i) ∧ s.h = h ∧ s.L 1 = (1, [vi c.no, x, y]) ∧ ∀ d ∈ c.deeds.take i, okD d = true) 0 (by simp [upd]) fun i s ⟨g31, gh, gL, hall⟩ hM J hJ => ?_
        by_cases hn : i < c.deeds.length
        · have ix := hxs.idx 2 .i64 i hn
          have ld := hxs.loadD i hn
          have e2 := l13Deed_eq c.deeds[i] h
          cases ho : okD c.deeds[i] with
          | false =>
            rw [ho] at e2
            simp [g465_0, hM, g31, gh, hn, ix, ld, upd, e2]
            have : (c.deeds.all okD) = false := List.all_eq_false.2 ⟨_, List.getElem_mem hn, by simp [ho]⟩
            exact bad (by simp [goodH, this])
          | true =>
            rw [ho] at e2
            simp [g465_0, hM, g31, gh, hn, ix, ld, upd, e2, hx.step hn]
            exact hJ _ hn ⟨by simp, rfl, by simp [upd, gL], (all_take_succ hn).2 ⟨hall, ho⟩⟩
        · rw [List.take_of_length_le (by omega)] at hall
          have hd : c.deeds.all okD = true := List.all_eq_true.2 hall
          simp [g465_0, hM, g31, gh, gL, hn, hy.len, upd]
          have hM1 := hM
          refine Wc_upM (M := [2, 7, 8, 42, 43, 44, 45, 46, 47, 48, 49, 50, 51, 52, 53, 54, 55, 56, 57, 58, 59, 60, 61, 62, 63, 64, 65, 66]) rfl c.rows.length (fun i s => s.σ 42 = .v (vi i) ∧ s.h = h ∧ ∀ r ∈ c.rows.take i, rowB c.deeds.length r = true) 0 (by simp) fun i s ⟨g42, gh, hall⟩ hM J2 hJ2 => ?_
          by_cases hi : i < c.rows.length
          · obtain ⟨z, F3, ez, hz, _⟩ := hy.loadL i hi
            have iy := hy.idx 1 .i64 i hi
            simp only [Nat.mul_one] at iy
            have badr : rowB c.deeds.length c.rows[i] = false → R (.bool false) h := fun e => by
              have : (c.rows.all (rowB c.deeds.length)) = false := List.all_eq_false.2 ⟨_, List.getElem_mem hi, by simp [e]⟩
              exact bad (by simp [goodH, this])
            by_cases hl : c.rows[i].length = c.deeds.length
            · have hl2 : (c.rows[i].length : Int) = c.deeds.length := by omega
              have e3 := l1All_eq hz.sl 0 ((c.deeds.length : Int) - 1)
              have hob := onceB_iff hl
              cases hall2 : (c.rows[i].all fun n => decide (0 ≤ n ∧ n ≤ (c.deeds.length : Int) - 1)) with
              | false =>
                rw [hall2] at e3
                simp [g465_2, hM, hM1, g42, gh, hi, iy, ez, hz.len, hl2, w1, e3]
                refine badr ?_
                simp only [rowB, hob, Bool.and_eq_false_iff, decide_eq_false_iff_not]
                refine .inr fun h2 => ?_
                have : (c.rows[i].all fun n => decide (0 ≤ n ∧ n ≤ (c.deeds.length : Int) - 1)) = true := List.all_eq_true.2 fun n hn => decide_eq_true (h2.1 n hn)
                rw [this] at hall2; cases hall2
              | true =>
                rw [hall2] at e3
                simp [g465_2, hM, hM1, g42, gh, hi, iy, ez, hz.len, hl2, w1, e3]
                have hM2 := hM
                refine Wc_upM (M := [2, 8, 57, 58, 59, 60, 61, 62, 63, 64, 65]) rfl c.deeds.length (fun j s => s.σ 8 = .v (vi j) ∧ s.h = h ∧ ∀ k : Nat, k < j → (k : Int) ∈ c.rows[i]) 0 (by simp) fun j s ⟨g8, gh, hall⟩ hM J3 hJ3 => ?_
                by_cases hj : j < c.deeds.length
                · have e4 := l1Has_eq hz.sl (j : Int)
                  by_cases hm2 : (j : Int) ∈ c.rows[i]
                  · rw [decide_eq_true hm2] at e4
                    simp [g465_1, hM, hM2, hM1, g8, gh, hj, e4, hx.step hj]
                    refine hJ3 _ hj ⟨by simp, rfl, fun k hk => ?_⟩
                    by_cases hkj : k = j
                    · subst hkj; exact hm2
                    · exact hall k (by omega)
                  · rw [decide_eq_false hm2] at e4
                    simp [g465_1, hM, hM2, hM1, g8, gh, hj, e4]
                    refine badr ?_
                    simp only [rowB, hob, Bool.and_eq_false_iff, decide_eq_false_iff_not]
                    exact .inr fun h2 => hm2 (h2.2 j hj)
                · simp [g465_1, hM, hM2, hM1, g8, g42, gh, hj, hy.step hi]
                  refine hJ2 _ hi ⟨by simp, rfl, (all_take_succ hi).2 ⟨‹_›, ?_⟩⟩
                  simp only [rowB, hob, hl, decide_true, Bool.true_and, decide_eq_true_eq]
                  exact ⟨fun n hn => by simpa using List.all_eq_true.1 hall2 n hn, fun k hk => hall k (by omega)⟩
            · have hl2 : ¬ (c.rows[i].length : Int) = c.deeds.length := by omega
              simp [g465_2, hM, hM1, g42, gh, hi, iy, ez, hz.len, hl2]
              exact badr (by simp [rowB, hl])
          · rw [List.take_of_length_le (by omega)] at hall
            have hrr : c.rows.all (rowB c.deeds.length) = true := List.all_eq_true.2 hall
            have hg : goodH c = true := by simp [goodH, hm, h8, hr, hd, hrr]
            rw [hg] at hR
            simp [g465_2, hM, hM1, g42, gh, hi]
            exact hR
      · simp [g465, fillL, upd, hx.cells, hx.cell, hy.cells, hy.cell, hx.len, hy.len, e1, h8', hr]
        exact bad (by simp [goodH, hr])
    · have h8' : (8 : Int) < c.deeds.length := by omega
      simp [g465, fillL, upd, hx.cells, hx.cell, hy.cells, hy.cell, hx.len, hy.len, e1, h8']
      exact bad (by simp [goodH, h8])
end GL

namespace GL
open Go

def dAt (c : Hd) (x : Int) : Dd := c.deeds.getD x.toNat zD
def clH (c : Hd) (x a : Int) : Bool := clD (dAt c x) (dAt c a)
/-- those that were heard ahead of a, and clash with it -/
def depsPre (c : Hd) (row : List Int) (a : Int) : List Int := (row.takeWhile fun x => !decide (x = a)).filter fun x => clH c x a
def rowAt (c : Hd) (r : Int) : List Int := c.rows.getD r.toNat []
def depsL (c : Hd) (r a : Int) : List Int := srtI (depsPre c (rowAt c r) a)
theorem takeW {row : List Int} {a : Int} {i : Nat} (hall : ∀ x ∈ row.take i, x ≠ a) (h : row.length ≤ i ∨ ∃ hi : i < row.length, row[i] = a) : (row.takeWhile fun x => !decide (x = a)) = row.take i := by
  induction row generalizing i with
  | nil => simp
  | cons y row ih =>
    cases i with
    | zero =>
      rcases h with h | ⟨_, h⟩
      · simp at h
      · simp at h; simp [h]
    | succ i =>
      have hy : y ≠ a := hall y (by simp)
      simp only [List.takeWhile_cons, List.take_succ_cons, decide_eq_false hy, Bool.not_false, if_true]
      rw [ih (i := i) (fun x hx => hall x (by simp [hx]))]
      rcases h with h | ⟨h1, h2⟩
      · simp at h; exact .inl h
      · exact .inr ⟨by simpa using h1, by simpa using h2⟩
theorem goodH_facts {c : Hd} (h : goodH c = true) : (3 ≤ c.no ∧ c.no ≤ 9) ∧ c.deeds.length ≤ 8 ∧ (c.rows.length : Int) = c.no ∧ (∀ r ∈ c.rows, r.length = c.deeds.length ∧ (∀ x ∈ r, 0 ≤ x ∧ x < (c.deeds.length : Int)) ∧ r.Nodup ∧ ∀ j : Nat, j < c.deeds.length → (j : Int) ∈ r) := by
  simp only [goodH, Bool.and_eq_true, decide_eq_true_eq, manyB] at h
  obtain ⟨⟨⟨⟨hm, h8⟩, hr⟩, hd⟩, hrr⟩ := h
  refine ⟨hm.1, h8, hr, fun r hr => ?_⟩
  have h1 := List.all_eq_true.1 hrr r hr
  simp only [rowB, Bool.and_eq_true, decide_eq_true_eq] at h1
  have h2 := h1.2
  rw [onceB_iff h1.1, decide_eq_true_eq] at h2
  have h3 := h1.2
  simp only [onceB, decide_eq_true_eq] at h3
  exact ⟨h1.1, fun x hx => ⟨(h2.1 x hx).1, by have := (h2.1 x hx).2; omega⟩, h3.2, h2.2⟩
theorem srtI_ext {xs ys : List Int} (hn : xs.Nodup) (hy : ys.Pairwise (· < ·)) (hm : ∀ x, x ∈ ys ↔ x ∈ xs) : ys = srtI xs := by
  have hp := srtI_perm xs
  exact rising_ext hy (sorted_nodup (srtI_le xs) (hp.nodup_iff.2 hn)) fun x => by rw [hm, hp.mem_iff]
theorem takeWhile_nodup {xs : List Int} (h : xs.Nodup) (q : Int → Bool) : (xs.takeWhile q).Nodup := List.Sublist.nodup (List.takeWhile_sublist q) h
theorem depsPre_nodup {c : Hd} {row : List Int} (h : row.Nodup) (a : Int) : (depsPre c row a).Nodup := List.Sublist.nodup List.filter_sublist (takeWhile_nodup h _)
theorem depsPre_len (c : Hd) (row : List Int) (a : Int) : (depsPre c row a).length ≤ row.length := Nat.le_trans (List.length_filter_le ..) ((List.takeWhile_sublist _).length_le)

/-- one step of the reading: the deeds at x and at a -/
theorem readD {h : Heap} {x : V} {c : Hd} (hx : Sl h x c.deeds) {k : Int} (hk : 0 ≤ k ∧ k < c.deeds.length) : idxV 2 x (vi k) = some (.ptr (bOf x) (oOf x + k.toNat * 2)) ∧ rdH h (bOf x) (oOf x + k.toNat * 2) 2 = some [vi (dAt c k).key, .bool (dAt c k).wr] := by
  obtain ⟨i, rfl⟩ : ∃ i : Nat, k = i := ⟨k.toNat, by omega⟩
  have hi : i < c.deeds.length := by omega
  have e1 := hx.idx 2 .i64 i hi
  have e2 := hx.loadD i hi
  simp only [dAt, Int.toNat_natCast, List.getD_eq_getElem?_getD, List.getElem?_eq_getElem hi, Option.getD_some]
  exact ⟨e1, e2⟩
theorem readL {h : Heap} {y : V} {ls : List (List Int)} {F : List Nat} (hy : SdF h y ls F) {k : Int} (hk : 0 ≤ k ∧ k < ls.length) : ∃ z G, idxV 1 y (vi k) = some (.ptr (bOf y) (oOf y + k.toNat)) ∧ rdH h (bOf y) (oOf y + k.toNat) 1 = some [z] ∧ SdF h z (ls.getD k.toNat []) G ∧ ∀ b ∈ G, b ∈ F := by
  obtain ⟨i, rfl⟩ : ∃ i : Nat, k = i := ⟨k.toNat, by omega⟩
  have hi : i < ls.length := by omega
  have e1 := hy.idx 1 .i64 i hi
  obtain ⟨z, G, e2, hz, hG⟩ := hy.loadL i hi
  simp only [Nat.mul_one] at e1
  simp only [Int.toNat_natCast, List.getD_eq_getElem?_getD, List.getElem?_eq_getElem hi, Option.getD_some]
  exact ⟨z, G, e1, e2, hz, hG⟩
theorem rows_get {c : Hd} (hg : goodH c = true) {r : Int} (hr : 0 ≤ r ∧ r ≤ c.no - 1) : 0 ≤ r ∧ r < (c.rows.length : Int) ∧ c.rows.getD r.toNat [] ∈ c.rows := by
  obtain ⟨_, _, h3, _⟩ := goodH_facts hg
  have hi : r.toNat < c.rows.length := by omega
  refine ⟨hr.1, by omega, ?_⟩
  rw [List.getD_eq_getElem?_getD, List.getElem?_eq_getElem hi]
  exact List.getElem_mem hi
theorem depsH_ok {h : Heap} {v : V} {c : Hd} {F : List Nat} (hc : HdV h v c F) (hg : goodH c = true) {r a : Int} (hr : 0 ≤ r ∧ r ≤ c.no - 1) (ha : 0 ≤ a ∧ a ≤ (c.deeds.length : Int) - 1) :
    ∃ w h', call p 519 [v, vi r, vi a] h = some (w, h') ∧ ∃ G, SdF h' w (depsL c r a) G ∧ Fresh h.length h' G ∧ Keeps h h' ∧ h.length ≤ h'.length := by
  obtain ⟨x, y, F1, F2, rfl, rfl, hx, hy⟩ := hc
  obtain ⟨r0, r1, hmem⟩ := rows_get hg hr
  obtain ⟨_, h8, _, hrows⟩ := goodH_facts hg
  obtain ⟨hlen, hin, hnd, hcov⟩ := hrows _ hmem
  obtain ⟨z, G0, ez1, ez2, hz, _⟩ := readL hy ⟨r0, r1⟩
  unfold depsL
  change SdF h z (rowAt c r) G0 at hz
  change rowAt c r ∈ c.rows at hmem
  change (rowAt c r).length = _ at hlen
  change ∀ x ∈ rowAt c r, _ at hin
  change (rowAt c r).Nodup at hnd
  generalize rowAt c r = row at *
  have k0 : Keeps h (h ++ [⟨.own, []⟩]) := Keeps.append _ _
  obtain ⟨a1, a2⟩ := readD (hx.keep k0).sl (k := a) (by omega)
  have hz0 := rdH_keep k0 ez2
  refine go (fn := g519) rfl rfl fun R hR => ?_
  have fin : ∀ (i : Nat) (w : V) (h1 : Heap), Out h.length h1 w ((row.take i).filter fun x => clH c x a) → (row.takeWhile fun x => !decide (x = a)) = row.take i → Keeps h h1 → h.length ≤ h1.length →
      ∃ h2, call p 340 [w] h1 = some (.tup [], h2) ∧ ∃ G, SdF h2 w (srtI (depsPre c row a)) G ∧ Fresh h.length h2 G ∧ Keeps h h2 ∧ h.length ≤ h2.length := fun i w h1 ho ht hk hl => by
    have he : ((row.take i).filter fun x => clH c x a) = depsPre c row a := by rw [depsPre, ht]
    rw [he] at ho
    obtain ⟨G, sG, fG⟩ := ho.fr
    obtain ⟨_, h2, e2, ys, rfl, s2, p2, o2, k2, l2, ow2⟩ := sortI_ok sG fG.own (Nat.le_trans (depsPre_len c row a) (by omega))
    have hys : ys = srtI (depsPre c row a) := srtI_ext (depsPre_nodup hnd a) (sorted_nodup o2 (p2.nodup_iff.2 (depsPre_nodup hnd a))) fun x => p2.mem_iff
    rw [hys] at s2
    exact ⟨h2, e2, G, s2, ⟨fG.nodup, fG.ge, fun b hb => ow2 b (fG.own b hb)⟩, Keeps.far (n := h.length) hk k2 (Nat.le_refl _) fun i hi hm => by have := fG.ge i hm; omega, by omega⟩
  simp [g519, fillL, upd, hx.cells, hx.cell, hy.cells, hy.cell, ez1, hz0, hz.len]
  refine Wc_upM (M := [7, 9, 17, 18, 19, 20, 21, 22, 23, 24, 25, 26, 27, 28, 29, 30, 31, 32, 33, 34, 35, 36, 37, 38, 39]) rfl row.length (fun i s => s.σ 17 = .v (vi i) ∧ s.L 3 = (1, [vi c.no, x, y]) ∧ (∃ w, s.σ 7 = .v w ∧ Out h.length s.h w ((row.take i).filter fun x => clH c x a)) ∧ (∀ x ∈ row.take i, x ≠ a) ∧ Keeps h s.h ∧ h.length ≤ s.h.length) 0
    ⟨by simp, by simp [upd], ⟨_, by simp; rfl, by simpa using Out.empty (Nat.le_refl _) (by simp)⟩, by simp, k0, by simp⟩ fun i s ⟨g17, gL, ⟨w, g7, ho⟩, hall, hk, hl⟩ hM J hJ => ?_
  by_cases hn : i < row.length
  · have hz' := hz.keep hk
    have ix := hz'.idx 1 .i64 i hn
    have ld := hz'.sl.loadI i hn
    simp only [Nat.mul_one] at ix
    have ht := List.take_succ_eq_append_getElem hn
    by_cases he : row[i] = a
    · obtain ⟨h2, e2, G, q1, q2, q3, q4⟩ := fin i w s.h ho (takeW hall (.inr ⟨hn, he⟩)) hk hl
      have ld2 : rdH s.h (bOf z) (oOf z + i) 1 = some [vi a] := by rw [ld, he]
      simp [g519_0, hM, g17, g7, hn, ix, ld2, upd, e2]
      exact hR _ _ ⟨G, q1, q2, q3, q4⟩
    · have hxi := hin _ (List.getElem_mem hn)
      obtain ⟨b1, b2⟩ := readD (hx.keep hk).sl hxi
      have a2' := rdH_keep hk (readD hx.sl (k := a) (by omega)).2
      have ec := clashing_eq (dAt c row[i]) (dAt c a) s.h
      have ht2 : (row.take (i + 1)).filter (fun x => clH c x a) = (row.take i).filter (fun x => clH c x a) ++ (if clH c row[i] a = true then [row[i]] else []) := by
        rw [ht, List.filter_append, List.filter_cons, List.filter_nil]
      have hall2 : ∀ x ∈ row.take (i + 1), x ≠ a := (all_take_succ hn).2 ⟨hall, he⟩
      have st := hz.step hn
      cases hcl : clH c row[i] a with
      | false =>
        have hcl' : clD (dAt c row[i]) (dAt c a) = false := hcl
        rw [hcl'] at ec
        rw [hcl] at ht2
        generalize row[i] = xi at *
        simp [g519_0, hM, g17, g7, gL, hn, ix, ld, upd, he, b1, b2, a1, a2', ec, st]
        refine hJ _ hn ⟨by simp, by simp [upd, gL], ⟨w, by simp [g7], by rw [ht2]; simpa using ho⟩, hall2, hk, hl⟩
      | true =>
        have hcl' : clD (dAt c row[i]) (dAt c a) = true := hcl
        rw [hcl'] at ec
        rw [hcl] at ht2
        have hle : ((row.take i).filter fun x => clH c x a).length ≤ 2 ^ 20 := Nat.le_trans (List.length_filter_le ..) (by simp; omega)
        obtain ⟨w6, h3, e5, o3, k3, l3⟩ := ho.one row[i] hle
        generalize row[i] = xi at *
        simp [g519_0, hM, g17, g7, gL, hn, ix, ld, upd, he, b1, b2, a1, a2', ec, rdS_last, e5, st]
        refine hJ _ hn ⟨by simp, by simp [upd, gL], ⟨w6, by simp, by rw [ht2]; simpa using o3⟩, hall2, ho.far hk k3 (Nat.le_refl _), by show h.length ≤ h3.length; omega⟩
  · obtain ⟨h2, e2, G, q1, q2, q3, q4⟩ := fin i w s.h ho (takeW hall (.inl (by omega))) hk hl
    simp [g519_0, hM, g17, g7, hn, e2]
    exact hR _ _ ⟨G, q1, q2, q3, q4⟩
end GL

namespace GL
open Go

theorem l13At_ok {h : Heap} {v : V} {c : Hd} {F : List Nat} (hc : HdV h v c F) (hg : goodH c = true) {r a : Int} (hr : 0 ≤ r ∧ r ≤ c.no - 1) (ha : 0 ≤ a ∧ a ≤ (c.deeds.length : Int) - 1) :
    ∃ w h', call p 516 [v, vi r, vi a] h = some (w, h') ∧ ∃ G, SdF h' w (depsL c r a) G ∧ (∀ b ∈ G, h.length ≤ b) ∧ Keeps h h' ∧ h.length ≤ h'.length := by
  obtain ⟨x, y, F1, F2, rfl, rfl, hx, hy⟩ := hc
  obtain ⟨r0, r1, hmem⟩ := rows_get hg hr
  obtain ⟨_, h8, _, hrows⟩ := goodH_facts hg
  obtain ⟨hlen, hin, hnd, hcov⟩ := hrows _ hmem
  obtain ⟨z, G0, ez1, ez2, hz, _⟩ := readL hy ⟨r0, r1⟩
  unfold depsL
  change SdF h z (rowAt c r) G0 at hz
  change rowAt c r ∈ c.rows at hmem
  change (rowAt c r).length = _ at hlen
  change ∀ x ∈ rowAt c r, _ at hin
  change (rowAt c r).Nodup at hnd
  generalize rowAt c r = row at *
  obtain ⟨a1, a2⟩ := readD hx.sl (k := a) (by omega)
  refine go (fn := g516) rfl rfl fun R hR => ?_
  have fin : ∀ (i : Nat) (w : V) (h1 : Heap) (ys : List Int) (G : List Nat), SdF h1 w ys G → ys.Pairwise (· < ·) → (∀ b ∈ G, h.length ≤ b) → (∀ x, x ∈ ys ↔ x ∈ (row.take i).filter fun x => clH c x a) → (row.takeWhile fun x => !decide (x = a)) = row.take i → Keeps h h1 → h.length ≤ h1.length → R w h1 := fun i w h1 ys G hs hp hG hm ht hk hl => by
    have he : ((row.take i).filter fun x => clH c x a) = depsPre c row a := by rw [depsPre, ht]
    rw [he] at hm
    rw [srtI_ext (depsPre_nodup hnd a) hp hm] at hs
    exact hR _ _ ⟨G, hs, hG, hk, hl⟩
  simp [g516, fillL, upd, hx.cells, hx.cell, hy.cells, hy.cell, ez1, ez2, hz.len]
  refine Wc_upM (M := [7, 9, 16, 17, 18, 19, 20, 21, 22, 23, 24, 25, 26, 27, 28, 29, 30, 31, 32, 33, 34, 35, 36, 37]) rfl row.length (fun i s => s.σ 16 = .v (vi i) ∧ s.L 3 = (1, [vi c.no, x, y]) ∧ (∃ w ys G, s.σ 7 = .v w ∧ SdF s.h w ys G ∧ ys.Pairwise (· < ·) ∧ (∀ b ∈ G, h.length ≤ b) ∧ ys.length ≤ i ∧ ∀ x, x ∈ ys ↔ x ∈ (row.take i).filter fun x => clH c x a) ∧ (∀ x ∈ row.take i, x ≠ a) ∧ Keeps h s.h ∧ h.length ≤ s.h.length) 0
    ⟨by simp, by simp [upd], ⟨.nils, [], [], by simp, .nil, by simp, by simp, by simp, by simp⟩, by simp, Keeps.refl _, by simp⟩ fun i s ⟨g16, gL, ⟨w, ys, G, g7, hs, hp, hG, hyl, hm⟩, hall, hk, hl⟩ hM J hJ => ?_
  by_cases hn : i < row.length
  · have hz' := hz.keep hk
    have ix := hz'.idx 1 .i64 i hn
    have ld := hz'.sl.loadI i hn
    simp only [Nat.mul_one] at ix
    have ht := List.take_succ_eq_append_getElem hn
    by_cases he : row[i] = a
    · have f := fin i w s.h ys G hs hp hG hm (takeW hall (.inr ⟨hn, he⟩)) hk hl
      have ld2 : rdH s.h (bOf z) (oOf z + i) 1 = some [vi a] := by rw [ld, he]
      simp [g516_0, hM, g16, g7, hn, ix, ld2, upd]
      exact f
    · have hxi := hin _ (List.getElem_mem hn)
      obtain ⟨b1, b2⟩ := readD (hx.keep hk).sl hxi
      have a2' := rdH_keep hk a2
      have ec := l13Clash_eq (dAt c row[i]) (dAt c a) s.h
      have ht2 : (row.take (i + 1)).filter (fun x => clH c x a) = (row.take i).filter (fun x => clH c x a) ++ (if clH c row[i] a = true then [row[i]] else []) := by
        rw [ht, List.filter_append, List.filter_cons, List.filter_nil]
      have hall2 : ∀ x ∈ row.take (i + 1), x ≠ a := (all_take_succ hn).2 ⟨hall, he⟩
      have st := hz.step hn
      cases hcl : clH c row[i] a with
      | false =>
        have hcl' : clD (dAt c row[i]) (dAt c a) = false := hcl
        rw [hcl'] at ec
        rw [hcl] at ht2
        generalize row[i] = xi at *
        simp [g516_0, hM, g16, g7, gL, hn, ix, ld, upd, he, b1, b2, a1, a2', ec, st]
        refine hJ _ hn ⟨by simp, by simp [upd, gL], ⟨w, ys, G, by simp [g7], hs, hp, hG, by omega, fun x => by rw [ht2, hm]; simp⟩, hall2, hk, hl⟩
      | true =>
        have hcl' : clD (dAt c row[i]) (dAt c a) = true := hcl
        rw [hcl'] at ec
        rw [hcl] at ht2
        obtain ⟨w6, h3, e5, zs, G6, s6, r6, m6, zl, hG6, k3, l3⟩ := l1Put_ok hs hp (by omega) row[i]
        generalize row[i] = xi at *
        simp [g516_0, hM, g16, g7, gL, hn, ix, ld, upd, he, b1, b2, a1, a2', ec, e5, st]
        refine hJ _ hn ⟨by simp, by simp [upd, gL], ⟨w6, zs, G6, by simp, s6, r6, fun b hb => ?_, by omega, fun x => by rw [ht2, m6, hm]; simp⟩, hall2, hk.trans k3, by show h.length ≤ h3.length; omega⟩
        rcases hG6 b hb with h | h
        · exact hG b h
        · omega
  · have f := fin i w s.h ys G hs hp hG hm (takeW hall (.inl (by omega))) hk hl
    simp [g516_0, hM, g16, g7, hn]
    exact f
end GL

namespace GL
open Go

def Dd.of (p : Int × Bool) : Dd := ⟨p.1, p.2⟩
def Hd.of (p : Int × List Dd × List (List Int)) : Hd := ⟨p.1, p.2.1, p.2.2⟩
end GL

namespace GL
open Go

theorem Equal_eq {h : Heap} {v w : V} {xs ys : List Int} (hs : Sl h v xs) (ht : Sl h w ys) : call p 386 [v, w] h = some (.bool (decide (xs = ys)), h) := by
  refine go_eq (fn := g386) rfl rfl fun R hR => ?_
  by_cases hl : xs.length = ys.length
  · have hl2 : (xs.length : Int) = ys.length := by omega
    simp [g386, hs.len, ht.len, hl2]
    rw [← hl]
    refine Wc_upM (M := [4, 5, 13, 14, 15, 16, 17, 18, 19, 20, 21, 22, 23, 24, 25]) rfl xs.length (fun i s => s.σ 13 = .v (vi i) ∧ s.h = h ∧ xs.take i = ys.take i) 0 (by simp) fun i s ⟨g13, gh, hall⟩ hM J hJ => ?_
    by_cases hn : i < xs.length
    · have hn2 : i < ys.length := by omega
      have ix := hs.idx 1 .i64 i hn
      have iy := ht.idx 1 .i64 i hn2
      simp only [Nat.mul_one] at ix iy
      by_cases he : xs[i] = ys[i]
      · have lx := hs.loadI i hn
        rw [he] at lx
        simp [g386_0, hM, g13, gh, hn, ix, iy, lx, ht.loadI i hn2, hs.step hn]
        exact hJ _ hn ⟨by simp, rfl, by rw [List.take_succ_eq_append_getElem hn, List.take_succ_eq_append_getElem hn2, hall, he]⟩
      · simp [g386_0, hM, g13, gh, hn, ix, iy, hs.loadI i hn, ht.loadI i hn2, he]
        have : decide (xs = ys) = false := decide_eq_false fun e => by subst e; exact he rfl
        rw [this] at hR; exact hR
    · rw [List.take_of_length_le (by omega), List.take_of_length_le (by omega)] at hall
      rw [decide_eq_true hall] at hR
      simp [g386_0, hM, g13, gh, hn]; exact hR
  · have hl2 : ¬ (xs.length : Int) = ys.length := by omega
    have : decide (xs = ys) = false := decide_eq_false fun e => hl (by rw [e])
    rw [this] at hR
    simp [g386, hs.len, ht.len, hl2]; exact hR
theorem l1Same_eq {h : Heap} {v w : V} {xs ys : List Int} (hs : Sl h v xs) (ht : Sl h w ys) : call p 356 [v, w] h = some (.bool (decide (xs = ys)), h) := by
  refine go_eq (fn := g356) rfl rfl fun R hR => ?_
  by_cases hl : xs.length = ys.length
  · have hl2 : (xs.length : Int) = ys.length := by omega
    simp [g356, hs.len, ht.len, hl2]
    rw [← hl]
    refine Wc_upM (M := [4, 5, 13, 14, 15, 16, 17, 18, 19, 20, 21, 22, 23, 24, 25]) rfl xs.length (fun i s => s.σ 13 = .v (vi i) ∧ s.h = h ∧ xs.take i = ys.take i) 0 (by simp) fun i s ⟨g13, gh, hall⟩ hM J hJ => ?_
    by_cases hn : i < xs.length
    · have hn2 : i < ys.length := by omega
      have ix := hs.idx 1 .i64 i hn
      have iy := ht.idx 1 .i64 i hn2
      simp only [Nat.mul_one] at ix iy
      by_cases he : xs[i] = ys[i]
      · have lx := hs.loadI i hn
        rw [he] at lx
        simp [g356_0, hM, g13, gh, hn, ix, iy, lx, ht.loadI i hn2, hs.step hn]
        exact hJ _ hn ⟨by simp, rfl, by rw [List.take_succ_eq_append_getElem hn, List.take_succ_eq_append_getElem hn2, hall, he]⟩
      · simp [g356_0, hM, g13, gh, hn, ix, iy, hs.loadI i hn, ht.loadI i hn2, he]
        have : decide (xs = ys) = false := decide_eq_false fun e => by subst e; exact he rfl
        rw [this] at hR; exact hR
    · rw [List.take_of_length_le (by omega), List.take_of_length_le (by omega)] at hall
      rw [decide_eq_true hall] at hR
      simp [g356_0, hM, g13, gh, hn]; exact hR
  · have hl2 : ¬ (xs.length : Int) = ys.length := by omega
    have : decide (xs = ys) = false := decide_eq_false fun e => hl (by rw [e])
    rw [this] at hR
    simp [g356, hs.len, ht.len, hl2]; exact hR

theorem l13Group_eq {h : Heap} {v w : V} {c : Hd} {F : List Nat} (hc : HdV h v c F) (hg : goodH c = true) {ps : List Int} (hp : Sl h w ps) : call GL.p 522 [v, w] h = some (.bool (risB 0 (c.no - 1) ps && decide (c.no.toNat / 2 + 1 ≤ ps.length)), h) := by
  obtain ⟨x, y, F1, F2, rfl, rfl, hx, hy⟩ := hc
  obtain ⟨hno, h8, _, _⟩ := goodH_facts hg
  have w1 : IntKind.i64.wrap (c.no - 1) = c.no - 1 := by rw [IntWalk.i64_in] <;> omega
  obtain ⟨n, hn⟩ : ∃ n : Nat, c.no = n := ⟨c.no.toNat, by omega⟩
  have e1 := l1Rising_eq hp 0 (c.no - 1)
  have e2 := l11Slow_eq n (by omega) h
  rw [← hn] at e2
  have hnn : c.no.toNat = n := by omega
  rw [hnn]
  refine go_eq (fn := g522) rfl rfl fun R hR => ?_
  cases hr : risB 0 (c.no - 1) ps with
  | false => rw [hr] at e1 hR; simp [g522, fillL, upd, hx.cells, hx.cell, hy.cells, hy.cell, w1, e1]; simpa using hR
  | true =>
    rw [hr] at e1 hR
    have : decide (((n / 2 + 1 : Nat) : Int) ≤ ps.length) = decide (n / 2 + 1 ≤ ps.length) := by congr 1; refine propext ⟨fun h => by omega, fun h => by omega⟩
    simp [g522, fillL, upd, hx.cells, hx.cell, hy.cells, hy.cell, w1, e1, e2, hp.len, this, -Int.natCast_add, -Int.natCast_ediv]; simpa using hR
end GL

namespace GL
open Go

end GL

namespace GL
open Go

noncomputable def ofL (c : Hd) (a : Int) (ps : List Int) : List Int := ((List.range c.deeds.length).map fun (i : Nat) => (i : Int)).filter fun x => ps.any fun p => decide (x ∈ depsL c p a)
theorem ofL_rising (c : Hd) (a : Int) (ps : List Int) : (ofL c a ps).Pairwise (· < ·) := List.Pairwise.filter _ (range_rising _)
theorem ofL_len (c : Hd) (a : Int) (ps : List Int) : (ofL c a ps).length ≤ c.deeds.length := Nat.le_trans (List.length_filter_le ..) (by simp)
theorem depsL_in {c : Hd} (hg : goodH c = true) {p a : Int} (hp : 0 ≤ p ∧ p ≤ c.no - 1) {x : Int} (hx : x ∈ depsL c p a) : 0 ≤ x ∧ x < c.deeds.length := by
  obtain ⟨_, _, _, hrows⟩ := goodH_facts hg
  obtain ⟨_, hin, _, _⟩ := hrows _ (rows_get hg hp).2.2
  have := (srtI_perm (depsPre c (rowAt c p) a)).mem_iff.1 hx
  exact hin x ((List.takeWhile_sublist _).mem (List.mem_filter.1 this).1)
theorem depsL_len {c : Hd} (hg : goodH c = true) {p a : Int} (hp : 0 ≤ p ∧ p ≤ c.no - 1) : (depsL c p a).length ≤ 8 := by
  obtain ⟨_, h8, _, hrows⟩ := goodH_facts hg
  have h1 := (hrows _ (rows_get hg hp).2.2).1
  rw [depsL, srtI_length]
  have := depsPre_len c (rowAt c p) a
  have : (rowAt c p).length = c.deeds.length := h1
  omega
theorem mem_ofL {c : Hd} (hg : goodH c = true) {a : Int} {ps : List Int} (hin : ∀ p ∈ ps, 0 ≤ p ∧ p ≤ c.no - 1) {x : Int} : x ∈ ofL c a ps ↔ ∃ p ∈ ps, x ∈ depsL c p a := by
  simp only [ofL, List.mem_filter, List.any_eq_true, decide_eq_true_eq]
  constructor
  · exact fun h => h.2
  · rintro ⟨p, hp, hx⟩
    have := depsL_in hg (hin p hp) hx
    exact ⟨List.mem_map.2 ⟨x.toNat, List.mem_range.2 (by omega), by omega⟩, p, hp, hx⟩
theorem ofL_ext {c : Hd} (hg : goodH c = true) {a : Int} {ps : List Int} (hin : ∀ p ∈ ps, 0 ≤ p ∧ p ≤ c.no - 1) {ys : List Int} (hy : ys.Pairwise (· < ·)) (hm : ∀ x, x ∈ ys ↔ ∃ p ∈ ps, x ∈ depsL c p a) : ys = ofL c a ps :=
  rising_ext hy (ofL_rising _ _ _) fun x => by rw [hm, mem_ofL hg hin]
def groupQ (c : Hd) (ps : List Int) : Bool := risB 0 (c.no - 1) ps && decide (c.no.toNat / 2 + 1 ≤ ps.length)
theorem ofL_zero (c : Hd) (a : Int) (ps : List Int) : ofL c a (ps.take 0) = [] := by simp [ofL]
theorem isGroupH_eq {h : Heap} {v w : V} {c : Hd} {F : List Nat} (hc : HdV h v c F) (hg : goodH c = true) {ps : List Int} (hp : Sl h w ps) : call p 525 [v, w] h = some (.bool (groupQ c ps), h) := by
  obtain ⟨x, y, F1, F2, rfl, rfl, hx, hy⟩ := hc
  obtain ⟨hno, h8, _, _⟩ := goodH_facts hg
  have hm : manyB c.no = true := by simp only [goodH, Bool.and_eq_true] at hg; exact hg.1.1.1.1
  obtain ⟨n, hn⟩ : ∃ n : Nat, c.no = n := ⟨c.no.toNat, by omega⟩
  have e1 := arePlaces_eq hp c.no
  rw [hm, Bool.true_and] at e1
  have e2 := slow_eq n (by omega) h
  rw [← hn] at e2
  have hnn : c.no.toNat = n := by omega
  unfold groupQ
  rw [hnn]
  refine go_eq (fn := g525) rfl rfl fun R hR => ?_
  cases hr : risB 0 (c.no - 1) ps with
  | false => rw [hr] at e1 hR; simp [g525, fillL, upd, hx.cells, hx.cell, hy.cells, hy.cell, e1]; simpa using hR
  | true =>
    rw [hr] at e1 hR
    have : decide (((n / 2 + 1 : Nat) : Int) ≤ ps.length) = decide (n / 2 + 1 ≤ ps.length) := by congr 1; refine propext ⟨fun h => by omega, fun h => by omega⟩
    simp [g525, fillL, upd, hx.cells, hx.cell, hy.cells, hy.cell, e1, e2, hp.len, this, -Int.natCast_add, -Int.natCast_ediv]; simpa using hR
theorem allOf_ok {h : Heap} {v w : V} {c : Hd} {F : List Nat} (hc : HdV h v c F) (hg : goodH c = true) {a : Int} (ha : 0 ≤ a ∧ a ≤ (c.deeds.length : Int) - 1) {ps : List Int} (hp : Sl h w ps) (hin : ∀ p ∈ ps, 0 ≤ p ∧ p ≤ c.no - 1) :
    ∃ r h', call p 526 [v, vi a, w] h = some (r, h') ∧ ∃ G, SdF h' r (ofL c a ps) G ∧ Fresh h.length h' G ∧ Keeps h h' ∧ h.length ≤ h'.length := by
  have hcc := hc
  obtain ⟨_, h8, _, _⟩ := goodH_facts hg
  obtain ⟨x, y, F1, F2, rfl, rfl, hx, hy⟩ := hc
  refine go (fn := g526) rfl rfl fun R hR => ?_
  simp [g526, fillL, upd, hx.cells, hx.cell, hy.cells, hy.cell, hp.len]
  refine Wc_upM (M := [7, 9, 13, 14, 15, 16, 17, 18, 19, 20, 21, 22, 23]) rfl ps.length (fun i s => s.σ 13 = .v (vi i) ∧ s.L 3 = (1, [vi c.no, x, y]) ∧ (∃ u G, s.σ 7 = .v u ∧ SdF s.h u (ofL c a (ps.take i)) G ∧ Fresh h.length s.h G) ∧ Keeps h s.h ∧ h.length ≤ s.h.length) 0
    ⟨by simp, by simp [upd], ?_, Keeps.append _ _, by simp⟩ fun i s ⟨g13, gL, ⟨u, G, g7, su, fu⟩, hk, hl⟩ hM J hJ => ?_
  · obtain ⟨G, sG, fG⟩ := (Out.empty (α := Int) (h := h ++ [⟨.own, []⟩]) (lo := h.length) (b := h.length) (Nat.le_refl _) (by simp)).fr
    exact ⟨_, G, by simp; rfl, by rw [ofL_zero]; exact sG, fG⟩
  · by_cases hi : i < ps.length
    · have hp' := hp.keeps hk
      have ix := hp.idx 1 .i64 i hi
      simp only [Nat.mul_one] at ix
      have ld := hp'.loadI i hi
      have hpi := hin _ (List.getElem_mem hi)
      have hti : ∀ p ∈ ps.take i, 0 ≤ p ∧ p ≤ c.no - 1 := fun p hp => hin p (List.mem_of_mem_take hp)
      have hti1 : ∀ p ∈ ps.take (i + 1), 0 ≤ p ∧ p ≤ c.no - 1 := fun p hp => hin p (List.mem_of_mem_take hp)
      obtain ⟨w1, h4, e4, G4, s4, f4, k4, l4⟩ := depsH_ok (hcc.keep hk) hg hpi ha
      have hlo := ofL_len c a (ps.take i)
      have hld := depsL_len (a := a) hg hpi
      obtain ⟨w2, h5, e5, ys, G5, s5, f5, r5, m5, k5, l5⟩ := together_ok (su.keep k4) s4 (by omega)
      have hys : ys = ofL c a (ps.take (i + 1)) := ofL_ext hg hti1 r5 fun x => by
        rw [m5, mem_ofL hg hti]
        constructor
        · rintro (⟨p, hp, hx⟩ | hx)
          · exact ⟨p, (mem_take_succ hi).2 (.inl hp), hx⟩
          · exact ⟨_, (mem_take_succ hi).2 (.inr rfl), hx⟩
        · rintro ⟨p, hp, hx⟩
          rcases (mem_take_succ hi).1 hp with h | rfl
          · exact .inl ⟨p, h, hx⟩
          · exact .inr hx
      rw [hys] at s5
      simp [g526_0, hM, g13, g7, gL, hi, ix, ld, e4, e5, hp.step hi]
      exact hJ _ hi ⟨by simp, by simp [gL], ⟨w2, G5, by simp, s5, f5.mono (by omega)⟩, (hk.trans k4).trans k5, by show h.length ≤ h5.length; omega⟩
    · rw [List.take_of_length_le (by omega)] at su
      simp [g526_0, hM, g13, g7, hi]
      exact hR _ _ ⟨G, su, fu, hk, hl⟩
theorem l13Of_ok {h : Heap} {v w : V} {c : Hd} {F : List Nat} (hc : HdV h v c F) (hg : goodH c = true) {a : Int} (ha : 0 ≤ a ∧ a ≤ (c.deeds.length : Int) - 1) {ps : List Int} (hp : Sl h w ps) (hin : ∀ p ∈ ps, 0 ≤ p ∧ p ≤ c.no - 1) :
    ∃ r h', call p 527 [v, vi a, w] h = some (r, h') ∧ ∃ G, SdF h' r (ofL c a ps) G ∧ (∀ b ∈ G, h.length ≤ b) ∧ Keeps h h' ∧ h.length ≤ h'.length := by
  have hcc := hc
  obtain ⟨_, h8, _, _⟩ := goodH_facts hg
  obtain ⟨x, y, F1, F2, rfl, rfl, hx, hy⟩ := hc
  refine go (fn := g527) rfl rfl fun R hR => ?_
  simp [g527, fillL, upd, hx.cells, hx.cell, hy.cells, hy.cell, hp.len]
  refine Wc_upM (M := [7, 9, 11, 14, 15, 16, 17, 18, 19, 20, 21, 22, 23, 24, 25, 26, 27, 28, 29, 30, 31]) rfl ps.length (fun i s => s.σ 14 = .v (vi i) ∧ s.L 3 = (1, [vi c.no, x, y]) ∧ (∃ u G, s.σ 7 = .v u ∧ SdF s.h u (ofL c a (ps.take i)) G ∧ ∀ b ∈ G, h.length ≤ b) ∧ Keeps h s.h ∧ h.length ≤ s.h.length) 0
    ⟨by simp, by simp [upd], ⟨.nils, [], by simp, by rw [ofL_zero]; exact (SdF.nil : SdF h .nils ([] : List Int) []), by simp⟩, Keeps.refl _, by simp⟩ fun i s ⟨g14, gL, ⟨u, G, g7, su, fu⟩, hk, hl⟩ hM J hJ => ?_
  by_cases hi : i < ps.length
  · have hp' := hp.keeps hk
    have ix := hp.idx 1 .i64 i hi
    simp only [Nat.mul_one] at ix
    have ld := hp'.loadI i hi
    have hpi := hin _ (List.getElem_mem hi)
    have hti : ∀ p ∈ ps.take i, 0 ≤ p ∧ p ≤ c.no - 1 := fun p hp => hin p (List.mem_of_mem_take hp)
    have hti1 : ∀ p ∈ ps.take (i + 1), 0 ≤ p ∧ p ≤ c.no - 1 := fun p hp => hin p (List.mem_of_mem_take hp)
    obtain ⟨w1, h4, e4, G4, s4, f4, k4, l4⟩ := l13At_ok (hcc.keep hk) hg hpi ha
    have hlo := ofL_len c a (ps.take i)
    have hld := depsL_len (a := a) hg hpi
    have hsu4 := su.keep k4
    simp [g527_1, hM, g14, g7, gL, hi, ix, ld, e4, s4.len]
    have hM1 := hM
    refine Wc_upM (M := [7, 11, 23, 24, 25, 26, 27, 28, 29, 30]) rfl (depsL c ps[i] a).length (fun j q => q.σ 23 = .v (vi j) ∧ q.L 3 = (1, [vi c.no, x, y]) ∧ (∃ u ys G, q.σ 7 = .v u ∧ SdF q.h u ys G ∧ (∀ b ∈ G, h.length ≤ b) ∧ ys.Pairwise (· < ·) ∧ ys.length ≤ 8 + j ∧ ∀ z, z ∈ ys ↔ z ∈ ofL c a (ps.take i) ∨ z ∈ (depsL c ps[i] a).take j) ∧ Keeps h4 q.h ∧ h4.length ≤ q.h.length) 0
      ⟨by simp, by simp [gL], ⟨u, ofL c a (ps.take i), G, by simp [g7], hsu4, fu, ofL_rising _ _ _, by omega, by simp⟩, Keeps.refl _, Nat.le_refl _⟩ fun j q ⟨g23, gL', ⟨u', ys, G', g7', su', fu', r', yl', m'⟩, hk', hl'⟩ hM J2 hJ2 => ?_
    by_cases hj : j < (depsL c ps[i] a).length
    · have s4' := s4.keep hk'
      have ij := s4.idx 1 .i64 j hj
      simp only [Nat.mul_one] at ij
      have lj := s4'.sl.loadI j hj
      obtain ⟨w6, h6, e6, zs, G6, s6, r6, m6, zl, hG6, k6, l6⟩ := l1Put_ok su' r' (by omega) (depsL c ps[i] a)[j]
      have st := s4.step hj
      have hmt : ∀ z, z ∈ (depsL c ps[i] a).take (j + 1) ↔ z ∈ (depsL c ps[i] a).take j ∨ z = (depsL c ps[i] a)[j] := fun z => mem_take_succ hj
      generalize (depsL c ps[i] a)[j] = dj at *
      simp [g527_0, hM, hM1, g23, g7', hj, ij, lj, e6, st]
      refine hJ2 _ hj ⟨by simp, by simp [gL'], ⟨w6, zs, G6, by simp, s6, fun b hb => ?_, r6, by omega, fun z => by rw [m6, m', hmt, or_assoc]⟩, hk'.trans k6, by show h4.length ≤ h6.length; omega⟩
      rcases hG6 b hb with h | h
      · exact fu' b h
      · omega
    · rw [List.take_of_length_le (l := depsL c ps[i] a) (by omega)] at m'
      have hys : ys = ofL c a (ps.take (i + 1)) := ofL_ext hg hti1 r' fun x => by
        rw [m', mem_ofL hg hti]
        constructor
        · rintro (⟨p, hp, hx⟩ | hx)
          · exact ⟨p, (mem_take_succ hi).2 (.inl hp), hx⟩
          · exact ⟨_, (mem_take_succ hi).2 (.inr rfl), hx⟩
        · rintro ⟨p, hp, hx⟩
          rcases (mem_take_succ hi).1 hp with h | rfl
          · exact .inl ⟨p, h, hx⟩
          · exact .inr hx
      rw [hys] at su'
      simp [g527_0, hM, hM1, g23, g14, g7', hj, hp.step hi]
      exact hJ _ hi ⟨by simp, by simp [gL'], ⟨u', G', by simp [g7'], su', fu'⟩, (hk.trans k4).trans hk', by show h.length ≤ q.h.length; omega⟩
  · rw [List.take_of_length_le (by omega)] at su
    simp [g527_1, hM, g14, g7, hi]
    exact hR _ _ ⟨G, su, fu, hk, hl⟩
end GL

namespace GL
open Go

end GL

namespace GL
open Go

theorem Od.one {α : Type} [Data α] {lo : Nat} {h h1 : Heap} {v : V} {xs : List α} {G G' : List Nat} (od : Od lo h v xs G) (k1 : Keeps h h1) (l1 : h.length ≤ h1.length) (hG : ∀ b ∈ G', h.length ≤ b) {x : α} {cs : List V} (hr : Data.rep h1 x cs G') (hx : xs.length ≤ 2 ^ 20) {k bytes : Nat} (hk : k = Data.sz α) (hb : bytes ≤ 2 ^ 8) :
    ∃ v' h2, appH k bytes v 1 cs (h1 ++ [⟨.own, cs⟩]) = some (v', h2) ∧ Od lo h2 v' (xs ++ [x]) (G ++ G') ∧ (∀ h0 : Heap, Keeps h0 h → h0.length ≤ lo → Keeps h0 h2) ∧ h1.length < h2.length := by
  have hge := fun i (hi : vB v i) => od.ge hi
  have kl : Keeps h1 (h1 ++ [⟨.own, cs⟩]) := Keeps.append h1 _
  have od1 : Od lo (h1 ++ [⟨.own, cs⟩]) v xs G := od.keeps ((k1.trans kl).p fun _ => True) (fun _ _ => trivial) (fun _ _ => trivial) (by simp; omega)
  have hnv : ∀ b ∈ G', ¬ vB v b := fun b hb hv => by have := (hge b hv).2; have := hG b hb; omega
  obtain ⟨v', h2, e, o2, kp, l2, b2⟩ := od1.app (zs := [x]) (G := G') (by simp) (.one (Data.keeps hr (kl.p _))) hnv hb (by simp; omega) hk rfl
  have k2 : KeepsP (fun i => ¬ vB v i) h1 h2 := fun i blk hi h3 h4 => kp i blk hi (kl i blk h3 h4) h4
  exact ⟨v', h2, e, o2, fun h0 hk0 hl0 => Keeps.far (n := lo) (hk0.trans k1) k2 hl0 fun i hi hv => by have := (hge i hv).1; omega, by simp at l2; omega⟩

def allQ (c : Hd) (gs : List (List Int)) : Bool := goodH c && decide (gs.length = c.deeds.length) && gs.all (groupQ c)
noncomputable def allP (c : Hd) (gs : List (List Int)) (n : Nat) : List (List Int) := (List.range n).map fun (i : Nat) => ofL c (i : Int) (gs.getD i [])
noncomputable def linksR (c : Hd) (gs : List (List Int)) : List (List Int) := if allQ c gs = true then allP c gs gs.length else []
theorem allP_succ (c : Hd) (gs : List (List Int)) (n : Nat) (hn : n < gs.length) : allP c gs (n + 1) = allP c gs n ++ [ofL c (n : Int) gs[n]] := by
  simp only [allP, List.range_succ, List.map_append, List.map_cons, List.map_nil, List.getD_eq_getElem?_getD, List.getElem?_eq_getElem hn, Option.getD_some]
theorem groupQ_in {c : Hd} {ps : List Int} (h : groupQ c ps = true) : ∀ p ∈ ps, 0 ≤ p ∧ p ≤ c.no - 1 := by
  simp only [groupQ, Bool.and_eq_true, decide_eq_true_eq, risB] at h
  exact h.1.1
theorem AllDeps_ok {h : Heap} {v w : V} {c : Hd} {F F9 : List Nat} (hc : HdV h v c F) {gs : List (List Int)} (hp : SdF h w gs F9) :
    ∃ r h', call p 462 [v, w] h = some (r, h') ∧ ∃ o G, r = .tup [o, .bool (allQ c gs)] ∧ SdF h' o (linksR c gs) G ∧ Fresh h.length h' G ∧ Keeps h h' ∧ h.length ≤ h'.length := by
  obtain ⟨_, h1, e1, rfl, k1, l1⟩ := GoodHeard_ok hc
  have hc1 := hc.keep k1
  have hcc := hc1
  obtain ⟨x, y, F1, F2, rfl, rfl, hx, hy⟩ := hc1
  refine go (fn := g462) rfl rfl fun R hR => ?_
  have fin : ∀ h', allQ c gs = false → Keeps h h' → h.length ≤ h'.length → R (.tup [.nils, .bool false]) h' := fun h' hb hk hl => hR _ _ ⟨.nils, [], by rw [hb], by simp [linksR, hb]; exact .nil, Fresh.nil, hk, hl⟩
  cases hg : goodH c with
  | false =>
    rw [hg] at e1
    simp [g462, fillL, upd, hx.cells, hx.cell, hy.cells, hy.cell, e1]
    exact fin _ (by simp [allQ, hg]) k1 l1
  | true =>
    rw [hg] at e1
    by_cases hl : gs.length = c.deeds.length
    · have hl2 : (gs.length : Int) = c.deeds.length := by omega
      simp [g462, fillL, upd, hx.cells, hx.cell, hy.cells, hy.cell, e1, hp.len, hx.len, hl2]
      obtain ⟨_, h8, _⟩ := goodH_facts hg
      have hlen0 : ((c.deeds.length : Nat) : Int) = (gs.length : Int) := hl2.symm
      rw [← hl]
      refine Wc_upM (M := [4, 5, 6, 7, 8, 23, 24, 25, 26, 27, 28, 29, 30, 31, 32, 33, 34, 35, 36, 37, 38, 39]) rfl gs.length (fun i s => i ≤ gs.length ∧ s.σ 23 = .v (vi i) ∧ s.L 2 = (1, [vi c.no, x, y]) ∧ (∃ u G, s.σ 6 = .v u ∧ OdF h1.length s.h u (allP c gs i) G) ∧ (∀ g ∈ gs.take i, groupQ c g = true) ∧ Keeps h1 s.h ∧ h1.length ≤ s.h.length) 0
        ⟨by omega, by simp, by simp [upd], ⟨_, [], by simp; rfl, by simpa [allP] using OdF.empty (Nat.le_refl _) (by simp)⟩, by simp, Keeps.append _ _, by simp⟩ fun i s ⟨gi, g23, gL, ⟨u, G, g6, ou⟩, hall, hk, hln⟩ hM J hJ => ?_
      by_cases hi : i < gs.length
      · obtain ⟨z, F3, ez, hz, _⟩ := (hp.keep (k1.trans hk)).loadL i hi
        have iz := hp.idx 1 .i64 i hi
        simp only [Nat.mul_one] at iz
        have e2 := isGroupH_eq (hcc.keep hk) hg hz.sl
        cases hq : groupQ c gs[i] with
        | false =>
          rw [hq] at e2
          simp [g462_0, hM, g23, g6, gL, hi, iz, ez, e2]
          have : (gs.all (groupQ c)) = false := List.all_eq_false.2 ⟨_, List.getElem_mem hi, by simp [hq]⟩
          exact fin _ (by simp only [allQ, this, Bool.and_false]) (k1.trans hk) (by omega)
        | true =>
          rw [hq] at e2
          obtain ⟨r4, h4, e4, G4, s4, f4, k4, l4⟩ := allOf_ok (hcc.keep hk) hg (a := (i : Int)) (by omega) hz.sl (groupQ_in hq)
          have hpl : (allP c gs i).length ≤ 2 ^ 20 := by simp [allP]; omega
          obtain ⟨v6, h5, e5, o5, kk5, l5⟩ := ou.one k4 l4 f4 (x := ofL c (i : Int) gs[i]) (cs := [r4]) ⟨r4, rfl, s4⟩ hpl (k := 1) (bytes := 24) rfl (by decide)
          rw [← allP_succ c gs i hi] at o5
          simp [g462_0, hM, g23, g6, gL, hi, iz, ez, e2, e4, s4.cells, s4.cell, fillL, rdS_last, e5, hp.step hi]
          exact hJ _ hi ⟨hi, by simp, by simp [gL], ⟨v6, _, by simp, o5⟩, (all_take_succ hi).2 ⟨hall, hq⟩, kk5 _ hk (Nat.le_refl _), by show h1.length ≤ h5.length; omega⟩
      · have : i = gs.length := by omega
        subst this
        rw [List.take_length] at hall
        have hb : allQ c gs = true := by simp only [allQ, hg, hl, decide_true, Bool.true_and]; exact List.all_eq_true.2 hall
        obtain ⟨G9, s9, f9⟩ := ou.fresh
        simp [g462_0, hM, g23, g6]
        exact hR _ _ ⟨u, G9, by rw [hb], by simpa [linksR, hb] using s9, f9.mono l1, k1.trans hk, by omega⟩
    · have hl2 : ¬ (gs.length : Int) = c.deeds.length := by omega
      simp [g462, fillL, upd, hx.cells, hx.cell, hy.cells, hy.cell, e1, hp.len, hx.len, hl2]
      exact fin _ (by simp [allQ, hl]) k1 l1
theorem AllDepsS_ok {h : Heap} {v w : V} {c : Hd} {F F9 : List Nat} (hc : HdV h v c F) {gs : List (List Int)} (hp : SdF h w gs F9) :
    ∃ r h', call p 463 [v, w] h = some (r, h') ∧ ∃ o G, r = .tup [o, .bool (allQ c gs)] ∧ SdF h' o (linksR c gs) G ∧ Keeps h h' ∧ h.length ≤ h'.length := by
  have e1 := GoodHeardS_eq hc
  have hcc := hc
  obtain ⟨x, y, F1, F2, rfl, rfl, hx, hy⟩ := hc
  refine go (fn := g463) rfl rfl fun R hR => ?_
  have fin : ∀ h', allQ c gs = false → Keeps h h' → h.length ≤ h'.length → R (.tup [.nils, .bool false]) h' := fun h' hb hk hl => hR _ _ ⟨.nils, [], by rw [hb], by simp [linksR, hb]; exact .nil, hk, hl⟩
  cases hg : goodH c with
  | false =>
    rw [hg] at e1
    simp [g463, fillL, upd, hx.cells, hx.cell, hy.cells, hy.cell, e1]
    exact fin _ (by simp [allQ, hg]) (Keeps.refl _) (Nat.le_refl _)
  | true =>
    rw [hg] at e1
    by_cases hl : gs.length = c.deeds.length
    · have hl2 : (gs.length : Int) = c.deeds.length := by omega
      simp [g463, fillL, upd, hx.cells, hx.cell, hy.cells, hy.cell, e1, hp.len, hx.len, hl2]
      obtain ⟨_, h8, _⟩ := goodH_facts hg
      rw [← hl]
      refine Wc_upM (M := [4, 5, 6, 7, 8, 22, 23, 24, 25, 26, 27, 28, 29, 30, 31, 32, 33, 34, 35, 36, 37, 38]) rfl gs.length (fun i s => i ≤ gs.length ∧ s.σ 22 = .v (vi i) ∧ s.L 2 = (1, [vi c.no, x, y]) ∧ (∃ u G, s.σ 6 = .v u ∧ Od h.length s.h u (allP c gs i) G) ∧ (∀ g ∈ gs.take i, groupQ c g = true) ∧ Keeps h s.h ∧ h.length ≤ s.h.length) 0
        ⟨by omega, by simp, by simp [upd], ⟨.nils, [], by simp, by simpa [allP] using Od.nil (Nat.le_refl _)⟩, by simp, Keeps.refl _, by simp⟩ fun i s ⟨gi, g22, gL, ⟨u, G, g6, ou⟩, hall, hk, hln⟩ hM J hJ => ?_
      by_cases hi : i < gs.length
      · obtain ⟨z, F3, ez, hz, _⟩ := (hp.keep hk).loadL i hi
        have iz := hp.idx 1 .i64 i hi
        simp only [Nat.mul_one] at iz
        have e2 := l13Group_eq (hcc.keep hk) hg hz.sl
        rw [show (risB 0 (c.no - 1) gs[i] && decide (c.no.toNat / 2 + 1 ≤ gs[i].length)) = groupQ c gs[i] from rfl] at e2
        cases hq : groupQ c gs[i] with
        | false =>
          rw [hq] at e2
          simp [g463_0, hM, g22, g6, gL, hi, iz, ez, e2]
          have : (gs.all (groupQ c)) = false := List.all_eq_false.2 ⟨_, List.getElem_mem hi, by simp [hq]⟩
          exact fin _ (by simp only [allQ, this, Bool.and_false]) hk hln
        | true =>
          rw [hq] at e2
          obtain ⟨r4, h4, e4, G4, s4, f4, k4, l4⟩ := l13Of_ok (hcc.keep hk) hg (a := (i : Int)) (by omega) hz.sl (groupQ_in hq)
          have hpl : (allP c gs i).length ≤ 2 ^ 20 := by simp [allP]; omega
          obtain ⟨v6, h5, e5, o5, kk5, l5⟩ := ou.one k4 l4 f4 (x := ofL c (i : Int) gs[i]) (cs := [r4]) ⟨r4, rfl, s4⟩ hpl (k := 1) (bytes := 24) rfl (by decide)
          rw [← allP_succ c gs i hi] at o5
          simp [g463_0, hM, g22, g6, gL, hi, iz, ez, e2, e4, s4.cells, s4.cell, fillL, rdS_last, e5, hp.step hi]
          exact hJ _ hi ⟨hi, by simp, by simp [gL], ⟨v6, _, by simp, o5⟩, (all_take_succ hi).2 ⟨hall, hq⟩, kk5 _ hk (Nat.le_refl _), by show h.length ≤ h5.length; omega⟩
      · have : i = gs.length := by omega
        subst this
        rw [List.take_length] at hall
        have hb : allQ c gs = true := by simp only [allQ, hg, hl, decide_true, Bool.true_and]; exact List.all_eq_true.2 hall
        obtain ⟨G9, s9, _⟩ := ou.sd
        simp [g463_0, hM, g22, g6]
        exact hR _ _ ⟨u, G9, by rw [hb], by simpa [linksR, hb] using s9, hk, hln⟩
    · have hl2 : ¬ (gs.length : Int) = c.deeds.length := by omega
      simp [g463, fillL, upd, hx.cells, hx.cell, hy.cells, hy.cell, e1, hp.len, hx.len, hl2]
      exact fin _ (by simp [allQ, hl]) (Keeps.refl _) (Nat.le_refl _)

/-! a house: a heard log, and a group for each of its deeds -/
structure Hs where
  heard : Hd
  groups : List (List Int)
instance hsData : Data Hs where
  sz := 4
  pos := by decide
  rep := fun h c cs F => ∃ x y z F1 F2 F3, cs = [vi c.heard.no, x, y, z] ∧ F = F1 ++ F2 ++ F3 ∧ SdF h x c.heard.deeds F1 ∧ SdF h y c.heard.rows F2 ∧ SdF h z c.groups F3
  len := by rintro h a cs F ⟨x, y, z, F1, F2, F3, rfl, _⟩; rfl
  ok := by rintro h a cs F ⟨x, y, z, F1, F2, F3, rfl, _, h1, h2, h3⟩; simp [allCell, h1.cell, h2.cell, h3.cell, cell_int]
  keeps := by
    rintro h h' a cs F ⟨x, y, z, F1, F2, F3, rfl, rfl, h1, h2, h3⟩ hk
    exact ⟨x, y, z, F1, F2, F3, rfl, rfl, h1.keeps (hk.mono fun b hb => by simp [hb]), h2.keeps (hk.mono fun b hb => by simp [hb]), h3.keeps (hk.mono fun b hb => by simp [hb])⟩
  lt := by
    rintro h a cs F b ⟨x, y, z, F1, F2, F3, rfl, rfl, h1, h2, h3⟩ hb
    rcases List.mem_append.1 hb with hb | hb
    · rcases List.mem_append.1 hb with hb | hb
      · exact h1.lt hb
      · exact h2.lt hb
    · exact h3.lt hb
def HsV (h : Heap) (v : V) (c : Hs) (F : List Nat) : Prop := ∃ x y z F1 F2 F3, v = .agg [vi c.heard.no, x, y, z] ∧ F = F1 ++ F2 ++ F3 ∧ SdF h x c.heard.deeds F1 ∧ SdF h y c.heard.rows F2 ∧ SdF h z c.groups F3
section
variable {h h' : Heap} {v w : V} {c : Hs} {F G : List Nat}
theorem HsV.keeps (hc : HsV h v c F) (hk : KeepsP (fun b => b ∈ F) h h') : HsV h' v c F := by
  obtain ⟨x, y, z, F1, F2, F3, rfl, rfl, h1, h2, h3⟩ := hc
  exact ⟨x, y, z, F1, F2, F3, rfl, rfl, h1.keeps (hk.mono fun b hb => by simp [hb]), h2.keeps (hk.mono fun b hb => by simp [hb]), h3.keeps (hk.mono fun b hb => by simp [hb])⟩
theorem HsV.keep (hc : HsV h v c F) (hk : Keeps h h') : HsV h' v c F := hc.keeps (hk.p _)
theorem HsV.lt (hc : HsV h v c F) {b : Nat} (hb : b ∈ F) : b < h.length := by
  obtain ⟨x, y, z, F1, F2, F3, rfl, rfl, h1, h2, h3⟩ := hc
  rcases List.mem_append.1 hb with hb | hb
  · rcases List.mem_append.1 hb with hb | hb
    · obtain ⟨_, h3, _⟩ := h1.lt hb; exact get_lt h3
    · obtain ⟨_, h3, _⟩ := h2.lt hb; exact get_lt h3
  · obtain ⟨_, h4, _⟩ := h3.lt hb; exact get_lt h4
end
def houseB (c : Hs) : Bool := allQ c.heard c.groups
theorem LinksOf_ok {h : Heap} {v : V} {c : Hs} {F : List Nat} (hc : HsV h v c F) :
    ∃ r h', call p 474 [v] h = some (r, h') ∧ ∃ o G, r = .tup [o, .bool (houseB c)] ∧ SdF h' o (linksR c.heard c.groups) G ∧ Fresh h.length h' G ∧ Keeps h h' ∧ h.length ≤ h'.length := by
  obtain ⟨x, y, z, F1, F2, F3, rfl, rfl, hx, hy, hz⟩ := hc
  obtain ⟨_, h1, e1, o, G, rfl, s1, f1, k1, l1⟩ := AllDeps_ok (c := c.heard) ⟨x, y, F1, F2, rfl, rfl, hx, hy⟩ hz
  refine go (fn := g474) rfl rfl fun R hR => ?_
  simp [g474, fillL, upd, hx.cells, hx.cell, hy.cells, hy.cell, hz.cells, hz.cell, e1]
  exact hR _ _ ⟨o, G, rfl, s1, f1, k1, l1⟩
theorem GoodHouse_ok {h : Heap} {v : V} {c : Hs} {F : List Nat} (hc : HsV h v c F) :
    ∃ r h', call p 458 [v] h = some (r, h') ∧ r = .bool (houseB c) ∧ Keeps h h' ∧ h.length ≤ h'.length := by
  obtain ⟨_, h1, e1, o, G, rfl, s1, f1, k1, l1⟩ := LinksOf_ok hc
  obtain ⟨x, y, z, F1, F2, F3, rfl, rfl, hx, hy, hz⟩ := hc
  refine go (fn := g458) rfl rfl fun R hR => ?_
  simp [g458, fillL, upd, hx.cells, hx.cell, hy.cells, hy.cell, hz.cells, hz.cell, e1]
  exact hR _ _ ⟨rfl, k1, l1⟩
theorem GoodHouseS_ok {h : Heap} {v : V} {c : Hs} {F : List Nat} (hc : HsV h v c F) :
    ∃ r h', call p 457 [v] h = some (r, h') ∧ r = .bool (houseB c) ∧ Keeps h h' ∧ h.length ≤ h'.length := by
  obtain ⟨x, y, z, F1, F2, F3, rfl, rfl, hx, hy, hz⟩ := hc
  obtain ⟨_, h1, e1, o, G, rfl, s1, k1, l1⟩ := AllDepsS_ok (c := c.heard) ⟨x, y, F1, F2, rfl, rfl, hx, hy⟩ hz
  refine go (fn := g457) rfl rfl fun R hR => ?_
  simp [g457, fillL, upd, hx.cells, hx.cell, hy.cells, hy.cell, hz.cells, hz.cell, e1]
  exact hR _ _ ⟨rfl, k1, l1⟩
def Hs.of (p : Hd × List (List Int)) : Hs := ⟨p.1, p.2⟩
end GL

namespace GL
open Go

theorem LinksOfS_ok {h : Heap} {v : V} {c : Hs} {F : List Nat} (hc : HsV h v c F) :
    ∃ r h', call p 473 [v] h = some (r, h') ∧ ∃ o G, r = .tup [o, .bool (houseB c)] ∧ SdF h' o (linksR c.heard c.groups) G ∧ Keeps h h' ∧ h.length ≤ h'.length := by
  obtain ⟨x, y, z, F1, F2, F3, rfl, rfl, hx, hy, hz⟩ := hc
  obtain ⟨_, h1, e1, o, G, rfl, s1, k1, l1⟩ := AllDepsS_ok (c := c.heard) ⟨x, y, F1, F2, rfl, rfl, hx, hy⟩ hz
  refine go (fn := g473) rfl rfl fun R hR => ?_
  simp [g473, fillL, upd, hx.cells, hx.cell, hy.cells, hy.cell, hz.cells, hz.cell, e1]
  exact hR _ _ ⟨o, G, rfl, s1, k1, l1⟩
theorem SdF.ltF {α : Type} [Data α] {h : Heap} {v : V} {xs : List α} {F : List Nat} (hs : SdF h v xs F) {b : Nat} (hb : b ∈ F) : b < h.length := by
  obtain ⟨_, h9, _⟩ := hs.lt hb; exact get_lt h9
end GL

namespace GL
open Go

theorem houseB_facts {c : Hs} (h : houseB c = true) : goodH c.heard = true ∧ c.groups.length = c.heard.deeds.length ∧ c.groups.length ≤ 8 := by
  simp only [houseB, allQ, Bool.and_eq_true, decide_eq_true_eq] at h
  obtain ⟨_, h8, _⟩ := goodH_facts h.1.1
  exact ⟨h.1.1, h.1.2, by omega⟩
end GL

namespace GL
open Go

/-! what comes of deeds that are done in an order -/
structure Oc where
  order : List Int
  keys : List Int
  seen : List Int
def stepO (c : Hd) (p : List Int × List Int) (x : Int) : List Int × List Int :=
  (if (dAt c x).wr = true then p.1.set (dAt c x).key.toNat ((3 * p.1.getD (dAt c x).key.toNat 0 + x + 1).tmod 1000) else p.1, p.2.set x.toNat (p.1.getD (dAt c x).key.toNat 0))
def OkO (n : Nat) (p : List Int × List Int) : Prop := p.1.length = 10 ∧ p.2.length = n ∧ ∀ k ∈ p.1, 0 ≤ k ∧ k < 1000
theorem getD_lt {l : List Int} (h : ∀ k ∈ l, 0 ≤ k ∧ k < 1000) (i : Nat) : 0 ≤ l.getD i 0 ∧ l.getD i 0 < 1000 := by
  rw [List.getD_eq_getElem?_getD]
  cases e : l[i]? with
  | none => simp
  | some a => exact h a (List.mem_of_getElem? e)
theorem stepO_ok {c : Hd} {n : Nat} {p : List Int × List Int} (h : OkO n p) {x : Int} (hx : 0 ≤ x ∧ x < 1000) : OkO n (stepO c p x) := by
  obtain ⟨h1, h2, h3⟩ := h
  refine ⟨?_, by simp [stepO, h2], fun k hk => ?_⟩
  · simp only [stepO]; split <;> simp [h1]
  · simp only [stepO] at hk
    split at hk
    · rcases List.mem_or_eq_of_mem_set hk with hk | rfl
      · exact h3 k hk
      · have := getD_lt h3 (dAt c x).key.toNat
        rw [Int.tmod_eq_emod_of_nonneg (by omega)]
        omega
    · exact h3 k hk
theorem okD_at {c : Hd} (hg : goodH c = true) {x : Int} (hx : 0 ≤ x ∧ x < c.deeds.length) : 0 ≤ (dAt c x).key ∧ (dAt c x).key ≤ 9 := by
  have : c.deeds.all okD = true := by simp only [goodH, Bool.and_eq_true] at hg; exact hg.1.2
  have hi : x.toNat < c.deeds.length := by omega
  have h2 := List.all_eq_true.1 this _ (List.getElem_mem hi)
  simp only [dAt, List.getD_eq_getElem?_getD, List.getElem?_eq_getElem hi, Option.getD_some]
  simpa [okD] using h2

theorem main540 {c : Hs} {h0 : Heap} {x y z w a b d : V} {F1 : List Nat} (hx : SdF h0 x c.heard.deeds F1) (hg : goodH c.heard = true) {ps : List Int} (hp : Sl h0 w ps) (hin : ∀ p ∈ ps, 0 ≤ p ∧ p < (c.heard.deeds.length : Int))
    {Fb Fd : List Nat} (s0 : S) (K : Ex → S → Prop) (p0 : List Int × List Int) (hp0 : OkO c.heard.deeds.length p0) (sb : SdF s0.h b p0.1 Fb) (sd : SdF s0.h d p0.2 Fd) (ob : ∀ i ∈ Fb, OwnB s0.h i) (od : ∀ i ∈ Fd, OwnB s0.h i) (gb : ∀ i ∈ Fb, h0.length ≤ i) (gd : ∀ i ∈ Fd, h0.length ≤ i) (hne : ∀ i ∈ Fb, i ∉ Fd)
    (hk0 : Keeps h0 s0.h) (gL5 : s0.L 5 = (1, [a, b, d])) (gL2 : s0.L 2 = (1, [vi c.heard.no, x, y, z])) (g5 : s0.σ 5 = .lp 5 1 0) (g2 : s0.σ 2 = .lp 2 1 0) (glist : s0.σ 31 = .v w) (glen : s0.σ 32 = .v (vi ps.length)) (gi0 : s0.σ 33 = .v (vi 0))
    (hK : ∀ s, (∀ k, k ∉ [8, 9, 33, 34, 35, 36, 37, 38, 39, 40, 41, 42, 43, 44, 45, 46, 47, 48, 49, 50, 51, 52, 53, 54, 55, 56, 57, 58, 59, 60, 61, 62, 63, 64, 65, 66, 67, 68, 69, 70, 71] → s.σ k = s0.σ k) → s.L 5 = (1, [a, b, d]) → s.L 4 = s0.L 4 → SdF s.h b (ps.foldl (stepO c.heard) p0).1 Fb → SdF s.h d (ps.foldl (stepO c.heard) p0).2 Fd → (∀ i, OwnB s0.h i → OwnB s.h i) → KeepsP (fun i => i ∉ Fb ∧ i ∉ Fd) s0.h s.h → s.h.length = s0.h.length → K (.exit 2) s) : Wc p (.loop g540_1) s0 K := by
  obtain ⟨_, h8, _⟩ := goodH_facts hg
  refine Wc_upM (M := [8, 9, 33, 34, 35, 36, 37, 38, 39, 40, 41, 42, 43, 44, 45, 46, 47, 48, 49, 50, 51, 52, 53, 54, 55, 56, 57, 58, 59, 60, 61, 62, 63, 64, 65, 66, 67, 68, 69, 70, 71]) rfl ps.length (fun i s => i ≤ ps.length ∧ s.σ 33 = .v (vi i) ∧ s.L 5 = (1, [a, b, d]) ∧ s.L 2 = (1, [vi c.heard.no, x, y, z]) ∧ s.L 4 = s0.L 4 ∧ (∃ q : List Int × List Int, q = (ps.take i).foldl (stepO c.heard) p0 ∧ OkO c.heard.deeds.length q ∧ SdF s.h b q.1 Fb ∧ SdF s.h d q.2 Fd) ∧ (∀ i, OwnB s0.h i → OwnB s.h i) ∧ KeepsP (fun i => i ∉ Fb ∧ i ∉ Fd) s0.h s.h ∧ s.h.length = s0.h.length) 0
    ⟨by omega, by simp [gi0], gL5, gL2, rfl, ⟨p0, by simp, hp0, sb, sd⟩, fun _ h => h, KeepsP.refl _ _, rfl⟩ fun i s ⟨gi, gix, hL5, hL2, hL4, ⟨q, hq, hqo, qb, qd⟩, ho, hk, hl⟩ hM J hJ => ?_
  by_cases hi : i < ps.length
  · have kk : Keeps h0 s.h := Keeps.far (n := h0.length) hk0 hk (Nat.le_refl _) fun j hj => ⟨fun hm => by have := gb j hm; omega, fun hm => by have := gd j hm; omega⟩
    have hp' := hp.keeps kk
    have ix := hp.idx 1 .i64 i hi
    simp only [Nat.mul_one] at ix
    have ld := hp'.loadI i hi
    have hxi := hin _ (List.getElem_mem hi)
    have hfold : (ps.take (i + 1)).foldl (stepO c.heard) p0 = stepO c.heard q ps[i] := by rw [List.take_succ_eq_append_getElem hi, List.foldl_append, ← hq]; rfl
    have st := hp.step hi
    generalize ps[i] = xi at *
    obtain ⟨b1, b2⟩ := readD (hx.keep kk).sl hxi
    obtain ⟨kd0, kd9⟩ := okD_at hg hxi
    obtain ⟨ql, qn, qr⟩ := hqo
    obtain ⟨key, hkey⟩ : ∃ k : Nat, (dAt c.heard xi).key = k := ⟨(dAt c.heard xi).key.toNat, by omega⟩
    obtain ⟨xn, rfl⟩ : ∃ n : Nat, xi = n := ⟨xi.toNat, by omega⟩
    simp only [Int.toNat_natCast] at b1 b2
    have hkl : key < q.1.length := by omega
    have hxl : xn < q.2.length := by omega
    have ik := qb.idx 1 .i64 key hkl
    have lk := qb.sl.loadI key hkl
    have id := qd.idx 1 .i64 xn hxl
    simp only [Nat.mul_one] at ik id
    have hbb : bOf b ∈ Fb := by rw [qb.flatF.2.2 (fun e => by rw [e] at hkl; simp at hkl)]; simp
    have hdd : bOf d ∈ Fd := by rw [qd.flatF.2.2 (fun e => by rw [e] at hxl; simp at hxl)]; simp
    -- what was read
    obtain ⟨h1, e1, qd1, k1, l1, o1⟩ := qd.putF (i := xn) (ho _ (od _ hdd)) hxl (x' := q.1[key]) (o := 0) (ys := [vi q.1[key]]) (by simp [Flat.cells, lay])
    simp [Flat.sz] at e1
    have qb1 := qb.keeps (k1.mono fun j hj e => hne _ hj (by rw [e]; exact hdd))
    have kP1 : KeepsP (fun i => i ∉ Fb ∧ i ∉ Fd) s.h h1 := k1.mono fun j hj e => hj.2 (by rw [e]; exact hdd)
    have hgd : q.1.getD key 0 = q.1[key] := by rw [List.getD_eq_getElem?_getD, List.getElem?_eq_getElem hkl]; rfl
    have hkr := qr _ (List.getElem_mem hkl)
    have hok := stepO_ok (c := c.heard) (x := (xn : Int)) ⟨ql, qn, qr⟩ (by omega)
    cases hw : (dAt c.heard (xn : Int)).wr with
    | false =>
      have hstep : stepO c.heard q (xn : Int) = (q.1, q.2.set xn q.1[key]) := by simp only [stepO, hw, hkey, Int.toNat_natCast, hgd]; simp
      rw [hw, hkey] at b2
      rw [hstep] at hfold hok
      simp [g540_1, hM, glist, glen, gix, hL5, hL2, g5, g2, hi, ix, ld, upd, b1, b2, ik, lk, id, e1, st]
      exact hJ _ hi ⟨hi, by simp, by simp [upd, hL5], by simp [upd, hL2], by simp [upd, hL4], ⟨_, hfold.symm, hok, qb1, qd1⟩, fun j hj => o1 j (ho j hj), hk.trans kP1, by simp; omega⟩
    | true =>
      have hstep : stepO c.heard q (xn : Int) = (q.1.set key ((3 * q.1[key] + xn + 1).tmod 1000), q.2.set xn q.1[key]) := by simp only [stepO, hw, hkey, Int.toNat_natCast, hgd]; simp
      rw [hw, hkey] at b2
      rw [hstep] at hfold hok
      have lk1 := qb1.sl.loadI key hkl
      obtain ⟨h2, e2, qb2, k2, l2, o2⟩ := qb1.putF (i := key) (o1 _ (ho _ (ob _ hbb))) hkl (x' := (3 * q.1[key] + xn + 1).tmod 1000) (o := 0) (ys := [vi ((3 * q.1[key] + xn + 1).tmod 1000)]) (by simp [Flat.cells, lay])
      simp [Flat.sz] at e2
      have qd2 := qd1.keeps (k2.mono fun j hj e => hne _ hbb (by rw [← e]; exact hj))
      have kP2 : KeepsP (fun i => i ∉ Fb ∧ i ∉ Fd) h1 h2 := k2.mono fun j hj e => hj.1 (by rw [e]; exact hbb)
      generalize q.1[key] = kv at *
      have w1 : IntKind.i64.wrap (3 * kv) = 3 * kv := by rw [IntWalk.i64_in] <;> omega
      have w2 : IntKind.i64.wrap (3 * kv + (xn : Int)) = 3 * kv + xn := by rw [IntWalk.i64_in] <;> omega
      have w3 : IntKind.i64.wrap (3 * kv + (xn : Int) + 1) = 3 * kv + xn + 1 := by rw [IntWalk.i64_in] <;> omega
      simp [g540_1, hM, glist, glen, gix, hL5, hL2, g5, g2, hi, ix, ld, upd, b1, b2, ik, lk, lk1, id, e1, e2, st, w1, w2, w3]
      exact hJ _ hi ⟨hi, by simp, by simp [upd, hL5], by simp [upd, hL2], by simp [upd, hL4], ⟨_, hfold.symm, hok, qb2, qd2⟩, fun j hj => o2 j (o1 j (ho j hj)), (hk.trans kP1).trans kP2, by simp; omega⟩
  · have : i = ps.length := by omega
    subst this
    rw [List.take_length] at hq
    subst hq
    simp [g540_1, hM, glist, glen, gix]
    exact hK _ (fun k hk => by simp [hM k hk, upd]; intro e; subst e; simp at hk) hL5 hL4 qb qd ho hk hl

theorem main542 {c : Hs} {h0 : Heap} {x y z w a b d : V} {F1 : List Nat} (hx : SdF h0 x c.heard.deeds F1) (hg : goodH c.heard = true) {ps : List Int} (hp : Sl h0 w ps) (hin : ∀ p ∈ ps, 0 ≤ p ∧ p < (c.heard.deeds.length : Int))
    {Fb Fd : List Nat} (s0 : S) (K : Ex → S → Prop) (p0 : List Int × List Int) (hp0 : OkO c.heard.deeds.length p0) (sb : SdF s0.h b p0.1 Fb) (sd : SdF s0.h d p0.2 Fd) (ob : ∀ i ∈ Fb, OwnB s0.h i) (od : ∀ i ∈ Fd, OwnB s0.h i) (gb : ∀ i ∈ Fb, h0.length ≤ i) (gd : ∀ i ∈ Fd, h0.length ≤ i) (hne : ∀ i ∈ Fb, i ∉ Fd)
    (hk0 : Keeps h0 s0.h) (gL5 : s0.L 5 = (1, [a, b, d])) (gL2 : s0.L 2 = (1, [vi c.heard.no, x, y, z])) (g5 : s0.σ 5 = .lp 5 1 0) (g2 : s0.σ 2 = .lp 2 1 0) (glist : s0.σ 25 = .v w) (glen : s0.σ 26 = .v (vi ps.length)) (gi0 : s0.σ 27 = .v (vi 0))
    (hK : ∀ s, (∀ k, k ∉ [7, 8, 27, 28, 29, 30, 31, 32, 33, 34, 35, 36, 37, 38, 39, 40, 41, 42, 43, 44, 45, 46, 47, 48, 49, 50, 51, 52, 53, 54, 55, 56, 57, 58, 59, 60, 61, 62, 63, 64, 65] → s.σ k = s0.σ k) → s.L 5 = (1, [a, b, d]) → s.L 4 = s0.L 4 → SdF s.h b (ps.foldl (stepO c.heard) p0).1 Fb → SdF s.h d (ps.foldl (stepO c.heard) p0).2 Fd → (∀ i, OwnB s0.h i → OwnB s.h i) → KeepsP (fun i => i ∉ Fb ∧ i ∉ Fd) s0.h s.h → s.h.length = s0.h.length → K (.exit 2) s) : Wc p (.loop g542_1) s0 K := by
  obtain ⟨_, h8, _⟩ := goodH_facts hg
  refine Wc_upM (M := [7, 8, 27, 28, 29, 30, 31, 32, 33, 34, 35, 36, 37, 38, 39, 40, 41, 42, 43, 44, 45, 46, 47, 48, 49, 50, 51, 52, 53, 54, 55, 56, 57, 58, 59, 60, 61, 62, 63, 64, 65]) rfl ps.length (fun i s => i ≤ ps.length ∧ s.σ 27 = .v (vi i) ∧ s.L 5 = (1, [a, b, d]) ∧ s.L 2 = (1, [vi c.heard.no, x, y, z]) ∧ s.L 4 = s0.L 4 ∧ (∃ q : List Int × List Int, q = (ps.take i).foldl (stepO c.heard) p0 ∧ OkO c.heard.deeds.length q ∧ SdF s.h b q.1 Fb ∧ SdF s.h d q.2 Fd) ∧ (∀ i, OwnB s0.h i → OwnB s.h i) ∧ KeepsP (fun i => i ∉ Fb ∧ i ∉ Fd) s0.h s.h ∧ s.h.length = s0.h.length) 0
    ⟨by omega, by simp [gi0], gL5, gL2, rfl, ⟨p0, by simp, hp0, sb, sd⟩, fun _ h => h, KeepsP.refl _ _, rfl⟩ fun i s ⟨gi, gix, hL5, hL2, hL4, ⟨q, hq, hqo, qb, qd⟩, ho, hk, hl⟩ hM J hJ => ?_
  by_cases hi : i < ps.length
  · have kk : Keeps h0 s.h := Keeps.far (n := h0.length) hk0 hk (Nat.le_refl _) fun j hj => ⟨fun hm => by have := gb j hm; omega, fun hm => by have := gd j hm; omega⟩
    have hp' := hp.keeps kk
    have ix := hp.idx 1 .i64 i hi
    simp only [Nat.mul_one] at ix
    have ld := hp'.loadI i hi
    have hxi := hin _ (List.getElem_mem hi)
    have hfold : (ps.take (i + 1)).foldl (stepO c.heard) p0 = stepO c.heard q ps[i] := by rw [List.take_succ_eq_append_getElem hi, List.foldl_append, ← hq]; rfl
    have st := hp.step hi
    generalize ps[i] = xi at *
    obtain ⟨b1, b2⟩ := readD (hx.keep kk).sl hxi
    obtain ⟨kd0, kd9⟩ := okD_at hg hxi
    obtain ⟨ql, qn, qr⟩ := hqo
    obtain ⟨key, hkey⟩ : ∃ k : Nat, (dAt c.heard xi).key = k := ⟨(dAt c.heard xi).key.toNat, by omega⟩
    obtain ⟨xn, rfl⟩ : ∃ n : Nat, xi = n := ⟨xi.toNat, by omega⟩
    simp only [Int.toNat_natCast] at b1 b2
    have hkl : key < q.1.length := by omega
    have hxl : xn < q.2.length := by omega
    have ik := qb.idx 1 .i64 key hkl
    have lk := qb.sl.loadI key hkl
    have id := qd.idx 1 .i64 xn hxl
    simp only [Nat.mul_one] at ik id
    have hbb : bOf b ∈ Fb := by rw [qb.flatF.2.2 (fun e => by rw [e] at hkl; simp at hkl)]; simp
    have hdd : bOf d ∈ Fd := by rw [qd.flatF.2.2 (fun e => by rw [e] at hxl; simp at hxl)]; simp
    -- what was read
    obtain ⟨h1, e1, qd1, k1, l1, o1⟩ := qd.putF (i := xn) (ho _ (od _ hdd)) hxl (x' := q.1[key]) (o := 0) (ys := [vi q.1[key]]) (by simp [Flat.cells, lay])
    simp [Flat.sz] at e1
    have qb1 := qb.keeps (k1.mono fun j hj e => hne _ hj (by rw [e]; exact hdd))
    have kP1 : KeepsP (fun i => i ∉ Fb ∧ i ∉ Fd) s.h h1 := k1.mono fun j hj e => hj.2 (by rw [e]; exact hdd)
    have hgd : q.1.getD key 0 = q.1[key] := by rw [List.getD_eq_getElem?_getD, List.getElem?_eq_getElem hkl]; rfl
    have hkr := qr _ (List.getElem_mem hkl)
    have hok := stepO_ok (c := c.heard) (x := (xn : Int)) ⟨ql, qn, qr⟩ (by omega)
    cases hw : (dAt c.heard (xn : Int)).wr with
    | false =>
      have hstep : stepO c.heard q (xn : Int) = (q.1, q.2.set xn q.1[key]) := by simp only [stepO, hw, hkey, Int.toNat_natCast, hgd]; simp
      rw [hw, hkey] at b2
      rw [hstep] at hfold hok
      simp [g542_1, hM, glist, glen, gix, hL5, hL2, g5, g2, hi, ix, ld, upd, b1, b2, ik, lk, id, e1, st]
      exact hJ _ hi ⟨hi, by simp, by simp [upd, hL5], by simp [upd, hL2], by simp [upd, hL4], ⟨_, hfold.symm, hok, qb1, qd1⟩, fun j hj => o1 j (ho j hj), hk.trans kP1, by simp; omega⟩
    | true =>
      have hstep : stepO c.heard q (xn : Int) = (q.1.set key ((3 * q.1[key] + xn + 1).tmod 1000), q.2.set xn q.1[key]) := by simp only [stepO, hw, hkey, Int.toNat_natCast, hgd]; simp
      rw [hw, hkey] at b2
      rw [hstep] at hfold hok
      have lk1 := qb1.sl.loadI key hkl
      obtain ⟨h2, e2, qb2, k2, l2, o2⟩ := qb1.putF (i := key) (o1 _ (ho _ (ob _ hbb))) hkl (x' := (3 * q.1[key] + xn + 1).tmod 1000) (o := 0) (ys := [vi ((3 * q.1[key] + xn + 1).tmod 1000)]) (by simp [Flat.cells, lay])
      simp [Flat.sz] at e2
      have qd2 := qd1.keeps (k2.mono fun j hj e => hne _ hbb (by rw [← e]; exact hj))
      have kP2 : KeepsP (fun i => i ∉ Fb ∧ i ∉ Fd) h1 h2 := k2.mono fun j hj e => hj.1 (by rw [e]; exact hbb)
      generalize q.1[key] = kv at *
      have w1 : IntKind.i64.wrap (3 * kv) = 3 * kv := by rw [IntWalk.i64_in] <;> omega
      have w2 : IntKind.i64.wrap (3 * kv + (xn : Int)) = 3 * kv + xn := by rw [IntWalk.i64_in] <;> omega
      have w3 : IntKind.i64.wrap (3 * kv + (xn : Int) + 1) = 3 * kv + xn + 1 := by rw [IntWalk.i64_in] <;> omega
      simp [g542_1, hM, glist, glen, gix, hL5, hL2, g5, g2, hi, ix, ld, upd, b1, b2, ik, lk, lk1, id, e1, e2, st, w1, w2, w3]
      exact hJ _ hi ⟨hi, by simp, by simp [upd, hL5], by simp [upd, hL2], by simp [upd, hL4], ⟨_, hfold.symm, hok, qb2, qd2⟩, fun j hj => o2 j (o1 j (ho j hj)), (hk.trans kP1).trans kP2, by simp; omega⟩
  · have : i = ps.length := by omega
    subst this
    rw [List.take_length] at hq
    subst hq
    simp [g542_1, hM, glist, glen, gix]
    exact hK _ (fun k hk => by simp [hM k hk, upd]; intro e; subst e; simp at hk) hL5 hL4 qb qd ho hk hl
end GL

namespace GL
open Go

def OcV (h : Heap) (v : V) (c : Oc) (F : List Nat) : Prop := ∃ x y z F1 F2 F3, v = .agg [x, y, z] ∧ F = F1 ++ F2 ++ F3 ∧ SdF h x c.order F1 ∧ SdF h y c.keys F2 ∧ SdF h z c.seen F3
noncomputable def outF (c : Hd) (ps : List Int) : Oc :=
  ⟨ps, (ps.foldl (stepO c) (List.replicate 10 0, List.replicate c.deeds.length (-1))).1, (ps.foldl (stepO c) (List.replicate 10 0, List.replicate c.deeds.length (-1))).2⟩
theorem begin_three (σ : Nat → T) (L : Nat → Nat × List V) (h : Heap) (wt : Nat → Option (ROp × List T × V)) (fl : Nat → Bool) (b : Nat) :
    S.begin ⟨σ, L, h, wt, fl, b⟩ 3 = ⟨σ, L, h ++ [deadBlk, deadBlk, deadBlk], fun _ => none, fun _ => false, h.length⟩ := by simp [S.begin]
theorem begin_one (σ : Nat → T) (L : Nat → Nat × List V) (h : Heap) (wt : Nat → Option (ROp × List T × V)) (fl : Nat → Bool) (b : Nat) :
    S.begin ⟨σ, L, h, wt, fl, b⟩ 1 = ⟨σ, L, h ++ [deadBlk], fun _ => none, fun _ => false, h.length⟩ := by simp [S.begin]
theorem flats_rep0 (n : Nat) : flats (List.replicate n (0 : Int)) = List.replicate n (vi 0) := by rw [flats_ints]; simp
def tail540 : GL.Code := .seq (.seq (.reg 0 [⟨0, some 20, none, .p (.faddr 2), [.t 5]⟩,
    ⟨1, some 21, none, .l (.load 5 false 1), [.t 20]⟩,
    ⟨2, some 22, none, .p .len, [.t 21]⟩,
    ⟨3, some 23, none, .p .mov, [.c (.int .i64 0)]⟩])
   (.block 0 (.loop g540_0)))
   (.seq (.seq (.reg 0 [⟨0, some 31, none, .p .mov, [.t 1]⟩,
    ⟨1, some 32, none, .p .len, [.t 31]⟩,
    ⟨2, some 33, none, .p .mov, [.c (.int .i64 0)]⟩])
   (.block 2 (.loop g540_1)))
   (.seq (.reg 0 [⟨0, some 72, none, .l (.load 5 true 3), [.t 5]⟩,
    ⟨1, none, none, .l (.store 4 3), [.t 4, .t 72]⟩])
   (.ret)))
/-- the second half of l17By: what was made is filled -/
theorem l17Tail {c : Hs} {h0 : Heap} {x y z w a : V} {F1 : List Nat} (hx : SdF h0 x c.heard.deeds F1) (hg : goodH c.heard = true) {ps : List Int} (hp : Sl h0 w ps) (hin : ∀ p ∈ ps, 0 ≤ p ∧ p < (c.heard.deeds.length : Int))
    {bb bd : Nat} {Fa : List Nat} (s0 : S) (K : Ex → S → Prop) (sa : SdF s0.h a ps Fa) (ga : ∀ i ∈ Fa, h0.length ≤ i ∧ i ≠ bb ∧ i ≠ bd) (hne : bb ≠ bd) (gb : h0.length ≤ bb) (gd : h0.length ≤ bd)
    (cb : s0.h[bb]? = some ⟨.own, List.replicate 10 (vi 0)⟩) (cd : s0.h[bd]? = some ⟨.own, List.replicate c.heard.deeds.length (vi 0)⟩) (hk0 : Keeps h0 s0.h)
    (gL5 : s0.L 5 = (1, [a, .slice bb 0 10 (.k 10), .slice bd 0 c.heard.deeds.length (.k c.heard.deeds.length)])) (gL2 : s0.L 2 = (1, [vi c.heard.no, x, y, z])) (g5 : s0.σ 5 = .lp 5 1 0) (g2 : s0.σ 2 = .lp 2 1 0) (g4 : s0.σ 4 = .lp 4 1 0) (gl4 : s0.L 4 = (1, [.nils, .nils, .nils])) (g1 : s0.σ 1 = .v w)
    (hK : ∀ s G, s.L 4 = (1, [a, .slice bb 0 10 (.k 10), .slice bd 0 c.heard.deeds.length (.k c.heard.deeds.length)]) → s.σ 4 = .lp 4 1 0 → OcV s.h (.agg [a, .slice bb 0 10 (.k 10), .slice bd 0 c.heard.deeds.length (.k c.heard.deeds.length)]) (outF c.heard ps) G → (∀ i ∈ G, h0.length ≤ i) → Keeps h0 s.h → h0.length ≤ s.h.length → K .ret s) :
    Wc p tail540 s0 K := by
  obtain ⟨_, h8, _⟩ := goodH_facts hg
  obtain ⟨σ, L, H, wt, fl, base⟩ := s0
  simp only at sa cb cd hk0 gL5 gL2 g5 g2 g4 gl4 g1
  have sb : SdF H (.slice bb 0 10 (.k 10)) (List.replicate 10 (0 : Int)) [bb] := sdF_newK cb (flats_rep0 10).symm (by simp) (by simp)
  have sd : SdF H (.slice bd 0 c.heard.deeds.length (.k c.heard.deeds.length)) (List.replicate c.heard.deeds.length (0 : Int)) [bd] := sdF_newK cd (flats_rep0 _).symm (by simp) (by simp; omega)
  generalize hb : V.slice bb 0 10 (.k 10) = b at *
  generalize hd : V.slice bd 0 c.heard.deeds.length (.k c.heard.deeds.length) = d at *
  have bb' : bOf b = bb := by rw [← hb]; rfl
  have bd' : bOf d = bd := by rw [← hd]; rfl
  simp [tail540, gL5, gL2, g5, g2, g4, g1, upd, sd.len]
  refine Wc_upM (M := [6, 23, 24, 25, 26, 27, 28, 29, 30]) rfl c.heard.deeds.length (fun i s => i ≤ c.heard.deeds.length ∧ s.σ 23 = .v (vi i) ∧ s.L = L ∧ SdF s.h d (List.replicate i (-1) ++ List.replicate (c.heard.deeds.length - i) 0) [bd] ∧ (∀ j, OwnB H j → OwnB s.h j) ∧ KeepsP (fun j => j ≠ bd) H s.h ∧ s.h.length = H.length) 0
    ⟨by omega, by simp, rfl, by simpa using sd, fun _ h => h, KeepsP.refl _ _, rfl⟩ fun i s ⟨gi, g23, hL, hs, ho, hk, hl⟩ hM J hJ => ?_
  by_cases hi : i < c.heard.deeds.length
  · have hil : i < (List.replicate i (-1 : Int) ++ List.replicate (c.heard.deeds.length - i) 0).length := by simp; omega
    obtain ⟨h1, e1, s1, k1, l1, o1⟩ := hs.putF (i := i) (ho _ ⟨_, by rw [bd']; exact cd⟩) hil (x' := (-1 : Int)) (o := 0) (ys := [vi (-1)]) (by simp [Flat.cells, lay])
    simp [Flat.sz] at e1
    have ix := hs.idx 1 .i64 i hil
    simp only [Nat.mul_one] at ix
    have st : IntKind.i64.wrap ((i : Int) + 1) = i + 1 := by rw [IntWalk.i64_in] <;> omega
    simp [g540_0, hM, g23, hL, gL5, g5, hi, ix, e1, st, upd]
    refine hJ _ hi ⟨hi, by simp, rfl, ?_, fun j hj => o1 j (ho j hj), hk.trans (k1.mono fun j hj e => hj (by rw [e, bd'])), by simp; omega⟩
    have : (List.replicate i (-1 : Int) ++ List.replicate (c.heard.deeds.length - i) 0).set i (-1) = List.replicate (i + 1) (-1) ++ List.replicate (c.heard.deeds.length - (i + 1)) 0 := by
      have h1 : c.heard.deeds.length - i = c.heard.deeds.length - (i + 1) + 1 := by omega
      rw [List.set_append_right _ _ (by simp), h1, List.replicate_succ]
      simp only [List.length_replicate, Nat.sub_self, List.set_cons_zero]
      rw [List.replicate_succ', List.append_assoc]; rfl
    rw [this] at s1; exact s1
  · have : i = c.heard.deeds.length := by omega
    subst this
    rw [Nat.sub_self, List.replicate_zero, List.append_nil] at hs
    have kk : Keeps h0 s.h := Keeps.far (n := h0.length) hk0 hk (Nat.le_refl _) fun j hj e => by omega
    have hM1 := hM
    have cb1 : OwnB s.h bb := ho _ ⟨_, cb⟩
    have cd1 : OwnB s.h bd := ho _ ⟨_, cd⟩
    have sb1 := sb.keeps (hk.mono fun j hj => by simp at hj; subst hj; exact hne)
    have sa1 := sa.keeps (hk.mono fun j hj => (ga j hj).2.2)
    simp [g540_0, hM, g23, hL, gL5, g1, hp.len, upd]
    refine main540 (a := a) (b := b) (d := d) (Fb := [bb]) (Fd := [bd]) hx hg hp hin _ _ (List.replicate 10 0, List.replicate c.heard.deeds.length (-1)) ⟨by simp, by simp, fun k hk => by simp only [List.mem_replicate] at hk; omega⟩ sb1 hs (by simpa using cb1) (by simpa using cd1) (by simpa using gb) (by simpa using gd) (by simpa using hne) kk (by simpa using gL5) (by simpa using gL2) (by simp [hM, g5]) (by simp [hM, g2]) (by simp) (by simp) (by simp) fun t hMt tL5 tL4 tb td to tk tl => ?_
    have t5 : t.σ 5 = .lp 5 1 0 := by rw [hMt 5 (by decide)]; simp [hM, g5]
    have t4 : t.σ 4 = .lp 4 1 0 := by rw [hMt 4 (by decide)]; simp [hM, g4]
    have tL4' : t.L 4 = (1, [.nils, .nils, .nils]) := by rw [tL4]; simpa using gl4
    have kt : Keeps h0 t.h := Keeps.far (n := h0.length) kk tk (Nat.le_refl _) fun j hj => by simp; omega
    have sat := sa1.keeps (tk.mono fun j hj => by simp; exact ⟨(ga j hj).2.1, (ga j hj).2.2⟩)
    have tbc := tb.cell
    have tdc := td.cell
    simp [t5, t4, tL5, tL4', upd, sat.cell, tbc, tdc]
    refine hK _ (Fa ++ [bb] ++ [bd]) (by simp [upd]) (by simp [t4]) ⟨a, b, d, Fa, [bb], [bd], rfl, rfl, sat, tb, td⟩ (fun i hi => ?_) kt ?_
    · simp at hi
      rcases hi with hi | rfl | rfl
      · exact (ga i hi).1
      · exact gb
      · exact gd
    · show h0.length ≤ t.h.length
      have hlt := get_lt cb
      rw [tl]
      show h0.length ≤ s.h.length
      omega
theorem mtR (n : Nat) : (List.replicate n [vi 0]).flatten = List.replicate n (vi 0) := by
  induction n with
  | zero => rfl
  | succ n ih => simp [List.replicate_succ]
theorem l17By_ok {h : Heap} {v w : V} {c : Hs} {F : List Nat} (hc : HsV h v c F) (hg : goodH c.heard = true) {ps : List Int} (hp : Sl h w ps) (hin : ∀ p ∈ ps, 0 ≤ p ∧ p < (c.heard.deeds.length : Int)) (hl : ps.length ≤ 8) :
    ∃ r h', call p 540 [v, w] h = some (r, h') ∧ ∃ G, OcV h' r (outF c.heard ps) G ∧ (∀ i ∈ G, h.length ≤ i) ∧ Keeps h h' ∧ h.length ≤ h'.length := by
  obtain ⟨x, y, z, F1, F2, F3, rfl, rfl, hx, hy, hz⟩ := hc
  obtain ⟨_, h8, _⟩ := goodH_facts hg
  have c2 : (c.heard.deeds.length : Int) * 8 ≤ (room : Int) := by unfold room; omega
  have c3 : c.heard.deeds.length ≤ room := by unfold room; omega
  have c4 : (80 : Int) ≤ (room : Int) := by unfold room; omega
  have c5 : (10 : Int) ≤ (room : Int) := by unfold room; omega
  refine go (fn := g540) rfl rfl fun R hR => ?_
  show Wc p (.seq _ (.seq _ tail540)) _ _
  by_cases h0 : ps = []
  · subst h0
    have hr : rdS (h ++ [⟨.own, []⟩, deadBlk, deadBlk]) 1 w 0 = some [] := (hp.keeps (Keeps.append h _)).rdS 0 (by simp)
    have lw : lenV w = some 0 := hp.len
    have d0 := isDeadA h [deadBlk, deadBlk, deadBlk] 0
    have a0 := setA h [deadBlk, deadBlk, deadBlk] 0 ⟨.own, []⟩
    have d1 := isDeadA h [⟨.own, []⟩, deadBlk, deadBlk] 1
    have a1 := setA h [⟨.own, []⟩, deadBlk, deadBlk] 1 ⟨.own, List.replicate 10 (vi 0)⟩
    have d2 := isDeadA h [⟨.own, []⟩, ⟨.own, List.replicate 10 (vi 0)⟩, deadBlk] 2
    have a2 := setA h [⟨.own, []⟩, ⟨.own, List.replicate 10 (vi 0)⟩, deadBlk] 2 ⟨.own, List.replicate c.heard.deeds.length (vi 0)⟩
    simp only [Nat.add_zero, List.set_cons_zero, List.set_cons_succ] at d0 a0 d1 a1 d2 a2
    have i0 : isDead [deadBlk, deadBlk, deadBlk] 0 = true := rfl
    have i1 : isDead [⟨.own, []⟩, deadBlk, deadBlk] 1 = true := rfl
    have i2 : isDead [⟨.own, []⟩, ⟨.own, List.replicate 10 (vi 0)⟩, deadBlk] 2 = true := rfl
    have ad : allDead (h ++ [⟨.own, []⟩, deadBlk, deadBlk]) h.length (upd (fun _ => false) 0 true) [1, 2] = true := by simp only [allDead, List.all_cons, List.all_nil, isDeadA]; rfl
    have ap : ∀ b H, appH 1 8 (.slice b 0 0 (.k 0)) 0 [] H = some (.slice b 0 0 (.k 0), H) := fun _ _ => rfl
    simp [ad, ap, g540, fillL, upd, begin_three, xop_m, hx.cells, hx.cell, hy.cells, hy.cell, hz.cells, hz.cell, hx.len, lw, d0, a0, d1, a1, d2, a2, i0, i1, i2, hr, c2, c3, c4, c5, mtR, -List.reduceReplicate]
    refine l17Tail (c := c) hx hg hp hin (bb := h.length + 1) (bd := h.length + 2) (Fa := []) _ _ ⟨by simp, .inr ⟨h.length, 0, .k 0, rfl, Nat.le_refl 0, .inl ⟨rfl, rfl⟩⟩⟩ (by simp) (by omega) (by omega) (by omega) (by simp) (by simp) (Keeps.append h _) rfl rfl rfl rfl rfl rfl rfl fun s G g4 s4 hoc hG hk hl => ?_
    simp [s4, g4, resV, mkV]
    exact hR _ _ ⟨G, hoc, hG, hk, hl⟩
  · have n0 : 0 < ps.length := List.length_pos_iff.2 h0
    have hr : rdS (h ++ [⟨.own, []⟩, deadBlk, deadBlk]) 1 w ps.length = some (flats ps) := by
      have := (hp.keeps (Keeps.append h [⟨.own, []⟩, deadBlk, deadBlk])).rdS ps.length (Nat.le_refl _)
      rw [List.take_length] at this; exact this
    have lw : lenV w = some ps.length := hp.len
    have d0 := isDeadA h [deadBlk, deadBlk, deadBlk] 0
    have a0 := setA h [deadBlk, deadBlk, deadBlk] 0 ⟨.own, []⟩
    have d1 := isDeadA h [⟨.own, []⟩, deadBlk, deadBlk, ⟨.own, flats ps⟩] 1
    have a1 := setA h [⟨.own, []⟩, deadBlk, deadBlk, ⟨.own, flats ps⟩] 1 ⟨.own, List.replicate 10 (vi 0)⟩
    have d2 := isDeadA h [⟨.own, []⟩, ⟨.own, List.replicate 10 (vi 0)⟩, deadBlk, ⟨.own, flats ps⟩] 2
    have a2 := setA h [⟨.own, []⟩, ⟨.own, List.replicate 10 (vi 0)⟩, deadBlk, ⟨.own, flats ps⟩] 2 ⟨.own, List.replicate c.heard.deeds.length (vi 0)⟩
    simp only [Nat.add_zero, List.set_cons_zero, List.set_cons_succ] at d0 a0 d1 a1 d2 a2
    have i0 : isDead [deadBlk, deadBlk, deadBlk] 0 = true := rfl
    have i1 : isDead [⟨.own, []⟩, deadBlk, deadBlk, ⟨.own, flats ps⟩] 1 = true := rfl
    have i2 : isDead [⟨.own, []⟩, ⟨.own, List.replicate 10 (vi 0)⟩, deadBlk, ⟨.own, flats ps⟩] 2 = true := rfl
    have ad : allDead (h ++ [⟨.own, []⟩, deadBlk, deadBlk]) h.length (upd (fun _ => false) 0 true) [1, 2] = true := by simp only [allDead, List.all_cons, List.all_nil, isDeadA]; rfl
    have ap := appH_first (H := h ++ [⟨.own, []⟩, deadBlk, deadBlk]) (b := h.length) (k := 1) (bytes := 8) (ys := flats ps) n0 (by omega) (by decide)
    simp at ap
    simp [ad, ap, g540, fillL, upd, begin_three, xop_m, hx.cells, hx.cell, hy.cells, hy.cell, hz.cells, hz.cell, hx.len, lw, d0, a0, d1, a1, d2, a2, i0, i1, i2, hr, c2, c3, c4, c5, mtR, -List.reduceReplicate]
    refine l17Tail (c := c) hx hg hp hin (bb := h.length + 1) (bd := h.length + 2) (Fa := [h.length + 3]) _ _ (sdF_new (by simp) (by omega) rfl) (by simp) (by omega) (by omega) (by omega) (by simp) (by simp) (Keeps.append h _) rfl rfl rfl rfl rfl rfl rfl fun s G g4 s4 hoc hG hk hl => ?_
    simp [s4, g4, resV, mkV]
    exact hR _ _ ⟨G, hoc, hG, hk, hl⟩
end GL

namespace GL
open Go

theorem cloneI_exact {h : Heap} {v : V} {xs : List Int} (hs : Sl h v xs) (hl : xs.length ≤ 2 ^ 20) : ∃ r h', call p 389 [v] h = some (r, h') ∧ ∃ l F, h' = h ++ l ∧ SdF h' r xs F ∧ Fresh h.length h' F := by
  refine go (fn := g389) rfl rfl fun R hR => ?_
  have hs' := hs.keeps (Keeps.append h [⟨.own, []⟩])
  have e1 := hs'.rdS xs.length (Nat.le_refl _)
  rw [List.take_length] at e1
  change rdS _ 1 _ _ = _ at e1
  have hlen := hs.len
  rcases hs with ⟨_, ⟨rfl, rfl⟩ | ⟨b, off, cap, rfl, _⟩⟩
  · simp [g389]
    exact hR _ _ ⟨[], [], by simp, SdF.nil, Fresh.nil⟩
  · by_cases h0 : xs = []
    · subst h0
      have ap : ∀ b H, appH 1 8 (.slice b 0 0 (.k 0)) 0 [] H = some (.slice b 0 0 (.k 0), H) := fun _ _ => rfl
      have e1' : rdS (h ++ [⟨.own, []⟩]) 1 (.slice b off 0 cap) 0 = some [] := e1
      simp [g389, fillL, e1', ap]
      exact hR _ _ ⟨[⟨.own, []⟩], [], rfl, ⟨by simp, .inr ⟨h.length, 0, .k 0, rfl, Nat.le_refl 0, .inl ⟨rfl, rfl⟩⟩⟩, Fresh.nil⟩
    · have n0 : 0 < xs.length := List.length_pos_iff.2 h0
      have ap := appH_first (H := h ++ [⟨.own, []⟩]) (b := h.length) (k := 1) (bytes := 8) (ys := flats xs) n0 hl (by decide)
      simp at ap
      simp [g389, fillL, e1, ap]
      exact hR _ _ ⟨[⟨.own, []⟩, ⟨.own, flats xs⟩], [h.length + 1], rfl, sdF_new (by simp) (by omega) rfl, ⟨by simp, by simp, by simp; exact ⟨_, by simp; rfl⟩⟩⟩
def tail542 : GL.Code := .seq (.seq (.reg 0 [⟨0, some 13, none, .p (.faddr 0), [.t 2]⟩,
    ⟨1, some 14, none, .p (.faddr 1), [.t 13]⟩,
    ⟨2, some 15, none, .l (.load 2 false 1), [.t 14]⟩,
    ⟨3, some 16, none, .p .len, [.t 15]⟩,
    ⟨4, some 17, none, .p .mov, [.c (.int .i64 0)]⟩])
   (.block 0 (.loop g542_0)))
   (.seq (.seq (.reg 0 [⟨0, some 25, none, .p .mov, [.t 1]⟩,
    ⟨1, some 26, none, .p .len, [.t 25]⟩,
    ⟨2, some 27, none, .p .mov, [.c (.int .i64 0)]⟩])
   (.block 2 (.loop g542_1)))
   (.seq (.reg 0 [⟨0, some 66, none, .l (.load 5 true 3), [.t 5]⟩,
    ⟨1, none, none, .l (.store 4 3), [.t 4, .t 66]⟩])
   (.ret)))
theorem outTail {c : Hs} {h0 : Heap} {x y z w a : V} {F1 : List Nat} (hx : SdF h0 x c.heard.deeds F1) (hg : goodH c.heard = true) {ps : List Int} (hp : Sl h0 w ps) (hin : ∀ p ∈ ps, 0 ≤ p ∧ p < (c.heard.deeds.length : Int))
    {bb : Nat} {Fa : List Nat} (s0 : S) (K : Ex → S → Prop) (sa : SdF s0.h a ps Fa) (fa : Fresh h0.length s0.h Fa) (ga : bb ∉ Fa) (gb : h0.length ≤ bb)
    (cb : s0.h[bb]? = some ⟨.own, List.replicate 10 (vi 0)⟩) (hk0 : Keeps h0 s0.h)
    (gL5 : s0.L 5 = (1, [a, .slice bb 0 10 (.k 10), .nils])) (gL2 : s0.L 2 = (1, [vi c.heard.no, x, y, z])) (g5 : s0.σ 5 = .lp 5 1 0) (g2 : s0.σ 2 = .lp 2 1 0) (g4 : s0.σ 4 = .lp 4 1 0) (gl4 : s0.L 4 = (1, [.nils, .nils, .nils])) (g1 : s0.σ 1 = .v w)
    (hK : ∀ s d G, s.L 4 = (1, [a, .slice bb 0 10 (.k 10), d]) → s.σ 4 = .lp 4 1 0 → OcV s.h (.agg [a, .slice bb 0 10 (.k 10), d]) (outF c.heard ps) G → Fresh h0.length s.h G → Keeps h0 s.h → h0.length ≤ s.h.length → K .ret s) :
    Wc p tail542 s0 K := by
  obtain ⟨_, h8, _⟩ := goodH_facts hg
  obtain ⟨σ, L, H, wt, fl, base⟩ := s0
  simp only at sa fa cb hk0 gL5 gL2 g5 g2 g4 gl4 g1
  have hbl := get_lt cb
  have sb : SdF H (.slice bb 0 10 (.k 10)) (List.replicate 10 (0 : Int)) [bb] := sdF_newK cb (flats_rep0 10).symm (by simp) (by simp)
  generalize hb : V.slice bb 0 10 (.k 10) = b at *
  have hxc := (hx.keep hk0).len
  simp [tail542, gL5, gL2, g5, g2, g4, g1, upd, hxc]
  refine Wc_upM (M := [17, 18, 19, 20, 21, 22, 23, 24]) rfl c.heard.deeds.length (fun i s => i ≤ c.heard.deeds.length ∧ s.σ 17 = .v (vi i) ∧ s.L 2 = L 2 ∧ s.L 4 = L 4 ∧ (∃ d, s.L 5 = (1, [a, b, d]) ∧ Out H.length s.h d (List.replicate i (-1 : Int))) ∧ Keeps H s.h ∧ H.length ≤ s.h.length) 0
    ⟨by omega, by simp, rfl, rfl, ⟨.nils, gL5, by simpa using Out.nil (Nat.le_refl _)⟩, Keeps.refl _, Nat.le_refl _⟩ fun i s ⟨gi, g17, hL2, hL4, ⟨d, hL5, hs⟩, hk, hl⟩ hM J hJ => ?_
  by_cases hi : i < c.heard.deeds.length
  · obtain ⟨d', h1, e1, s1, k1, l1⟩ := hs.one (-1) (by simp; omega)
    have st : IntKind.i64.wrap ((i : Int) + 1) = i + 1 := by rw [IntWalk.i64_in] <;> omega
    have dc := s1.sl.cell
    have dcs := s1.sl.cells
    simp [g542_0, hM, g17, hL5, g5, hi, rdS_last, e1, st, upd, dc, dcs]
    exact hJ _ hi ⟨hi, by simp, by simp [upd, hL2], by simp [upd, hL4], ⟨d', by simp [upd], by rw [List.replicate_succ']; exact s1⟩, hs.far hk k1 (Nat.le_refl _), by show H.length ≤ h1.length; omega⟩
  · have : i = c.heard.deeds.length := by omega
    subst this
    have kk : Keeps h0 s.h := hk0.trans hk
    have hM1 := hM
    have sb1 := sb.keep hk
    have sa1 := sa.keep hk
    obtain ⟨Fd, sd, fd⟩ := hs.fr
    have ob : OwnB s.h bb := ⟨_, hk _ _ cb (by simp)⟩
    have hl0 : h0.length ≤ H.length := by omega
    simp [g542_0, hM, g17, g1, hp.len, upd]
    refine main542 (a := a) (b := b) (d := d) (Fb := [bb]) (Fd := Fd) hx hg hp hin _ _ (List.replicate 10 0, List.replicate c.heard.deeds.length (-1)) ⟨by simp, by simp, fun k hk => by simp only [List.mem_replicate] at hk; omega⟩ sb1 sd (by simpa using ob) fd.own (by simpa using gb) (fun i hi => Nat.le_trans hl0 (fd.ge i hi)) (fun i hi hm => by simp at hi; subst hi; have := fd.ge _ hm; omega) kk (by simpa using hL5) (by simpa [gL2] using hL2) (by simp [hM, g5]) (by simp [hM, g2]) (by simp) (by simp) (by simp) fun t hMt tL5 tL4 tb td to tk tl => ?_
    have t5 : t.σ 5 = .lp 5 1 0 := by rw [hMt 5 (by decide)]; simp [hM, g5]
    have t4 : t.σ 4 = .lp 4 1 0 := by rw [hMt 4 (by decide)]; simp [hM, g4]
    have tL4' : t.L 4 = (1, [.nils, .nils, .nils]) := by rw [tL4]; simpa [hL4] using gl4
    have tk' : KeepsP (fun i => i ∉ [bb] ∧ i ∉ Fd) s.h t.h := tk
    have kt : Keeps h0 t.h := Keeps.far (n := h0.length) kk tk' (Nat.le_refl _) fun j hj => ⟨by simp; omega, fun hm => by have := fd.ge j hm; omega⟩
    have pa : ∀ j ∈ Fa, j ∉ [bb] ∧ j ∉ Fd := fun j hj => ⟨by simp; intro e; subst e; exact ga hj, fun hm => by have := fd.ge j hm; have := (fa.own j hj).lt; omega⟩
    have sat := sa1.keeps (tk'.mono pa)
    have tbc := tb.cell
    have tdc := td.cell
    have tlen : h0.length ≤ t.h.length := by
      have : t.h.length = s.h.length := tl
      omega
    simp [t5, t4, tL5, tL4', upd, sat.cell, tbc, tdc]
    refine hK _ d (Fa ++ [bb] ++ Fd) (by simp [upd]) (by simp [t4]) ⟨a, b, d, Fa, [bb], Fd, rfl, rfl, sat, tb, td⟩ ⟨?_, fun j hj => ?_, fun j hj => ?_⟩ kt tlen
    · rw [List.nodup_append, List.nodup_append]
      refine ⟨⟨fa.nodup, by simp, fun u hu v hv e => by simp at hv; subst hv; subst e; exact ga hu⟩, fd.nodup, fun u hu v hv e => ?_⟩
      subst e
      have h1 := fd.ge u hv
      rcases List.mem_append.1 hu with hu | hu
      · have := (fa.own u hu).lt; omega
      · simp at hu; omega
    · rcases List.mem_append.1 hj with hj | hj
      · rcases List.mem_append.1 hj with hj | hj
        · exact fa.ge j hj
        · simp at hj; omega
      · have := fd.ge j hj; omega
    · rcases List.mem_append.1 hj with hj | hj
      · rcases List.mem_append.1 hj with hj | hj
        · exact to j ((fa.own j hj).keep hk)
        · simp at hj; subst hj; exact to _ ob
      · exact to j (fd.own j hj)
theorem outcome_ok {h : Heap} {v w : V} {c : Hs} {F : List Nat} (hc : HsV h v c F) (hg : goodH c.heard = true) {ps : List Int} (hp : Sl h w ps) (hin : ∀ p ∈ ps, 0 ≤ p ∧ p < (c.heard.deeds.length : Int)) (hl : ps.length ≤ 8) :
    ∃ r h', call p 542 [v, w] h = some (r, h') ∧ ∃ G, OcV h' r (outF c.heard ps) G ∧ Fresh h.length h' G ∧ Keeps h h' ∧ h.length ≤ h'.length := by
  obtain ⟨x, y, z, F1, F2, F3, rfl, rfl, hx, hy, hz⟩ := hc
  have c4 : (80 : Int) ≤ (room : Int) := by unfold room; omega
  have c5 : (10 : Int) ≤ (room : Int) := by unfold room; omega
  obtain ⟨a, h1, e1, l, Fa, rfl, sa, fa⟩ := cloneI_exact (hp.keeps (Keeps.append h [deadBlk])) (by omega)
  refine go (fn := g542) rfl rfl fun R hR => ?_
  show Wc p (.seq _ (.seq _ tail542)) _ _
  have hap : h ++ [deadBlk] ++ l = h ++ deadBlk :: l := by simp
  rw [hap] at e1 sa fa
  have d0 := isDeadA h (deadBlk :: l) 0
  have a0 := setA h (deadBlk :: l) 0 ⟨.own, List.replicate 10 (vi 0)⟩
  simp only [Nat.add_zero, List.set_cons_zero] at d0 a0
  have i0 : isDead (deadBlk :: l) 0 = true := rfl
  have ad : allDead (h ++ [deadBlk]) h.length (fun _ => false) [0] = true := by simp only [allDead, List.all_cons, List.all_nil, isDeadA]; rfl
  have ad2 : allDead (h ++ deadBlk :: l) h.length (fun _ => false) [0] = true := by simp only [allDead, List.all_cons, List.all_nil, isDeadA]; rfl
  have ne : ∀ j ∈ Fa, j ≠ h.length := fun j hj => by have := fa.ge j hj; simp at this; omega
  have kF : KeepsP (fun j => j ∈ Fa) (h ++ deadBlk :: l) (h ++ ⟨.own, List.replicate 10 (vi 0)⟩ :: l) := fun j bk hj hb _ => by
    rw [← a0, List.getElem?_set_ne (Ne.symm (ne j hj))]; exact hb
  have sa2 := sa.keeps kF
  have fa2 : Fresh h.length (h ++ ⟨.own, List.replicate 10 (vi 0)⟩ :: l) Fa := (fa.keeps kF).mono (by simp)
  simp [ad, ad2, g542, fillL, upd, begin_one, xop_m, hx.cells, hx.cell, hy.cells, hy.cell, hz.cells, hz.cell, e1, d0, a0, i0, c4, c5, sa.cells, sa.cell, mtR, -List.reduceReplicate]
  refine outTail (c := c) hx hg hp hin (bb := h.length) (Fa := Fa) _ _ sa2 fa2 (fun hm => ne _ hm rfl) (Nat.le_refl _) (by simp) (Keeps.append h _) rfl rfl rfl rfl rfl rfl rfl fun s d G g4 s4 hoc hG hk hl => ?_
  simp [s4, g4, resV, mkV]
  exact hR _ _ ⟨G, hoc, hG, hk, hl⟩
end GL

namespace GL
open Go

section
variable {h h' : Heap} {v w : V} {c : Oc} {F G : List Nat}
theorem OcV.keeps (hc : OcV h v c F) (hk : KeepsP (fun b => b ∈ F) h h') : OcV h' v c F := by
  obtain ⟨x, y, z, F1, F2, F3, rfl, rfl, h1, h2, h3⟩ := hc
  exact ⟨x, y, z, F1, F2, F3, rfl, rfl, h1.keeps (hk.mono fun b hb => by simp [hb]), h2.keeps (hk.mono fun b hb => by simp [hb]), h3.keeps (hk.mono fun b hb => by simp [hb])⟩
theorem OcV.keep (hc : OcV h v c F) (hk : Keeps h h') : OcV h' v c F := hc.keeps (hk.p _)
theorem OcV.lt (hc : OcV h v c F) {b : Nat} (hb : b ∈ F) : b < h.length := by
  obtain ⟨x, y, z, F1, F2, F3, rfl, rfl, h1, h2, h3⟩ := hc
  rcases List.mem_append.1 hb with hb | hb
  · rcases List.mem_append.1 hb with hb | hb
    · exact h1.ltF hb
    · exact h2.ltF hb
  · exact h3.ltF hb
end
def zO : Oc := ⟨[], [], []⟩
def outB (c : Hs) (ps : List Int) : Bool := houseB c && onceB c.heard.deeds.length ps
noncomputable def outR (c : Hs) (ps : List Int) : Oc := if outB c ps = true then outF c.heard ps else zO
theorem outB_facts {c : Hs} {ps : List Int} (h : outB c ps = true) : goodH c.heard = true ∧ (∀ p ∈ ps, 0 ≤ p ∧ p < (c.heard.deeds.length : Int)) ∧ ps.length ≤ 8 := by
  simp only [outB, Bool.and_eq_true, onceB, decide_eq_true_eq] at h
  obtain ⟨hg, hgl, h8⟩ := houseB_facts h.1
  have hin : ∀ p ∈ ps, 0 ≤ p ∧ p < (c.heard.deeds.length : Int) := fun p hp => ⟨(h.2.1 p hp).1, by have := (h.2.1 p hp).2; omega⟩
  have := nodup_len h.2.2 hin
  exact ⟨hg, hin, by omega⟩
theorem zO_v (h : Heap) : OcV h (.agg [.nils, .nils, .nils]) zO [] := ⟨.nils, .nils, .nils, [], [], [], rfl, rfl, .nil, .nil, .nil⟩
theorem OutcomeBy_ok {h : Heap} {v w : V} {c : Hs} {F : List Nat} (hc : HsV h v c F) {ps : List Int} (hp : Sl h w ps) (hpl : ps.length ≤ 2 ^ 20) :
    ∃ r h', call p 481 [v, w] h = some (r, h') ∧ ∃ o G, r = .tup [o, .bool (outB c ps)] ∧ OcV h' o (outR c ps) G ∧ Fresh h.length h' G ∧ Keeps h h' ∧ h.length ≤ h'.length := by
  obtain ⟨_, h1, e1, rfl, k1, l1⟩ := GoodHouse_ok hc
  have hcc := hc.keep k1
  obtain ⟨x, y, z, F1, F2, F3, rfl, rfl, hx, hy, hz⟩ := hc
  refine go (fn := g481) rfl rfl fun R hR => ?_
  have fin : ∀ h', outB c ps = false → Keeps h h' → h.length ≤ h'.length → R (.tup [.agg [.nils, .nils, .nils], .bool false]) h' := fun h' hb hk hl => hR _ _ ⟨_, [], by rw [hb], by simp only [outR, hb]; exact zO_v h', Fresh.nil, hk, hl⟩
  cases hb : houseB c with
  | false =>
    rw [hb] at e1
    simp [g481, fillL, upd, hx.cells, hx.cell, hy.cells, hy.cell, hz.cells, hz.cell, e1, resV, mkV]
    exact fin _ (by simp [outB, hb]) k1 l1
  | true =>
    rw [hb] at e1
    obtain ⟨hg, hgl, h8⟩ := houseB_facts hb
    obtain ⟨_, h2, e2, rfl, k2, l2⟩ := areOnce_ok (hp.keeps k1) hpl (c.heard.deeds.length : Int) (by omega)
    cases ho : onceB c.heard.deeds.length ps with
    | false =>
      rw [ho] at e2
      simp [g481, fillL, upd, hx.cells, hx.cell, hy.cells, hy.cell, hz.cells, hz.cell, hx.len, e1, e2, resV, mkV]
      exact fin _ (by simp [outB, ho]) (k1.trans k2) (by omega)
    | true =>
      rw [ho] at e2
      have hob : outB c ps = true := by simp [outB, hb, ho]
      obtain ⟨_, hin, hl8⟩ := outB_facts hob
      obtain ⟨r3, h3, e3, G3, c3, f3, k3, l3⟩ := outcome_ok (hcc.keep k2) hg (hp.keeps (k1.trans k2)) hin hl8
      have c3' := c3
      obtain ⟨a, b, d, G1, G2, G4, rfl, _, ga, gb, gd⟩ := c3'
      simp [g481, fillL, upd, hx.cells, hx.cell, hy.cells, hy.cell, hz.cells, hz.cell, hx.len, e1, e2, e3, resV, mkV, ga.cells, ga.cell, gb.cells, gb.cell, gd.cells, gd.cell]
      exact hR _ _ ⟨_, G3, by rw [hob], by simp only [outR, hob, if_true]; exact c3, f3.mono (by omega), (k1.trans k2).trans k3, by omega⟩
theorem OutcomeByS_ok {h : Heap} {v w : V} {c : Hs} {F F9 : List Nat} (hc : HsV h v c F) {ps : List Int} (hp : SdF h w ps F9) :
    ∃ r h', call p 480 [v, w] h = some (r, h') ∧ ∃ o G, r = .tup [o, .bool (outB c ps)] ∧ OcV h' o (outR c ps) G ∧ (∀ i ∈ G, h.length ≤ i) ∧ Keeps h h' ∧ h.length ≤ h'.length := by
  obtain ⟨_, h1, e1, rfl, k1, l1⟩ := GoodHouseS_ok hc
  have hcc := hc.keep k1
  obtain ⟨x, y, z, F1, F2, F3, rfl, rfl, hx, hy, hz⟩ := hc
  refine go (fn := g480) rfl rfl fun R hR => ?_
  have fin : ∀ h', outB c ps = false → Keeps h h' → h.length ≤ h'.length → R (.tup [.agg [.nils, .nils, .nils], .bool false]) h' := fun h' hb hk hl => hR _ _ ⟨_, [], by rw [hb], by simp only [outR, hb]; exact zO_v h', by simp, hk, hl⟩
  cases hb : houseB c with
  | false =>
    rw [hb] at e1
    simp [g480, fillL, upd, hx.cells, hx.cell, hy.cells, hy.cell, hz.cells, hz.cell, e1, resV, mkV]
    exact fin _ (by simp [outB, hb]) k1 l1
  | true =>
    rw [hb] at e1
    obtain ⟨hg, hgl, h8⟩ := houseB_facts hb
    have e2 := l14Once_eq (hp.keep k1) (c.heard.deeds.length : Int) (by omega)
    cases ho : onceB c.heard.deeds.length ps with
    | false =>
      rw [ho] at e2
      simp [g480, fillL, upd, hx.cells, hx.cell, hy.cells, hy.cell, hz.cells, hz.cell, hx.len, e1, e2, resV, mkV]
      exact fin _ (by simp [outB, ho]) k1 l1
    | true =>
      rw [ho] at e2
      have hob : outB c ps = true := by simp [outB, hb, ho]
      obtain ⟨_, hin, hl8⟩ := outB_facts hob
      obtain ⟨r3, h3, e3, G3, c3, f3, k3, l3⟩ := l17By_ok hcc hg (hp.keep k1).sl hin hl8
      have c3' := c3
      obtain ⟨a, b, d, G1, G2, G4, rfl, _, ga, gb, gd⟩ := c3'
      simp [g480, fillL, upd, hx.cells, hx.cell, hy.cells, hy.cell, hz.cells, hz.cell, hx.len, e1, e2, e3, resV, mkV, ga.cells, ga.cell, gb.cells, gb.cell, gd.cells, gd.cell]
      exact hR _ _ ⟨_, G3, by rw [hob], by simp only [outR, hob, if_true]; exact c3, fun i hi => by have := f3 i hi; omega, k1.trans k3, by omega⟩
end GL

namespace GL
open Go

end GL

namespace GL
open Go

theorem cut_drop {cs xs : List V} {off n m : Nat} (e : cut cs off n = some xs) (hm : m ≤ n) : cut cs (off + m) (n - m) = some (xs.drop m) := by
  unfold cut at e ⊢
  split at e
  case isFalse => cases e
  injection e with e
  subst e
  rw [if_pos (by omega), List.drop_take, List.drop_drop]
theorem SdF.suf {h : Heap} {v : V} {xs : List Int} {F : List Nat} (hs : SdF h v xs F) {i : Nat} (hi : i ≤ xs.length) : ∃ u F', slcV 1 v (some i) none none = some u ∧ SdF h u (xs.drop i) F' ∧ ∀ b ∈ F', b ∈ F := by
  have hbd := hs.bd
  rcases hs with ⟨hb, ⟨rfl, rfl, rfl⟩ | ⟨b, off, cap, rfl, hc, hs⟩⟩
  · simp at hi; subst hi
    exact ⟨.nils, [], rfl, .nil, by simp⟩
  · have hl : (xs.drop i).length = xs.length - i := by simp
    have s2 : ∃ off2 cap2, slcV 1 (.slice b off xs.length cap) (some i) none none = some (.slice b off2 (xs.length - i) cap2) ∧ capW 1 (xs.length - i) cap2 ∧ (off2 = off + i ∨ xs.length - i = 0) := by
      cases cap with
      | k c =>
        have hc' : xs.length ≤ c := hc
        refine ⟨_, .k (c - i), by simp only [slcV, Option.getD_none, Option.getD_some]; rw [if_pos ⟨hi, hc', Nat.le_refl _⟩], ?_, ?_⟩
        · show xs.length - i ≤ c - i; omega
        · by_cases hci : c = i
          · right; omega
          · left; rw [if_neg hci, Nat.mul_one]
      | o k =>
        have hc' : k = 1 := hc
        subst hc'
        refine ⟨_, .o 1, by simp only [slcV, Option.getD_none, Option.getD_some]; rw [if_pos ⟨trivial, hi, Nat.le_refl _⟩], rfl, .inl (by omega)⟩
    obtain ⟨off2, cap2, e, c2, ho⟩ := s2
    by_cases h0 : xs.length - i = 0
    · have hnil : xs.drop i = [] := List.eq_nil_of_length_eq_zero (by rw [hl]; exact h0)
      rw [hnil]
      rw [h0] at e c2
      exact ⟨_, [], e, ⟨by simp, .inr ⟨b, off2, cap2, rfl, c2, .inl ⟨rfl, rfl⟩⟩⟩, by simp⟩
    · have ho : off2 = off + i := by
        rcases ho with h | h
        · exact h
        · exact absurd h h0
      subst ho
      rcases hs with ⟨rfl, rfl⟩ | ⟨blk, cs, G, rfl, h1, h2, h3, h4⟩
      · simp at h0
      · obtain ⟨rfl, rfl⟩ := Reps.flat.1 h4
        have h3' : cut blk.cells (off + i) ((xs.length - i) * 1) = some (flats (xs.drop i)) := by
          have := cut_drop h3 (m := i) (show i ≤ xs.length * 1 by omega)
          have e2 := flats_drop xs i
          have hsz : Flat.sz Int = 1 := rfl
          rw [hsz, Nat.mul_one] at e2
          have hsz2 : Data.sz Int = 1 := rfl
          rw [hsz2, Nat.mul_one, e2] at this
          rw [Nat.mul_one]; exact this
        exact ⟨_, [b], e, ⟨by omega, .inr ⟨b, off + i, cap2, by rw [hl], by rw [hl]; exact c2, .inr ⟨blk, flats (xs.drop i), [], rfl, h1, h2, by rw [hl]; exact h3', Reps.flat.2 ⟨rfl, rfl⟩⟩⟩⟩, by simp⟩

theorem DC.shuffled {h0 h : Heap} {N : Nat} (d : DC h0 h N) (hN : N < 2 ^ 56) (n : Nat) (hn : n ≤ 20) : ∃ v h', call p 567 [.ptr h0.length 0, vi n] h = some (v, h') ∧ ∃ (xs : List Int), Out h.length h' v xs ∧ xs.length = n ∧ DC h0 h' (N + 60) ∧ KeepsBut h0.length h h' ∧ h.length ≤ h'.length := by
  have hlt := d.lt
  refine go (fn := g567) rfl rfl fun R hR => ?_
  simp [g567]
  refine Wc_upM (M := [5, 6, 7, 8, 9, 10, 11, 12, 13, 14, 15, 16, 17, 18, 19, 20, 21, 22, 23, 24, 25, 26, 27, 28, 29, 30, 31, 32]) rfl n (fun i s => i ≤ n ∧ s.σ 6 = .v (vi i) ∧ (∃ (v : V) (xs : List Int), s.σ 5 = .v v ∧ Out h.length s.h v xs ∧ xs.length = i) ∧ DC h0 s.h (N + 2 * i) ∧ KeepsBut h0.length h s.h ∧ h.length ≤ s.h.length) 0
    ⟨by omega, by simp, ⟨.nils, [], by simp, Out.nil (Nat.le_refl _), rfl⟩, by simpa using d, KeepsBut.refl _ _, Nat.le_refl _⟩ fun i s ⟨gi, g6, ⟨v, xs, g5, ho, hxl⟩, dc, kb, hl⟩ hM J hJ => ?_
  by_cases hi : i < n
  · have w1 : IntKind.i64.wrap ((i : Int) + 1) = (i + 1 : Nat) := by rw [IntWalk.i64_in] <;> omega
    obtain ⟨a, h1, e1, ha, d1, k1, l1⟩ := dc.pick (by omega) ((i + 1 : Nat) : Int) (by omega)
    have ho1 : Out h.length h1 v xs := ho.keeps k1.P (fun j hj e => by have := (ho.ge hj).1; omega) (by omega)
    obtain ⟨F, sF, fF⟩ := ho1.fr
    obtain ⟨u1, F1, eu1, su1, _⟩ := sF.pre (i := a) (by omega)
    obtain ⟨u2, F2, eu2, su2, _⟩ := sF.suf (i := a) (by omega)
    have k2 : Keeps h1 (h1 ++ [⟨.own, []⟩]) := Keeps.append _ _
    have o2 : Out h1.length (h1 ++ [⟨.own, []⟩]) (.slice h1.length 0 0 (.k 0)) ([] : List Int) := Out.empty (Nat.le_refl _) (by simp)
    have q1l : (xs.take a).length ≤ 20 := by rw [List.length_take]; omega
    have q2l : (xs.drop a).length ≤ 20 := by rw [List.length_drop]; omega
    obtain ⟨ys, v3, h3, er3, e3, o3, k3, l3⟩ := o2.appS (su1.keep k2).sl (bytes := 8) (by decide) (by simp; omega) (k := 1) rfl (n := (xs.take a).length) rfl
    have kk3 : Keeps h1 h3 := o2.far k2 k3 (Nat.le_refl _)
    obtain ⟨v4, h4, e4, o4, k4, l4⟩ := o3.one (i : Int) (by simp; omega)
    have kk4 : Keeps h1 h4 := o3.far kk3 k4 (Nat.le_refl _)
    obtain ⟨zs, v5, h5, er5, e5, o5, k5, l5⟩ := o4.appS (su2.keep kk4).sl (bytes := 8) (by decide) (by simp; omega) (k := 1) rfl (n := (xs.drop a).length) rfl
    have kk5 : Keeps h1 h5 := o4.far kk4 k5 (Nat.le_refl _)
    have hsl := ho.sl.len
    rw [hxl] at hsl
    have su1l := su1.len
    have su2l := su2.len
    generalize hq1 : (xs.take a).length = q1 at *
    generalize hq2 : (xs.drop a).length = q2 at *
    simp at l3
    have a0 : (0 : Int) ≤ a := by omega
    simp [g567_0, hM, g6, g5, hi, hsl, w1, e1, bounds, takeB, eu1, eu2, su1l, su2l, er3, e3, rdS_last, e4, er5, e5, -Int.natCast_add]
    have hfin : ([] ++ xs.take a ++ [(i : Int)] ++ xs.drop a).length = i + 1 := by
      simp only [List.nil_append, List.length_append, List.length_cons, List.length_nil, hq1, hq2]
      have : q1 + q2 = xs.length := by rw [← hq1, ← hq2, ← List.length_append, List.take_append_drop]
      omega
    exact hJ _ hi ⟨hi, by simp, ⟨v5, _, by simp, o5.mono (by omega), hfin⟩, (d1.mono (by omega)).keeps kk5, (kb.trans k1).trans (kk5.but _), by show h.length ≤ h5.length; omega⟩
  · have : i = n := by omega
    subst this
    simp [g567_0, hM, g6, g5]
    exact hR _ _ ⟨xs, ho, hxl, dc.mono (by omega), kb, hl⟩
end GL

namespace GL
open Go

theorem heard_deeds {h0 h g : Heap} {N : Nat} (d : DC h0 h N) (hN : N < 2 ^ 56) (kb : KeepsBut h0.length g h) (hl : g.length ≤ h.length) (hc : h0.length < g.length) (n : Nat) (hn : n ≤ 9) (no : Int) (s0 : S) (K : Ex → S → Prop) (g0 : s0.σ 0 = .v (.ptr h0.length 0)) (g4 : s0.σ 4 = .v (vi n)) (g5 : s0.σ 5 = .v (vi 0)) (g3 : s0.σ 3 = .lp 3 1 0) (gL : s0.L 3 = (1, [vi no, .nils, .nils])) (gh : s0.h = h)
    (hK : ∀ s u (xs : List Dd), (∀ k, k ∉ [5, 20, 21, 22, 23, 24, 25, 26, 27, 28, 29, 30, 31, 32, 33, 34] → s.σ k = s0.σ k) → s.L 2 = s0.L 2 → s.L 3 = (1, [vi no, u, .nils]) → Out g.length s.h u xs → xs.length = n → DC h0 s.h (N + 40) → KeepsBut h0.length g s.h → h.length ≤ s.h.length → K (.exit 0) s) : Wc p (.loop g528_0) s0 K := by
  refine Wc_upM (M := [5, 20, 21, 22, 23, 24, 25, 26, 27, 28, 29, 30, 31, 32, 33, 34]) rfl n (fun i s => i ≤ n ∧ s.σ 5 = .v (vi i) ∧ s.L 2 = s0.L 2 ∧ (∃ (u : V) (xs : List Dd), s.L 3 = (1, [vi no, u, .nils]) ∧ Out g.length s.h u xs ∧ xs.length = i) ∧ DC h0 s.h (N + 4 * i) ∧ KeepsBut h0.length g s.h ∧ h.length ≤ s.h.length) 0
    ⟨by omega, by simp [g5], rfl, ⟨.nils, [], gL, by rw [gh]; exact Out.nil hl, rfl⟩, by simpa [gh] using d, by rw [gh]; exact kb, by rw [gh]; exact Nat.le_refl _⟩ fun i s ⟨gi, g5', gL2, ⟨u, xs, hL, ho, hxl⟩, dc, kb, hl'⟩ hM J hJ => ?_
  by_cases hi : i < n
  · obtain ⟨a, h1, e1, ha, d1, k1, l1⟩ := dc.pick (by omega) 3 (by decide)
    obtain ⟨b, h2, e2, d2, k2, l2⟩ := d1.one (by omega) 2 (by decide)
    have kb2 := (kb.trans k1).trans k2
    have o2 : Out g.length h2 u xs := ho.keeps (k1.P.trans k2.P) (fun j hj e => by have := (ho.ge hj).1; omega) (by omega)
    obtain ⟨v', h3, e3, o3, d3, k3, l3⟩ := Out.draw (k := 2) (bytes := 16) d2 kb2 o2 (Nat.le_refl _) hc ⟨(a : Int), b⟩ (by omega) rfl (by decide) rfl
    simp [Flat.cells] at e3
    have w1 : IntKind.i64.wrap ((i : Int) + 1) = i + 1 := by rw [IntWalk.i64_in] <;> omega
    have uc := o3.sl.cell
    have ucs := o3.sl.cells
    simp [g528_0, hM, g0, g4, g5', g3, hL, hi, upd, e1, e2, fillL, rdS_last, e3, w1, uc, ucs]
    exact hJ _ hi ⟨hi, by simp, by simp [upd, gL2], ⟨v', xs ++ [⟨(a : Int), b⟩], by simp [upd], o3, by simp [hxl]⟩, d3.mono (by omega), k3, by show h.length ≤ h3.length; omega⟩
  · have : i = n := by omega
    subst this
    simp [g528_0, hM, g4, g5']
    exact hK _ u xs (fun k hk => by
      have h9 := hM k hk
      simp only [upd]
      repeat rw [if_neg (fun e => by subst e; simp at hk)]
      exact h9) gL2 hL ho hxl (dc.mono (by omega)) kb hl'
theorem heard_rows {h0 h g : Heap} {N : Nat} (d : DC h0 h N) (hN : N < 2 ^ 55) (kb : KeepsBut h0.length g h) (hl : g.length ≤ h.length) (hc : h0.length < g.length) (n : Nat) (hn : n ≤ 9) (no : Nat) (hno : no ≤ 5) {u v6 : V} {xs : List Dd} {base : List Int} (ou : Out g.length h u xs) (ob : Out g.length h v6 base) (hbl : base.length = n)
    (s0 : S) (K : Ex → S → Prop) (g0 : s0.σ 0 = .v (.ptr h0.length 0)) (g4 : s0.σ 4 = .v (vi n)) (g6 : s0.σ 6 = .v v6) (g7 : s0.σ 7 = .v (vi 0)) (g3 : s0.σ 3 = .lp 3 1 0) (gL : s0.L 3 = (1, [vi no, u, .nils])) (gh : s0.h = h)
    (hK : ∀ s r (rs : List (List Int)) (G : List Nat), (∀ k, k ∉ [7, 8, 38, 39, 40, 41, 42, 43, 44, 45, 46, 47, 48, 49, 50, 51, 52, 53, 54, 55, 56, 57, 58] → s.σ k = s0.σ k) → s.L 2 = s0.L 2 → s.L 3 = (1, [vi no, u, r]) → OdF h.length s.h r rs G → Out g.length s.h u xs → rs.length = no → (∀ l ∈ rs, l.length = n) → DC h0 s.h (N + 400) → KeepsBut h0.length g s.h → h.length ≤ s.h.length → K (.exit 2) s) : Wc p (.loop g528_1) s0 K := by
  refine Wc_upM (M := [7, 8, 38, 39, 40, 41, 42, 43, 44, 45, 46, 47, 48, 49, 50, 51, 52, 53, 54, 55, 56, 57, 58]) rfl no (fun i s => i ≤ no ∧ s.σ 7 = .v (vi i) ∧ s.L 2 = s0.L 2 ∧ (∃ (r : V) (rs : List (List Int)) (G : List Nat), s.L 3 = (1, [vi no, u, r]) ∧ OdF h.length s.h r rs G ∧ rs.length = i ∧ ∀ l ∈ rs, l.length = n) ∧ DC h0 s.h (N + 70 * i) ∧ KeepsBut h0.length h s.h ∧ h.length ≤ s.h.length) 0
    ⟨by omega, by simp [g7], rfl, ⟨.nils, [], [], gL, by rw [gh]; exact OdF.nil (Nat.le_refl _), rfl, by simp⟩, by simpa [gh] using d, by rw [gh]; exact KeepsBut.refl _ _, by rw [gh]; exact Nat.le_refl _⟩ fun i s ⟨gi, g7', gL2, ⟨r, rs, G, hL, ho, hrl, hrn⟩, dc, kb', hl'⟩ hM J hJ => ?_
  have hc2 : h0.length < h.length := by omega
  by_cases hi : i < no
  · have w1 : IntKind.i64.wrap ((i : Int) + 1) = i + 1 := by rw [IntWalk.i64_in] <;> omega
    have ob1 : Out g.length s.h v6 base := ob.keeps kb'.P (fun j hj e => by have := (ob.ge hj).1; omega) hl'
    have k1 : Keeps s.h (s.h ++ [⟨.own, []⟩]) := Keeps.append _ _
    have o1 : Out s.h.length (s.h ++ [⟨.own, []⟩]) (.slice s.h.length 0 0 (.k 0)) ([] : List Int) := Out.empty (Nat.le_refl _) (by simp)
    obtain ⟨ys, v3, h3, er3, e3, o3, k3, l3⟩ := o1.appS (ob1.sl.keeps k1) (bytes := 8) (by decide) (by simp; omega) (k := 1) rfl (n := base.length) rfl
    have kk3 : Keeps s.h h3 := o1.far k1 k3 (Nat.le_refl _)
    simp at l3
    obtain ⟨b, h4, e4, d4, k4, l4⟩ := (dc.keeps kk3).one (by omega) 3 (by decide)
    have o4 : Out s.h.length h4 v3 ([] ++ base) := o3.keeps k4.P (fun j hj e => by have := (o3.ge hj).1; omega) (by omega)
    have kb4 : KeepsBut h0.length s.h h4 := (kk3.but _).trans k4
    have hbl6 := ob1.sl.len
    -- with the row at hand
    have fin : ∀ (h5 : Heap) (v8 : V) (row : List Int), Out s.h.length h5 v8 row → row.length = n → DC h0 h5 (N + 70 * i + 62) → KeepsBut h0.length s.h h5 → s.h.length ≤ h5.length →
        ∃ v9 h6 G', appH 1 24 r 1 [v8] (h5 ++ [⟨.own, [v8]⟩]) = some (v9, h6) ∧ OdF h.length h6 v9 (rs ++ [row]) G' ∧ DC h0 h6 (N + 70 * (i + 1)) ∧ KeepsBut h0.length h h6 ∧ h.length ≤ h6.length ∧ v9.cell = true ∧ v9.cells = [v9] := fun h5 v8 row o8 hr d5 k5 l5 => by
      obtain ⟨F8, s8, f8⟩ := o8.fr
      obtain ⟨v9, h6, e6, o6, d6, k6, l6⟩ := OdF.draw d5 (kb'.trans k5) ho k5 l5 (Nat.le_refl _) hc2 f8 (x := row) (cs := [v8]) ⟨v8, rfl, s8⟩ (by omega) (k := 1) (bytes := 24) rfl (by decide)
      obtain ⟨F9, s9, _⟩ := o6.fresh
      exact ⟨v9, h6, _, e6, o6, d6.mono (by omega), k6, by omega, s9.cell, s9.cells⟩
    cases b with
    | true =>
      obtain ⟨v9, h6, G', e6, o6, d6, k6, l6, c6, cc6⟩ := fin h4 v3 _ o4 (by simpa using hbl) (d4.mono (by omega)) kb4 (by omega)
      have c4 := o4.sl.cell
      have cc4 := o4.sl.cells
      simp [g528_1, hM, g0, g4, g6, g7', g3, hL, hi, upd, hbl6, er3, e3, e4, fillL, rdS_last, c4, cc4, e6, w1, c6, cc6]
      exact hJ _ hi ⟨hi, by simp, by simp [upd, gL2], ⟨v9, _, G', by simp [upd], o6, by simp [hrl], fun l hl => by
        rcases List.mem_append.1 hl with h9 | h9
        · exact hrn l h9
        · simp at h9; subst h9; exact hbl⟩, d6, k6, l6⟩
    | false =>
      obtain ⟨v8, h5, e5, row, o5, hrow, d5, k5, l5⟩ := d4.shuffled (by omega) n (by omega)
      obtain ⟨v9, h6, G', e6, o6, d6, k6, l6, c6, cc6⟩ := fin h5 v8 row (o5.mono (by omega)) hrow (d5.mono (by omega)) (kb4.trans k5) (by omega)
      have c5 := o5.sl.cell
      have cc5 := o5.sl.cells
      simp [g528_1, hM, g0, g4, g6, g7', g3, hL, hi, upd, hbl6, er3, e3, e4, e5, fillL, rdS_last, c5, cc5, e6, w1, c6, cc6]
      exact hJ _ hi ⟨hi, by simp, by simp [upd, gL2], ⟨v9, _, G', by simp [upd], o6, by simp [hrl], fun l hl => by
        rcases List.mem_append.1 hl with h9 | h9
        · exact hrn l h9
        · simp at h9; subst h9; exact hrow⟩, d6, k6, l6⟩
  · have : i = no := by omega
    subst this
    have ou1 : Out g.length s.h u xs := ou.keeps kb'.P (fun j hj e => by have := (ou.ge hj).1; omega) hl'
    simp [g528_1, hM, g3, g7', hL, upd]
    exact hK _ r rs G (fun k hk => by
      have h9 := hM k hk
      simp only [upd]
      repeat rw [if_neg (fun e => by subst e; simp at hk)]
      exact h9) gL2 hL ho ou1 hrl hrn (dc.mono (by omega)) (kb.trans kb') hl'
end GL

