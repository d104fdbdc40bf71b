import Derived.ChangeArms
import Derived.IntWalk
import Derived.WideShapes
import Derived.Test.YtpmpdfpgkcagnaaGuFnReadyA
/- What the functions of the law do, on the machine. -/
set_option linter.unusedSimpArgs false
set_option linter.unusedVariables false
set_option linter.unnecessarySimpa false
namespace GL
open Go

theorem links1_eq {h : Heap} {b : Nat} {u : V} {l : List (List Int)} {F : List Nat} (hb : h[b]? = some ⟨.own, [u]⟩) (hu : SdF h u l F) {v : V} {xs : List Int} (hs : Sl h v xs) : call p 559 [v, .ptr b 0] h = some (.bool !risB 0 ((l.length : Int) - 1) xs, h) := by
  refine go_eq (fn := g559) rfl rfl fun R hR => ?_
  have hbd := hu.bd
  have w : IntKind.i64.wrap ((l.length : Int) - 1) = (l.length : Int) - 1 := by rw [IntWalk.i64_in] <;> omega
  simp [g559, rdH_at hb, hu.len, w, isRising_eq hs]; exact hR
theorem GoodLinks_ok {h : Heap} {v : V} {l : List (List Int)} {F : List Nat} (hs : SdF h v l F) : ∃ r h', call p 500 [v] h = some (r, h') ∧ r = .bool (linksB l) ∧ Keeps h h' ∧ h.length ≤ h'.length := by
  refine go (fn := g500) rfl rfl fun R hR => ?_
  have k0 : Keeps h (h ++ [⟨.own, [v]⟩]) := Keeps.append _ _
  have hb0 : (h ++ [⟨.own, [v]⟩])[h.length]? = some ⟨.own, [v]⟩ := get_last _ _
  have r0 : rdH (h ++ [⟨.own, [v]⟩]) h.length 0 1 = some [v] := by rw [rdH_at hb0 (by simp)]; rfl
  have e1 := containsL_eq (hs.keep k0) (f := 559) (capt := [.ptr h.length 0]) (q := fun xs => !risB 0 ((l.length : Int) - 1) xs) fun x xs G hx => links1_eq hb0 (hs.keep k0) hx.sl
  have ea : (l.any fun xs => !risB 0 ((l.length : Int) - 1) xs) = !(l.all fun xs => risB 0 ((l.length : Int) - 1) xs) := by rw [List.not_all_eq_any_not]
  rw [ea] at e1
  by_cases hl : l.length ≤ 12
  · have hl2 : (l.length : Int) ≤ 12 := by omega
    cases hall : (l.all fun xs => risB 0 ((l.length : Int) - 1) xs) <;>
    · rw [hall] at e1
      simp [g500, hs.cells, hs.cell, r0, hs.len, hl2, e1]
      exact hR _ _ ⟨by simp [linksB, hl, hall], k0, by simp⟩
  · have hl2 : ¬ (l.length : Int) ≤ 12 := by omega
    simp [g500, hs.cells, hs.cell, r0, hs.len, hl2]
    exact hR _ _ ⟨by simp [linksB, hl], k0, by simp⟩
theorem GoodLinksS_eq {h : Heap} {v : V} {l : List (List Int)} {F : List Nat} (hs : SdF h v l F) : call p 550 [v] h = some (.bool (linksB l), h) := by
  refine go_eq (fn := g550) rfl rfl fun R hR => ?_
  have hbd := hs.bd
  have w : IntKind.i64.wrap ((l.length : Int) - 1) = (l.length : Int) - 1 := by rw [IntWalk.i64_in] <;> omega
  simp [g550, hs.len]
  refine Wc_upM (M := [2, 4, 7, 8, 9, 10, 11, 12, 13, 14, 15, 16, 17]) rfl l.length (fun i s => s.σ 7 = .v (vi i) ∧ s.h = h ∧ ∀ xs ∈ l.take i, risB 0 ((l.length : Int) - 1) xs = true) 0 (by simp) fun i s ⟨g7, gh, hall⟩ hM J hJ => ?_
  by_cases hn : i < l.length
  · obtain ⟨x, F2, ex, hx, _⟩ := hs.loadL i hn
    have e1 := l1Rising_eq hx.sl 0 ((l.length : Int) - 1)
    cases hr : risB 0 ((l.length : Int) - 1) l[i] with
    | false =>
      rw [hr] at e1
      simp [g550_0, hM, g7, gh, hn, hs.idx, ex, hs.len, w, e1]
      have : linksB l = false := by
        have : (l.all fun xs => risB 0 ((l.length : Int) - 1) xs) = false := List.all_eq_false.2 ⟨_, List.getElem_mem hn, by simp [hr]⟩
        simp [linksB, this]
      rw [this] at hR; exact hR
    | true =>
      rw [hr] at e1
      simp [g550_0, hM, g7, gh, hn, hs.idx, ex, hs.len, w, e1, hs.step hn]
      exact hJ _ hn ⟨by simp, rfl, (all_take_succ hn).2 ⟨hall, hr⟩⟩
  · rw [List.take_of_length_le (by omega)] at hall
    have ha : (l.all fun xs => risB 0 ((l.length : Int) - 1) xs) = true := List.all_eq_true.2 hall
    by_cases hl : l.length ≤ 12
    · have hl2 : (l.length : Int) ≤ 12 := by omega
      simp [g550_0, hM, g7, gh, hn, hs.len, hl2]
      simpa [linksB, ha, hl] using hR
    · have hl2 : ¬ (l.length : Int) ≤ 12 := by omega
      simp [g550_0, hM, g7, gh, hn, hs.len, hl2]
      simpa [linksB, ha, hl] using hR

def nodeB (l : List (List Int)) (k : Int) : Bool := linksB l && decide (0 ≤ k ∧ k ≤ (l.length : Int) - 1)
theorem nodeB_facts {l : List (List Int)} {k : Int} (h : nodeB l k = true) : linksB l = true ∧ InR l k := by
  simp only [nodeB, Bool.and_eq_true, decide_eq_true_eq] at h
  exact ⟨h.1, h.2.1, by omega⟩
theorem l9Node_eq {h : Heap} {v : V} {l : List (List Int)} {F : List Nat} (hs : SdF h v l F) (k : Int) : call p 546 [v, vi k] h = some (.bool (nodeB l k), h) := by
  refine go_eq (fn := g546) rfl rfl fun R hR => ?_
  have hbd := hs.bd
  have w : IntKind.i64.wrap ((l.length : Int) - 1) = (l.length : Int) - 1 := by rw [IntWalk.i64_in] <;> omega
  have e1 := GoodLinksS_eq hs
  cases hl : linksB l with
  | false => rw [hl] at e1; simp [g546, e1]; simpa [nodeB, hl] using hR
  | true => rw [hl] at e1; simp [g546, e1, hs.len, w, -Bool.decide_and]; simpa [nodeB, hl] using hR

/-- what was read stands as it was -/
theorem stab1 {A B C : Type} {a : A} {b : B} {c : C} {P : A → B → C → Prop} : (∀ o as x, some (a, b, c) = some (o, as, x) → P o as x) ↔ P a b c := ⟨fun h => h _ _ _ rfl, fun h o as x e => by cases e; exact h⟩

theorem group_ok {h : Heap} {v : V} {l : List (List Int)} {F : List Nat} (hs : SdF h v l F) (hg : linksB l = true) (a : Int) (ha : InR l a) :
    ∃ r h', call p 560 [v, vi a] h = some (r, h') ∧ ∃ G, SdF h' r (groupL l a) G ∧ Fresh h.length h' G ∧ Keeps h h' ∧ h.length ≤ h'.length := by
  refine go (fn := g560) rfl rfl fun R hR => ?_
  have k1 : Keeps h (h ++ [⟨.own, [v]⟩, ⟨.own, [vi a]⟩]) := Keeps.append _ _
  have hb1 : (h ++ [⟨.own, [v]⟩, ⟨.own, [vi a]⟩])[h.length]? = some ⟨.own, [v]⟩ := by simp
  have hb2 : (h ++ [⟨.own, [v]⟩, ⟨.own, [vi a]⟩])[h.length + 1]? = some ⟨.own, [vi a]⟩ := by simp
  have r1 : rdH (h ++ [⟨.own, [v]⟩, ⟨.own, [vi a]⟩]) h.length 0 1 = some [v] := by rw [rdH_at hb1 (by simp)]; rfl
  have r2 : rdH (h ++ [⟨.own, [v]⟩, ⟨.own, [vi a]⟩]) (h.length + 1) 0 1 = some [vi a] := by rw [rdH_at hb2 (by simp)]; rfl
  obtain ⟨r, h2, e2, G, s2, f2, k2, l2⟩ := reach_ok (hs.keep k1) hg a ha
  simp at l2
  have hc1 := k2 _ _ hb1 (by simp)
  have hc2 := k2 _ _ hb2 (by simp)
  have f2' : ∀ b ∈ G, h.length + 2 ≤ b := fun b hb => by have := f2.ge b hb; simpa using this
  obtain ⟨r3, h3, e3, G3, s3, f3, k3, l3⟩ := deleteIg_ok s2 f2 (f := 576) (capt := [.ptr h.length 0, .ptr (h.length + 1) 0]) (q := fun b => !decide (a ∈ reachL l b)) fun h' hk hl n hn => by
    have d1 := hk _ _ (fun hm => by have := f2' _ hm; omega) hc1 (by simp)
    have d2 := hk _ _ (fun hm => by have := f2' _ hm; omega) hc2 (by simp)
    have kk : Keeps h h' := Keeps.far (n := h.length) (k1.trans k2) hk (Nat.le_refl _) fun i hi hm => by have := f2' i hm; omega
    have hn' : InR l n := ((mem_reachL hg ha).1 hn).lt hg ha
    obtain ⟨r4, h4, e4, G4, s4, f4, k4, l4⟩ := reach_ok (hs.keep kk) hg n hn'
    have : ∃ r h'', call p 576 [vi n, .ptr h.length 0, .ptr (h.length + 1) 0] h' = some (r, h'') ∧ r = .bool (!decide (a ∈ reachL l n)) ∧ h'' = h4 := by
      refine go (fn := g576) rfl rfl fun R hR => ?_
      have t1 : rdH h' h.length 0 1 = some [v] := by rw [rdH_at d1 (by simp)]; rfl
      have t2 : rdH h' (h.length + 1) 0 1 = some [vi a] := by rw [rdH_at d2 (by simp)]; rfl
      have t3 := rdH_keep k4 t2
      simp [g576, t1, t2, e4, stable, stab1, t3, containsI_eq s4.sl]
      exact hR _ _ ⟨rfl, rfl⟩
    obtain ⟨_, _, e, rfl, rfl⟩ := this
    exact ⟨_, e, k4, l4⟩
  have hf : (reachL l a).filter (fun n => !(!decide (a ∈ reachL l n))) = groupL l a := by unfold groupL; congr 1; funext n; simp
  rw [hf] at s3
  simp [g560, hs.cells, hs.cell, r1, r2, e2, e3]
  exact hR _ _ ⟨G3, s3, f3.mono (by simp), Keeps.far (n := h.length) (k1.trans k2) k3 (Nat.le_refl _) fun i hi hm => by have := f2' i hm; omega, by omega⟩
end GL

namespace GL
open Go

theorem hasAll_ok {h : Heap} {v w : V} {as bs : List Int} (hs : Sl h v as) (ht : Sl h w bs) : ∃ r h', call p 552 [v, w] h = some (r, h') ∧ r = .bool (bs.all fun n => decide (n ∈ as)) ∧ Keeps h h' ∧ h.length ≤ h'.length := by
  have k0 : Keeps h (h ++ [⟨.own, [v]⟩]) := Keeps.append _ _
  have hb0 : (h ++ [⟨.own, [v]⟩])[h.length]? = some ⟨.own, [v]⟩ := get_last _ _
  have r0 : rdH (h ++ [⟨.own, [v]⟩]) h.length 0 1 = some [v] := by rw [rdH_at hb0 (by simp)]; rfl
  have e1 := containsFh_eq (ht.keeps k0) 572 [.ptr h.length 0] (fun n => !decide (n ∈ as)) fun n => by
    refine go_eq (fn := g572) rfl rfl fun R hR => ?_
    simp [g572, r0, containsI_eq (hs.keeps k0)]; simpa using hR
  have ea : (bs.any fun n => !decide (n ∈ as)) = !(bs.all fun n => decide (n ∈ as)) := by rw [List.not_all_eq_any_not]
  rw [ea] at e1
  generalize (bs.all fun n => decide (n ∈ as)) = q at e1 ⊢
  refine go (fn := g552) rfl rfl fun R hR => ?_
  simp [g552, hs.cells, hs.cell, e1]
  exact hR _ _ ⟨rfl, k0, by simp⟩

theorem Out.mono {α : Type} [Flat α] {lo lo' : Nat} {h : Heap} {v : V} {xs : List α} (o : Out lo' h v xs) (hl : lo ≤ lo') : Out lo h v xs := by
  obtain ⟨h1, h2, ⟨rfl, rfl⟩ | ⟨b, rfl, hb, h3⟩ | ⟨b, rfl, rfl, h3, h4⟩⟩ := o
  · exact ⟨h1, by omega, .inl ⟨rfl, rfl⟩⟩
  · exact ⟨h1, by omega, .inr (.inl ⟨b, rfl, hb, by omega⟩)⟩
  · exact ⟨h1, by omega, .inr (.inr ⟨b, rfl, rfl, by omega, h4⟩)⟩

theorem l9Group_ok {h : Heap} {v : V} {l : List (List Int)} {F : List Nat} (hs : SdF h v l F) (hg : linksB l = true) (a : Int) (ha : InR l a) :
    ∃ r h', call p 562 [v, vi a] h = some (r, h') ∧ Out h.length h' r (groupL l a) ∧ Keeps h h' ∧ h.length ≤ h'.length := by
  obtain ⟨r, h1, e1, G, s1, k1, l1⟩ := l9Reach_ok hs hg a ha
  have hlen := reachL_len hg ha
  obtain ⟨g12, _⟩ := linksB_facts hg
  refine go (fn := g562) rfl rfl fun R hR => ?_
  simp [g562, e1, s1.len]
  refine Wc_upM (M := [5, 7, 12, 13, 14, 15, 16, 17, 18, 19, 20, 21, 22, 23, 24, 25]) rfl (reachL l a).length (fun i s => s.σ 12 = .v (vi i) ∧ ∃ v5, s.σ 5 = .v v5 ∧ Out h1.length s.h v5 (((reachL l a).take i).filter fun b => decide (a ∈ reachL l b)) ∧ Keeps h1 s.h ∧ h1.length ≤ s.h.length) 0
    ⟨by simp, .nils, by simp, by simpa using Out.nil (Nat.le_refl _), Keeps.refl _, Nat.le_refl _⟩ fun i s ⟨g12', v5, g5, ho, hk, hl⟩ hM J hJ => ?_
  by_cases hn : i < (reachL l a).length
  · have s1' := s1.keep hk
    have ht := List.take_succ_eq_append_getElem hn
    have hin : InR l (reachL l a)[i] := ((mem_reachL hg ha).1 (List.getElem_mem hn)).lt hg ha
    obtain ⟨r2, h2, e2, G2, s2, k2, l2⟩ := l9Reach_ok ((hs.keep k1).keep hk) hg _ hin
    have e3 := l1Has_eq s2.sl a
    have ho2 : Out h1.length h2 v5 _ := ho.keeps (k2.p fun _ => True) (fun _ _ => trivial) l2
    by_cases hm : a ∈ reachL l (reachL l a)[i]
    · rw [decide_eq_true hm] at e3
      have hle : (((reachL l a).take i).filter fun b => decide (a ∈ reachL l b)).length ≤ 2 ^ 20 := Nat.le_trans (List.length_filter_le ..) (by simp; omega)
      obtain ⟨v6, h3, e4, o3, k3, l3⟩ := ho2.one (reachL l a)[i] hle
      have s1'' := s1'.sl.loadI i hn
      have ij := s1'.idx 1 .i64 i hn
      simp only [Nat.mul_one] at ij
      simp [g562_0, hM, g12', g5, hn, ij, s1'', e2, e3, fillL, rdS_last, e4, s1.step hn]
      refine hJ _ hn ⟨by simp, v6, by simp, ?_, ho2.far (hk.trans k2) k3 (Nat.le_refl _), by show h1.length ≤ h3.length; omega⟩
      rw [ht, List.filter_append]; simpa [hm] using o3
    · rw [decide_eq_false hm] at e3
      have s1'' := s1'.sl.loadI i hn
      have ij := s1'.idx 1 .i64 i hn
      simp only [Nat.mul_one] at ij
      simp [g562_0, hM, g12', g5, hn, ij, s1'', e2, e3, s1.step hn]
      refine hJ _ hn ⟨by simp, v5, by simp [g5], ?_, hk.trans k2, by show h1.length ≤ h2.length; omega⟩
      rw [ht, List.filter_append]; simpa [hm] using ho2
  · rw [List.take_of_length_le (by omega)] at ho
    simp [g562_0, hM, g12', g5, hn]
    exact hR _ _ ⟨ho.mono l1, k1.trans hk, by omega⟩
/-- one of a list of lists of one's own is taken out, in place -/
theorem deleteL_ok {h : Heap} {b off n : Nat} {l : List (List Int)} {F : List Nat} (hs : SdF h (.slice b off n (.o 1)) l F) (hn : b ∉ F.tail) (ho : OwnB h b) {i : Nat} (hi : i < l.length) (hl : l.length ≤ 2 ^ 20) :
    ∃ r h', call p 575 [.slice b off n (.o 1), vi i, vi (i + 1 : Nat)] h = some (r, h') ∧ ∃ F', r = .slice b off (n - 1) (.o 1) ∧ SdF h' r (l.take i ++ l.drop (i + 1)) F' ∧ (∀ c ∈ F', c ∈ F) ∧ b ∉ F'.tail ∧ (F.Nodup → F'.Nodup) ∧ OwnB h' b ∧ KeepsP (fun c => c ≠ b) h h' ∧ h'.length = h.length := by
  have hs0 := hs
  obtain ⟨hbd, ⟨e, _⟩ | ⟨b', off', cap, e, hcap, hs⟩⟩ := hs
  · cases e
  injection e with e1 e2 e3 e4
  subst e1; subst e2; subst e4
  have hnl : n = l.length := by omega
  subst hnl
  rcases hs with ⟨rfl, _⟩ | ⟨blk, cs, G, rfl, hb, hlv, hc, hr⟩
  · simp at hi
  obtain ⟨ds, hd⟩ := ho
  rw [hd] at hb; cases hb
  have hbG : b ∉ G := by simpa using hn
  have hcl := hr.len
  rw [show l.length * Data.sz (List Int) = l.length from Nat.mul_one _] at hc hcl
  have hoff : off + l.length ≤ ds.length := by
    unfold cut at hc; split at hc
    · assumption
    · cases hc
  have hcs : (ds.drop off).take l.length = cs := by
    unfold cut at hc; rw [if_pos hoff] at hc; exact Option.some.inj hc
  obtain ⟨F1, F2, F3, hG, r2, r1, r3⟩ := hr.get i hi
  rw [show i * Data.sz (List Int) = i from Nat.mul_one _] at r1 r2
  rw [show (i + 1) * Data.sz (List Int) = i + 1 from Nat.mul_one _] at r3
  have hblt := get_lt hd
  obtain ⟨n, hn0⟩ : ∃ n, n = l.length := ⟨_, rfl⟩
  rw [← hn0] at hi hl hc hcl hoff hcs hbd ⊢
  -- what is laid
  have hdl : (cs.drop (i + 1)).length = n - (i + 1) := by simp; omega
  obtain ⟨ds', hds'⟩ : ∃ x, x = ds.take (off + i) ++ cs.drop (i + 1) ++ ds.drop (off + i + (n - (i + 1))) := ⟨_, rfl⟩
  have hl1 : ds'.length = ds.length := by rw [hds']; simp; omega
  have c13 : slcV 1 (.slice b off n (.o 1)) (some i) (some (i + 1)) (some n) = some (.slice b (if n = i then off else off + i * 1) (i + 1 - i) (.k (n - i))) := by
    simp only [slcV, Option.getD_some]; rw [if_pos ⟨by omega, by omega, Nat.le_refl _⟩]
  have c22 : slcV 1 (.slice b off n (.o 1)) none (some i) none = some (.slice b (off + 0 * 1) (i - 0) (.o 1)) := by
    simp only [slcV, Option.getD_some, Option.getD_none]; rw [if_pos ⟨trivial, by omega, by omega⟩]
  have c25 : slcV 1 (.slice b off n (.o 1)) (some (i + 1)) none none = some (.slice b (off + (i + 1) * 1) (n - (i + 1)) (.o 1)) := by
    simp only [slcV, Option.getD_some, Option.getD_none]; rw [if_pos ⟨trivial, by omega, by omega⟩]
  have hrd : rdS h 1 (.slice b (off + (i + 1) * 1) (n - (i + 1)) (.o 1)) (n - (i + 1)) = some (cs.drop (i + 1)) := by
    simp only [rdS, Nat.le_refl, if_true]
    split
    · rename_i h0
      rw [List.drop_of_length_le (by omega)]
    · simp only [rdH, hd, cut]
      rw [if_neg (by simp), if_pos (by omega), ← hcs, List.drop_take, List.drop_drop]
      simp
  obtain ⟨h1, e26, d1, k1, l1⟩ : ∃ h1, appH 1 24 (.slice b (off + 0 * 1) (i - 0) (.o 1)) (n - (i + 1)) (cs.drop (i + 1)) h = some (.slice b off (n - 1) (.o 1), h1) ∧ h1[b]? = some ⟨.own, ds'⟩ ∧ KeepsP (fun c => c ≠ b) h h1 ∧ h1.length = h.length := by
    by_cases h0 : n - (i + 1) = 0
    · refine ⟨h, ?_, ?_, KeepsP.refl _ _, rfl⟩
      · rw [h0]; simp [appH, lenV_s]; omega
      · rw [hd, hds', List.drop_of_length_le (by omega), h0]; simp
    · refine ⟨h.set b ⟨.own, ds'⟩, ?_, by simp [hblt], fun c blk hc hb2 _ => by rw [List.getElem?_set_ne (Ne.symm hc)]; exact hb2, by simp⟩
      simp only [appH, hd]
      rw [if_neg h0, if_pos ⟨trivial, trivial, by decide⟩, if_pos (by omega), wrH_at hd rfl]
      have : lay ds (off + 0 * 1 + (i - 0) * 1) (cs.drop (i + 1)) = some ds' := by
        unfold lay; rw [if_pos (by omega), hdl, hds']; simp
      rw [this]
      simp only [Option.bind_some, Option.some.injEq, Prod.mk.injEq, V.slice.injEq, and_true, true_and]
      omega
  have e31 : rop (.sliceX 1) [.v (.slice b off (n - 1) (.o 1)), .v (.int .i64 ((n - 1 : Nat) : Int)), .v (.int .i64 (n : Int))] h1 = some (.slice b (off + (n - 1) * 1) (n - (n - 1)) (.o 1)) := by
    simp only [rop, natV_i, d1]
    rw [if_pos (by omega), if_pos (by omega)]
    simp only [Option.bind_some, Int.toNat_natCast]
    rw [if_pos ⟨trivial, by omega, trivial, by decide, by omega⟩]
  obtain ⟨ds2, hds2⟩ : ∃ x, x = ds'.take (off + (n - 1)) ++ [V.nils] ++ ds'.drop (off + (n - 1) + 1) := ⟨_, rfl⟩
  have h1lt : b < h1.length := by omega
  have e32 : eop (call p) (.clear 1 [.nils]) [.v (.slice b (off + (n - 1) * 1) (n - (n - 1)) (.o 1))] h1 = some (.tup [], h1.set b ⟨.own, ds2⟩) := by
    rw [eop_clear, if_neg (by omega), show n - (n - 1) = 1 by omega]
    simp only [List.replicate, List.flatten_cons, List.flatten_nil, List.append_nil]
    rw [wrH_at d1 rfl]
    have : lay ds' (off + (n - 1) * 1) [V.nils] = some ds2 := by
      unfold lay; rw [if_pos (by simp; omega), hds2]; simp
    rw [this]; rfl
  have hl2 : ds2.length = ds.length := by rw [hds2]; simp; omega
  have htk : ds2.take (off + (n - 1)) = ds.take (off + i) ++ cs.drop (i + 1) := by
    rw [hds2, List.append_assoc, List.take_append_of_le_length (by simp; omega), List.take_take, Nat.min_self, hds', List.take_append_of_le_length (by simp; omega), List.take_of_length_le (by simp; omega)]
  have hcut : cut ds2 off (n - 1) = some (cs.take i ++ cs.drop (i + 1)) := by
    unfold cut
    rw [if_pos (by omega)]
    have e : (ds2.drop off).take (n - 1) = (ds2.take (off + (n - 1))).drop off := by
      rw [List.drop_take]; congr 1; omega
    rw [e, htk, List.drop_append_of_le_length (by simp; omega), List.drop_take, ← hcs, List.take_take]
    congr 3; omega
  have kk : KeepsP (fun c => c ≠ b) h (h1.set b ⟨.own, ds2⟩) := k1.trans fun c blk hc hb2 _ => by rw [List.getElem?_set_ne (Ne.symm hc)]; exact hb2
  simp only [Nat.zero_mul, Nat.add_zero, Nat.sub_zero, Nat.mul_one] at c13 c22 c25 hrd e26 e31 e32
  have w1 : ¬ (i : Int) = ((i + 1 : Nat) : Int) := by omega
  refine go (fn := g575) rfl rfl fun R hR => ?_
  simp [g575, bounds, takeB, c13, c22, c25, w1, hrd, e26, e31, e32, -Int.natCast_add]
  have hsub : ∀ c ∈ F1 ++ F3, c ∈ G := fun c hc => by rw [hG]; simp at hc ⊢; rcases hc with h | h <;> simp [h]
  have hkG : KeepsP (fun c => c ∈ F1 ++ F3) h (h1.set b ⟨.own, ds2⟩) := kk.mono fun c hc e => hbG (by rw [← e]; exact hsub c hc)
  refine hR _ _ ⟨b :: (F1 ++ F3), rfl, ⟨by simp; omega, .inr ⟨b, off, .o 1, by simp; omega, rfl, .inr ⟨⟨.own, ds2⟩, cs.take i ++ cs.drop (i + 1), F1 ++ F3, rfl, by simp [h1lt], by simp, ?_, (r1.append r3).keeps hkG⟩⟩⟩, fun c hc => ?_, ?_, fun hnd => ?_, ⟨ds2, by simp [h1lt]⟩, kk, by simp; omega⟩
  · rw [show (l.take i ++ l.drop (i + 1)).length * Data.sz (List Int) = n - 1 by rw [show Data.sz (List Int) = 1 from rfl]; simp; omega]
    exact hcut
  · rcases List.mem_cons.1 hc with rfl | h
    · simp
    · exact List.mem_cons_of_mem _ (hsub c h)
  · simpa using fun h => hbG (hsub b h)
  · rw [List.nodup_cons] at hnd ⊢
    refine ⟨fun h => hbG (hsub b h), ?_⟩
    rw [hG, List.append_assoc, List.nodup_append] at hnd
    have h2 := List.nodup_append.1 hnd.2.2.1
    rw [List.nodup_append]
    exact ⟨hnd.2.1, h2.2.1, fun a ha b hb => hnd.2.2.2 a ha b (List.mem_append_right _ hb)⟩
end GL

namespace GL
open Go

noncomputable def reps (l : List (List Int)) : List Int := (nodes l).filter fun k => decide ((groupL l k)[0]? = some k)
noncomputable def leftK (l : List (List Int)) (done : List Int) : List Int := (reps l).filter fun k => decide (k ∉ done)
noncomputable def leftL (l : List (List Int)) (done : List Int) : List (List Int) := (leftK l done).map (groupL l)
noncomputable def ownQ (l : List (List Int)) (done : List Int) (own : List Int) : Bool := match own with
  | [] => false
  | a :: _ => (reachL l a).all fun n => decide (n ∈ done ++ own)
theorem rising_head {xs : List Int} (hr : xs.Pairwise (· < ·)) {k : Int} (hk : k ∈ xs) : xs[0]? = some k ↔ ∀ b ∈ xs, k ≤ b := by
  cases xs with
  | nil => cases hk
  | cons a r =>
    rw [List.pairwise_cons] at hr
    simp only [List.getElem?_cons_zero, Option.some.injEq]
    constructor
    · rintro rfl b hb
      rcases List.mem_cons.1 hb with rfl | hb
      · exact Int.le_refl _
      · exact Int.le_of_lt (hr.1 b hb)
    · intro h
      have h1 := h a (by simp)
      rcases List.mem_cons.1 hk with h2 | h2
      · exact h2.symm
      · have := hr.1 k h2; omega
theorem leftK_rising (l : List (List Int)) (done : List Int) : (leftK l done).Pairwise (· < ·) := ((nodes_rising l).filter _).filter _
section
variable {l : List (List Int)} (hg : linksB l = true)
include hg
theorem mem_leftK {done : List Int} {k : Int} : k ∈ leftK l done ↔ InR l k ∧ k ∉ done ∧ ∀ b ∈ groupL l k, k ≤ b := by
  simp only [leftK, reps, List.mem_filter, mem_nodes, decide_eq_true_eq]
  constructor
  · rintro ⟨⟨h1, h2⟩, h3⟩
    exact ⟨h1, h3, (rising_head (groupL_rising l k) (self_groupL hg h1)).1 h2⟩
  · rintro ⟨h1, h2, h3⟩
    exact ⟨⟨h1, (rising_head (groupL_rising l k) (self_groupL hg h1)).2 h3⟩, h2⟩
theorem ownQ_eq {done : List Int} {k : Int} (hk : k ∈ leftK l done) : ownQ l done (groupL l k) = true ↔ readyB l done k := by
  obtain ⟨h1, h2, h3⟩ := (mem_leftK hg).1 hk
  have h4 := (rising_head (groupL_rising l k) (self_groupL hg h1)).2 h3
  unfold readyB
  cases he : groupL l k with
  | nil => rw [he] at h4; simp at h4
  | cons a r =>
    rw [he] at h4; simp at h4; subst h4
    simp only [ownQ, List.all_eq_true, decide_eq_true_eq, List.mem_append]
theorem left_next {done : List Int} (hc : Cl l done) {k : Int} (h : nextK l done = some k) : k ∈ leftK l done := by
  obtain ⟨h1, h2, _, _⟩ := next_some hg h
  exact (mem_leftK hg).2 ⟨h1, h2, next_rep hg hc h⟩
theorem left_first {done : List Int} (hc : Cl l done) {kk : Int} (hf : FirstP (ownQ l done) (leftL l done) kk) (hne : leftL l done ≠ []) :
    ∃ (i : Nat) (k : Int) (hi : i < (leftL l done).length), kk = i ∧ nextK l done = some k ∧ (leftL l done)[i] = groupL l k ∧ (leftL l done).take i ++ (leftL l done).drop (i + 1) = leftL l (done ++ groupL l k) := by
  have hks := leftK_rising l done
  have hex : ∃ k, nextK l done = some k := by
    cases hn : nextK l done with
    | some k => exact ⟨k, rfl⟩
    | none =>
      obtain ⟨g, hg'⟩ := List.exists_mem_of_ne_nil _ hne
      obtain ⟨k, hk, _⟩ := List.mem_map.1 hg'
      obtain ⟨h1, h2, _⟩ := (mem_leftK hg).1 hk
      exact absurd (next_none hg hn h1) h2
  obtain ⟨k, hn⟩ := hex
  obtain ⟨q1, q2, q3, q4⟩ := next_some hg hn
  have hk := left_next hg hc hn
  obtain ⟨j, hj, hjk⟩ := List.getElem_of_mem hk
  have hlen : (leftL l done).length = (leftK l done).length := by simp [leftL]
  rcases hf with ⟨_, hall⟩ | ⟨i, hi, rfl, hq, hall⟩
  · have := hall (groupL l k) (List.mem_map.2 ⟨k, hk, rfl⟩)
    rw [(ownQ_eq hg hk).2 q3] at this; cases this
  · have hi' : i < (leftK l done).length := by omega
    have hgi : (leftL l done)[i] = groupL l (leftK l done)[i] := by simp [leftL]
    have hmi := List.getElem_mem hi'
    obtain ⟨m1, m2, m3⟩ := (mem_leftK hg).1 hmi
    rw [hgi] at hq
    have hle := q4 _ m1 m2 ((ownQ_eq hg hmi).1 hq)
    have hij : i ≤ j := by
      rcases Nat.lt_or_ge j i with h | h
      · have : groupL l k ∈ (leftL l done).take i := by
          rw [leftL, ← List.map_take]
          exact List.mem_map.2 ⟨k, by rw [← hjk]; exact List.mem_take_iff_getElem.2 ⟨j, by omega, rfl⟩, rfl⟩
        have := hall _ this
        rw [(ownQ_eq hg hk).2 q3] at this; cases this
      · exact h
    have hik : (leftK l done)[i] = k := by
      rcases Nat.lt_or_eq_of_le hij with h | h
      · have := List.pairwise_iff_getElem.1 hks i j hi' hj h
        omega
      · subst h; exact hjk
    refine ⟨i, k, hi, rfl, hn, by rw [hgi, hik], ?_⟩
    have e : leftK l (done ++ groupL l k) = (leftK l done).take i ++ (leftK l done).drop (i + 1) := by
      have e1 : leftK l (done ++ groupL l k) = (leftK l done).filter fun x => decide (x ∉ groupL l k) := by
        simp only [leftK, List.filter_filter]
        congr 1; funext x; simp [Bool.and_comm]
      have hsplit : leftK l done = (leftK l done).take i ++ k :: (leftK l done).drop (i + 1) := by
        rw [← hik, ← List.drop_eq_getElem_cons hi', List.take_append_drop]
      have hkg : k ∈ groupL l k := self_groupL hg q1
      have keep : ∀ x ∈ leftK l done, x ≠ k → x ∉ groupL l k := fun x hx hne hxg => by
        obtain ⟨a1, _, a3⟩ := (mem_leftK hg).1 hx
        obtain ⟨b1, _, b3⟩ := (mem_leftK hg).1 hk
        have := groupL_eq hg q1 hxg
        have := a3 k (by rw [this]; exact hkg)
        have := b3 x hxg
        omega
      rw [e1]
      conv => lhs; rw [hsplit]
      rw [List.filter_append, List.filter_cons, if_neg (by simpa using hkg)]
      have hp := hks
      rw [hsplit, List.pairwise_append, List.pairwise_cons] at hp
      congr 1
      · exact List.filter_eq_self.2 fun x hx => by simpa using keep x (List.mem_of_mem_take hx) (by have := hp.2.2 x hx k (by simp); omega)
      · exact List.filter_eq_self.2 fun x hx => by simpa using keep x (List.mem_of_mem_drop hx) (by have := hp.2.1.1 x hx; omega)
    rw [leftL, ← List.map_take, ← List.map_drop, ← List.map_append, ← e]; rfl
theorem left_end {done : List Int} (hc : Cl l done) (h : leftL l done = []) (f : Nat) : groupsF l f done = [] := by
  cases f with
  | zero => rfl
  | succ f =>
    cases hn : nextK l done with
    | none => simp [groupsF, hn]
    | some k =>
      have := left_next hg hc hn
      simp only [leftL, List.map_eq_nil_iff] at h
      rw [h] at this; cases this
end

/-- the question that 'groups' asks of each group left -/
theorem groups1_ok {h : Heap} {b1 b2 : Nat} {v w x : V} {l : List (List Int)} {F Ft Gx : List Nat} {done own : List Int} (hb1 : h[b1]? = some ⟨.own, [w]⟩) (hb2 : h[b2]? = some ⟨.own, [v]⟩) (hs : SdF h v l F) (hg : linksB l = true) (ht : SdF h w done Ft) (hx : SdF h x own Gx)
    {a : Int} {r : List Int} (ho : own = a :: r) (ha : InR l a) (hl : done.length + own.length ≤ 2 ^ 20) : ∃ h', call p 574 [x, .ptr b1 0, .ptr b2 0] h = some (.bool (ownQ l done own), h') ∧ Keeps h h' ∧ h.length ≤ h'.length := by
  have r1 : rdH h b1 0 1 = some [w] := by rw [rdH_at hb1 (by simp)]; rfl
  have r2 : rdH h b2 0 1 = some [v] := by rw [rdH_at hb2 (by simp)]; rfl
  have hp : 0 < own.length := by rw [ho]; simp
  have i0 := hx.sl.idx 1 .i64 0 hp
  have e0 := hx.sl.loadI 0 hp
  have h00 : own[0] = a := by simp [ho]
  rw [h00] at e0
  simp at i0 e0
  have kl := Keeps.append h [⟨.own, [w, x]⟩]
  have hr : Reps h [done, own] [w, x] (Ft ++ Gx) := by
    have a : Reps h [done] [w] Ft := .one (show Data.rep h done [w] Ft from ⟨w, rfl, ht⟩)
    have b : Reps h [own] [x] Gx := .one (show Data.rep h own [x] Gx from ⟨x, rfl, hx⟩)
    exact a.append b
  have hls := SdF.lit hr 2 rfl (by simp)
  have hfl : [done, own].flatten = done ++ own := by simp
  obtain ⟨o, h1, e1, G1, s1, f1, k1, l1⟩ := concat_ok hls (by rw [hfl]; simp; omega)
  rw [hfl] at s1
  have k01 := kl.trans k1
  obtain ⟨o2, h2, e2, G2, s2, f2, k2, l2⟩ := reach_ok (hs.keep k01) hg a ha
  obtain ⟨_, h3, e3, rfl, k3, l3⟩ := hasAll_ok (s1.keep k2).sl s2.sl
  have q0 : ownQ l done own = (reachL l a).all fun n => decide (n ∈ done ++ own) := by rw [ho]; rfl
  rw [q0]
  generalize (reachL l a).all (fun n => decide (n ∈ done ++ own)) = q at e3 ⊢
  have : ∃ r h'', call p 574 [x, .ptr b1 0, .ptr b2 0] h = some (r, h'') ∧ r = .bool q ∧ h'' = h3 := by
    refine go (fn := g574) rfl rfl fun R hR => ?_
    have t2 := rdH_keep k01 r2
    have t0 := rdH_keep k01 e0
    have t2' := rdH_keep kl r2
    have t0' := rdH_keep kl e0
    simp [g574, r1, r2, i0, e0, ht.cells, ht.cell, hx.cells, hx.cell, fillL, e1, e2, e3, stable, t2, t0, t2', t0']
    exact hR _ _ ⟨rfl, rfl⟩
  obtain ⟨_, _, e, rfl, rfl⟩ := this
  simp at l1
  exact ⟨_, e, (k01.trans k2).trans k3, by omega⟩
end GL

namespace GL
open Go

theorem OdF.keep {α : Type} [Data α] {lo : Nat} {h h' : Heap} {v : V} {xs : List α} {G : List Nat} (o : OdF lo h v xs G) (hk : Keeps h h') (hl : h.length ≤ h'.length) : OdF lo h' v xs G :=
  ⟨o.1.keeps (hk.p fun _ => True) (fun _ _ => trivial) (fun _ _ => trivial) hl, o.2.keeps (hk.p _)⟩

/-- the groups of the first nodes that are the least of theirs -/
noncomputable def leftN (l : List (List Int)) (i : Nat) : List (List Int) := ((((List.range i).map fun (j : Nat) => (j : Int)).filter fun k => decide ((groupL l k)[0]? = some k))).map (groupL l)
theorem leftN_succ (l : List (List Int)) (i : Nat) : leftN l (i + 1) = if (groupL l (i : Int))[0]? = some (i : Int) then leftN l i ++ [groupL l (i : Int)] else leftN l i := by
  simp only [leftN, List.range_succ, List.map_append, List.filter_append, List.map_cons, List.map_nil]
  split
  · rename_i h; simp [List.filter_cons, h]
  · rename_i h; simp [List.filter_cons, h]
theorem leftN_len (l : List (List Int)) (i : Nat) : (leftN l i).length ≤ i := by
  simp only [leftN, List.length_map]
  exact Nat.le_trans (List.length_filter_le ..) (by simp)
theorem leftN_all (l : List (List Int)) : leftN l l.length = leftL l [] := by
  simp [leftN, leftL, leftK, reps, nodes]

theorem groups_fst {v : V} {l : List (List Int)} {F : List Nat} {h : Heap} (hs : SdF h v l F) (hg : linksB l = true) (s0 : S) (K : Ex → S → Prop) (g1 : s0.σ 1 = .v (.ptr h.length 0)) (g3 : s0.σ 3 = .v (.slice (h.length + 1) 0 0 (.k 0))) (g11 : s0.σ 11 = .v (vi l.length)) (g12 : s0.σ 12 = .v (vi 0))
    (gh : s0.h = h ++ [(⟨.own, [v]⟩ : Blk), ⟨.own, []⟩])
    (hK : ∀ s v3 G3, (∀ k, k ∉ [3, 4, 5, 12, 13, 14, 15, 16, 17, 18, 19, 20, 21, 22, 23, 24, 25, 26, 27] → s.σ k = s0.σ k) → s.σ 3 = .v v3 → OdF (h.length + 1) s.h v3 (leftL l []) G3 → Keeps (h ++ [(⟨.own, [v]⟩ : Blk)]) s.h → h.length + 1 ≤ s.h.length → K (.exit 0) s) : Wc p (.loop g557_0) s0 K := by
  obtain ⟨l12, _⟩ := linksB_facts hg
  refine Wc_upM (M := [3, 4, 5, 12, 13, 14, 15, 16, 17, 18, 19, 20, 21, 22, 23, 24, 25, 26, 27]) rfl l.length (fun i s => i ≤ l.length ∧ s.σ 12 = .v (vi i) ∧ (∃ v3 G3, s.σ 3 = .v v3 ∧ OdF (h.length + 1) s.h v3 (leftN l i) G3) ∧ Keeps (h ++ [(⟨.own, [v]⟩ : Blk)]) s.h ∧ h.length + 1 ≤ s.h.length) 0
    ⟨by omega, g12, ⟨_, [], g3, by rw [gh]; exact OdF.empty (Nat.le_refl _) (by simp)⟩, by
      rw [gh]; have := Keeps.append (h ++ [(⟨.own, [v]⟩ : Blk)]) [⟨.own, []⟩]; simpa using this, by rw [gh]; simp⟩ fun i s ⟨gi, g12, ⟨v3, G3, g3, ho⟩, hk, hl⟩ hM J hJ => ?_
  have hkh : Keeps h s.h := (Keeps.append h [(⟨.own, [v]⟩ : Blk)]).trans hk
  by_cases hn : i < l.length
  · have hb1 : s.h[h.length]? = some ⟨.own, [v]⟩ := hk _ _ (get_last _ _) (by simp)
    have r1 : rdH s.h h.length 0 1 = some [v] := by rw [rdH_at hb1 (by simp)]; rfl
    have hin : InR l (i : Int) := ⟨by omega, by omega⟩
    obtain ⟨r, h2, e2, G, s2, f2, k2, l2⟩ := group_ok (hs.keep hkh) hg (i : Int) hin
    have hp : 0 < (groupL l (i : Int)).length := List.length_pos_of_mem (self_groupL hg hin)
    have i0 := s2.sl.idx 1 .i64 0 hp
    have e0 := s2.sl.loadI 0 hp
    simp at i0 e0
    have hlen := leftN_len l i
    have w1 : IntKind.i64.wrap ((i : Int) + 1) = (i + 1 : Nat) := by rw [IntWalk.i64_in] <;> omega
    have ix : (groupL l (i : Int))[0]? = some (groupL l (i : Int))[0] := List.getElem?_eq_getElem hp
    by_cases he : (groupL l (i : Int))[0] = (i : Int)
    · obtain ⟨v4, h3, e3, o3, kk3, l3⟩ := ho.one k2 l2 f2 (x := groupL l (i : Int)) (cs := [r]) ⟨r, rfl, s2⟩ (by omega) (k := 1) rfl (bytes := 24) (by decide)
      simp [g557_0, hM, g12, g11, g1, g3, hn, r1, e2, i0, e0, he, s2.cells, s2.cell, fillL, rdS_last, e3, w1, -Int.natCast_add]
      refine hJ _ hn ⟨hn, by simp, ⟨v4, G3 ++ G, by simp, ?_⟩, kk3 _ hk (by simp), by show h.length + 1 ≤ h3.length; omega⟩
      rw [leftN_succ, if_pos (by rw [ix, he])]; exact o3
    · simp [g557_0, hM, g12, g11, g1, g3, hn, r1, e2, i0, e0, he, w1, -Int.natCast_add]
      refine hJ _ hn ⟨hn, by simp, ⟨v3, G3, by simp [g3], ?_⟩, hk.trans k2, by show h.length + 1 ≤ h2.length; omega⟩
      rw [leftN_succ, if_neg (by rw [ix]; simpa using he)]; exact ho.keep k2 l2
  · have : i = l.length := by omega
    subst this
    rw [leftN_all] at ho
    simp [g557_0, hM, g12, g11]
    exact hK _ v3 G3 (fun k hk => by simp only [List.mem_cons, not_or] at hk; simp [hk, hM]) (by simp [g3]) ho hk hl
end GL

namespace GL
open Go

theorem leftL_mem {l : List (List Int)} (hg : linksB l = true) {done own : List Int} (h : own ∈ leftL l done) : ∃ a r, own = a :: r ∧ InR l a ∧ own = groupL l a := by
  obtain ⟨k, hk, rfl⟩ := List.mem_map.1 h
  obtain ⟨h1, h2, h3⟩ := (mem_leftK hg).1 hk
  have h4 := (rising_head (groupL_rising l k) (self_groupL hg h1)).2 h3
  cases he : groupL l k with
  | nil => rw [he] at h4; simp at h4
  | cons a r => rw [he] at h4; simp at h4; subst h4; exact ⟨a, r, rfl, h1, he.symm⟩
theorem leftL_len {l : List (List Int)} (hg : linksB l = true) (done : List Int) : (leftL l done).length ≤ l.length := by
  rw [leftL, List.length_map]
  exact rising_len (leftK_rising l done) fun x hx => ((mem_leftK hg).1 hx).1

theorem groups_snd {v : V} {l : List (List Int)} {F : List Nat} {h H1 : Heap} (hs : SdF h v l F) (hg : linksB l = true) (s0 : S) (K : Ex → S → Prop) {v3 : V} {G3 : List Nat} (g1 : s0.σ 1 = .v (.ptr h.length 0)) (g3 : s0.σ 3 = .v v3) (g6 : s0.σ 6 = .v (.slice H1.length 0 0 (.k 0))) (g7 : s0.σ 7 = .v (.ptr (H1.length + 2) 0))
    (ho : OdF (h.length + 1) H1 v3 (leftL l []) G3) (hk1 : Keeps (h ++ [(⟨.own, [v]⟩ : Blk)]) H1) (hl1 : h.length + 1 ≤ H1.length)
    (gh : s0.h = H1 ++ [(⟨.own, []⟩ : Blk), ⟨.own, []⟩, ⟨.own, [.slice (H1.length + 1) 0 0 (.k 0)]⟩])
    (hK : ∀ s v6 G, s.σ 6 = .v v6 → SdF s.h v6 (groupsL l) G → Keeps h s.h → h.length ≤ s.h.length → K (.exit 2) s) : Wc p (.loop g557_1) s0 K := by
  obtain ⟨l12, _⟩ := linksB_facts hg
  obtain ⟨F0, hsd0, hF0⟩ := ho.1.sd
  have hfr := ho.2
  -- where the list of what is left lies
  have form : leftL l [] = [] ∨ ∃ bl, v3 = .slice bl 0 (leftL l []).length (.o 1) ∧ OwnB H1 bl ∧ F0 = bl :: G3 ∧ bl ∉ G3 ∧ h.length + 1 ≤ bl := by
    obtain ⟨_, _, ⟨_, e, _⟩ | ⟨b, cs, e, hb, h3, hr, hn⟩ | ⟨b, _, e, _⟩⟩ := ho.1
    · exact .inl e
    · rcases hF0 with rfl | ⟨rfl, _⟩
      · by_cases h0 : leftL l [] = []
        · exact .inl h0
        · have := hsd0.bIn (List.length_pos_iff.2 h0)
          rw [e] at this; exact absurd this hn
      · refine .inr ⟨b, e, ⟨cs, hb⟩, by rw [e]; rfl, hn, h3⟩
    · exact .inl e
  obtain ⟨bl, hbl⟩ : ∃ bl, bl = bOf v3 := ⟨_, rfl⟩
  have hGlt : ∀ b ∈ G3, b < H1.length := fun b hb => (hfr.own b hb).lt
  refine Wc_dnM (M := [3, 6, 8, 30, 31, 32, 33, 34, 35, 36, 37, 38, 39, 40, 41, 42, 43, 44, 45, 46, 47, 48, 49, 50, 51, 52, 53]) rfl
    (fun m s => ∃ (done : List Int) (outs : List (List Int)) (v3 v6 vt : V) (FL GO : List Nat) (f : Nat), s.σ 3 = .v v3 ∧ s.σ 6 = .v v6 ∧ s.h[H1.length + 2]? = some ⟨.own, [vt]⟩ ∧ Out H1.length s.h vt done ∧ Od H1.length s.h v6 outs GO ∧
      (∀ b, vB v6 b → ¬ vB vt b ∧ b ≠ H1.length + 2) ∧ (∀ b, vB vt b → b ≠ H1.length + 2) ∧ (∀ b ∈ GO, b ∈ G3) ∧
      (leftL l done = [] ∨ (∃ off n, v3 = .slice bl off n (.o 1) ∧ SdF s.h v3 (leftL l done) FL ∧ OwnB s.h bl ∧ bl ∉ FL.tail ∧ (∀ b ∈ FL, b = bl ∨ b ∈ G3) ∧ bl ∉ G3 ∧ h.length + 1 ≤ bl ∧ bl < H1.length)) ∧ lenV v3 = some (leftL l done).length ∧
      KeepsP (fun b => b < H1.length ∧ (b = bl → bl < h.length + 1)) H1 s.h ∧ H1.length + 3 ≤ s.h.length ∧ l.length ≤ f + done.length ∧
      groupsL l = outs ++ groupsF l f done ∧ Cl l done ∧ done.Nodup ∧ outs.length + (leftL l done).length ≤ 100 ∧ m = (leftL l done).length) (leftL l []).length
    ⟨[], [], v3, .slice H1.length 0 0 (.k 0), .slice (H1.length + 1) 0 0 (.k 0), F0, [], l.length, g3, g6, by rw [gh]; simp, by rw [gh]; exact Out.empty (by omega) (by simp), by rw [gh]; exact Od.empty (Nat.le_refl _) (by simp), ?_, ?_, by simp, ?_, by rw [hsd0.len], by rw [gh]; exact (Keeps.append H1 _).p _, by rw [gh]; simp, by simp, by simp [groupsL], Cl.nil l, List.nodup_nil, by have := leftL_len hg []; simp; omega, rfl⟩ fun m s ⟨done, outs, v3, v6, vt, FL, GO, f, g3, g6, ht, hto, hoo, sp1, sp2, hGO, hleft, hlen, hk, hln, hfl, hgl, hcl, hnd, hcnt, hm⟩ hM J hJ => ?_
  · rintro b ⟨_, _, _, e⟩; injection e with e1; subst e1
    exact ⟨fun ⟨_, _, _, e⟩ => by injection e with e1; omega, by omega⟩
  · rintro b ⟨_, _, _, e⟩; injection e with e1; omega
  · rcases form with e | ⟨b, e, hb, hF, hnb, hge⟩
    · exact .inl e
    · have : bl = b := by rw [hbl, e]; rfl
      subst this
      have kk := Keeps.append H1 [(⟨.own, []⟩ : Blk), ⟨.own, []⟩, ⟨.own, [.slice (H1.length + 1) 0 0 (.k 0)]⟩]
      refine .inr ⟨0, _, e, by rw [gh]; exact hsd0.keep kk, by rw [gh]; exact hb.keep kk, by rw [hF]; exact hnb, fun b hb => ?_, hnb, hge, hb.lt⟩
      rw [hF] at hb
      exact List.mem_cons.1 hb
  have hk1h : Keeps h H1 := (Keeps.append h [(⟨.own, [v]⟩ : Blk)]).trans hk1
  have hkh : Keeps h s.h := Keeps.far (n := h.length) hk1h hk (Nat.le_refl _) fun b hb => ⟨by omega, fun e => by omega⟩
  by_cases he : leftL l done = []
  · have hfin : groupsL l = outs := by rw [hgl, left_end hg hcl he f, List.append_nil]
    obtain ⟨F', hF', _⟩ := hoo.sd
    rw [he] at hlen
    simp [g557_1, hM, g3, hlen]
    exact hK _ v6 F' (by simp [g6]) (by rw [hfin]; exact hF') hkh (by show h.length ≤ s.h.length; omega)
  · rcases hleft with h0 | ⟨off, n, rfl, hsd, hown, hnt, hFL, hbG, hge, hblt⟩
    · exact absurd h0 he
    have hb1 : s.h[h.length]? = some ⟨.own, [v]⟩ := hk _ _ ⟨by omega, by omega⟩ (hk1 _ _ (get_last _ _) (by simp)) (by simp)
    obtain ⟨Ft, hst, frt⟩ := hto.fr
    have hdl : done.length ≤ l.length := nodup_len hnd hcl.lt
    obtain ⟨_, h2, e2, kk, rfl, hfirst, k2, l2⟩ := indexLg_ok hsd (f := 574) (capt := [.ptr (H1.length + 2) 0, .ptr h.length 0]) (q := ownQ l done) fun h' hk' => fun x own G hmem hx => by
      obtain ⟨a, r, e, ha, e'⟩ := leftL_mem hg hmem
      exact groups1_ok (hk' _ _ ht (by simp)) (hk' _ _ hb1 (by simp)) (hs.keep (hkh.trans hk')) hg (hst.keep hk') hx e ha (by have := groupL_len hg ha; rw [e']; omega)
    obtain ⟨i, k, hi, rfl, hnext, hgi, herase⟩ := left_first hg hcl hfirst he
    obtain ⟨hkin, hknd, hkr, _⟩ := next_some hg hnext
    cases f with
    | zero =>
      exfalso
      have hnd2 : (k :: done).Nodup := List.nodup_cons.2 ⟨hknd, hnd⟩
      have := nodup_len (n := l.length) hnd2 fun y hy => by
        rcases List.mem_cons.1 hy with rfl | hy
        · exact hkin
        · exact hcl.lt y hy
      simp at this hfl; omega
    | succ f =>
    have hgl2 : groupsL l = (outs ++ [groupL l k]) ++ groupsF l f (done ++ groupL l k) := by
      rw [hgl]; simp [groupsF, hnext]
    have hkg : 0 < (groupL l k).length := List.length_pos_of_mem (self_groupL hg hkin)
    have hkl := groupL_len hg hkin
    -- the group, where it lies
    have hsd2 := hsd.keep k2
    obtain ⟨cs, F1, Gx, F3, ex, ⟨x, rfl, hx⟩, hFe⟩ := hsd2.load i hi
    rw [show i * Data.sz (List Int) = i from Nat.mul_one i] at ex
    change rdH _ _ _ 1 = _ at ex
    rw [hgi] at hx
    have hGx : ∀ b ∈ Gx, b ∈ G3 := fun b hb => by
      have h1 : b ∈ FL := by rw [hFe]; simp [hb]
      rcases hFL b h1 with rfl | h
      · exact absurd (by rw [hFe]; simp [hb]) hnt
      · exact h
    have ix := hsd.idx 1 .i64 i hi
    simp only [Nat.mul_one] at ix
    have ht2 := k2 _ _ ht (by simp)
    have rt2 : rdH h2 (H1.length + 2) 0 1 = some [vt] := by rw [rdH_at ht2 (by simp)]; rfl
    have kl : Keeps h2 (h2 ++ [⟨.own, [x]⟩]) := Keeps.append _ _
    have rt3 := rdH_keep kl rt2
    have ex3 := rdH_keep kl ex
    have no6 : ∀ b, b < H1.length → ¬ vB v6 b := fun b hb hv => by have := (hoo.ge hv).1; omega
    have noT : ∀ b, b < H1.length → ¬ vB vt b := fun b hb hv => by have := (hto.ge hv).1; omega
    have hoo3 : Od H1.length (h2 ++ [⟨.own, [x]⟩]) v6 outs GO := hoo.keeps ((k2.trans kl).p fun _ => True) (fun _ _ => trivial) (fun _ _ => trivial) (by simp; omega)
    obtain ⟨v6', h4, e4, o4, k4, l4, b4⟩ := hoo3.app (zs := [groupL l k]) (ys := [x]) (G := Gx) (by simp) (.one (show Data.rep _ (groupL l k) [x] Gx from ⟨x, rfl, hx.keep kl⟩)) (fun b hb => no6 b (hGlt b (hGx b hb))) (bytes := 24) (by decide) (by simp; omega) (k := 1) rfl (n := 1) rfl
    have ht4 : h4[H1.length + 2]? = some ⟨.own, [vt]⟩ := k4 _ _ (fun hv => (sp1 _ hv).2 rfl) (kl _ _ ht2 (by simp)) (by simp)
    have rt4 : rdH h4 (H1.length + 2) 0 1 = some [vt] := by rw [rdH_at ht4 (by simp)]; rfl
    have hx4 : SdF h4 x (groupL l k) Gx := (hx.keep kl).keeps (k4.mono fun b hb => no6 b (hGlt b (hGx b hb)))
    have hFlt : ∀ b ∈ FL, b < H1.length := fun b hb => by
      rcases hFL b hb with rfl | h
      · exact hblt
      · exact hGlt b h
    have hsd4 : SdF h4 (.slice bl off n (.o 1)) (leftL l done) FL := (hsd2.keep kl).keeps (k4.mono fun b hb => no6 b (hFlt b hb))
    have ex4 : rdH h4 (bOf (.slice bl off n (.o 1))) (oOf (.slice bl off n (.o 1)) + i) 1 = some [x] := by
      obtain ⟨blk, hb, hl⟩ := hsd2.lt (i := bl) (by rw [hFe]; simp [bOf])
      have h3b := kl _ _ hb hl
      have h4b := k4 _ _ (no6 _ hblt) h3b hl
      rw [rdH_at (by exact hb) hl] at ex
      rw [rdH_at (by exact h4b) hl]; exact ex
    have hto4 : Out H1.length h4 vt done := (hto.keeps ((k2.trans kl).p fun _ => True) (fun _ _ => trivial) (by simp; omega)).keeps k4 (fun b hb hv => (sp1 b hv).1 hb) (by simp at l4 ⊢; omega)
    have e5r := hx4.sl.rdS (groupL l k).length (Nat.le_refl _)
    rw [List.take_length] at e5r
    change rdS _ 1 _ _ = _ at e5r
    obtain ⟨vt', h5, e5, o5, k5, l5, b5⟩ := hto4.app (groupL l k) hkg (bytes := 8) (by decide) (by omega) (k := 1) rfl (n := (groupL l k).length) rfl rfl
    have ht5 : h5[H1.length + 2]? = some ⟨.own, [vt]⟩ := k5 _ _ (fun hv => sp2 _ hv rfl) ht4 (by simp)
    have e6 : wrH h5 (H1.length + 2) 0 [vt'] = some (h5.set (H1.length + 2) ⟨.own, [vt']⟩) := by rw [wrH_at ht5 rfl]; rfl
    have hlt5 := get_lt ht5
    have k6 : KeepsP (fun b => b ≠ H1.length + 2) h5 (h5.set (H1.length + 2) ⟨.own, [vt']⟩) := fun c blk hc hb2 _ => by rw [List.getElem?_set_ne (Ne.symm hc)]; exact hb2
    have low : KeepsP (fun b => b < H1.length) h4 (h5.set (H1.length + 2) ⟨.own, [vt']⟩) := (k5.mono fun b hb => noT b hb).trans (k6.mono fun b hb => by omega)
    have hsd6 := hsd4.keeps (low.mono hFlt)
    have hown6 : OwnB (h5.set (H1.length + 2) ⟨.own, [vt']⟩) bl := ((((hown.keep k2).keep kl).keeps k4 (no6 _ hblt))).keeps low hblt
    obtain ⟨_, h7, e7, F7, rfl, s7, q7, n7, _, ow7, k7, l7⟩ := deleteL_ok hsd6 hnt hown6 hi (by have := leftL_len hg done; omega)
    rw [herase] at s7
    have hlv := s7.len
    have hcnt2 : (leftL l (done ++ groupL l k)).length + 1 = (leftL l done).length := by
      rw [← herase]; simp; omega
    have w1 : IntKind.i64.wrap ((i : Int) + 1) = (i + 1 : Nat) := by rw [IntWalk.i64_in] <;> omega
    have lo4 : KeepsP (fun b => b < H1.length) s.h h4 := ((k2.trans kl).p _).trans (k4.mono no6)
    have lo7 : KeepsP (fun b => b < H1.length ∧ (b = bl → bl < h.length + 1)) s.h h7 := ((lo4.trans low).mono fun b hb => hb.1).trans (k7.mono fun b hb e => by have := hb.2 e; omega)
    simp only [bOf, oOf] at ix ex ex3 ex4
    have lpos : (0 : Int) < (leftL l done).length := by omega
    simp [g557_1, hM, g1, g3, g6, g7, hlen, hi, Nat.pos_of_ne_zero (show (leftL l done).length ≠ 0 by omega), e2, ix, ex, rt2, hx.cells, hx.cell, fillL, stable, rt3, ex3, rdS_last, e4, rt4, ex4, hx4.len, e5r, e5, o5.sl.cells, o5.sl.cell, e6, w1, e7, -Int.natCast_add]
    have n3lt : H1.length + 2 < s.h.length := get_lt ht
    simp only [List.length_append, List.length_singleton] at l4 b4
    have vb6 : ∀ b, vB v6' b → b = h2.length + 1 := fun b hb => by have := b4 b hb; simpa using this
    have g7lt : ∀ b ∈ GO ++ Gx, b ∈ G3 := fun b hb => by
      rcases List.mem_append.1 hb with h | h
      · exact hGO b h
      · exact hGx b h
    have k47 : KeepsP (fun b => ¬ vB vt b ∧ b ≠ H1.length + 2 ∧ b ≠ bl) h4 h7 := ((k5.mono fun b hb => hb.1).trans (k6.mono fun b hb => hb.2.1)).trans (k7.mono fun b hb => hb.2.2)
    have l47 : h4.length ≤ h7.length := by rw [l7]; simp; omega
    refine hJ (leftL l (done ++ groupL l k)).length _ (by omega) ⟨done ++ groupL l k, outs ++ [groupL l k], .slice bl off (n - 1) (.o 1), v6', vt', F7, GO ++ Gx, f, by simp, by simp, ?_, ?_, ?_, ?_, ?_, g7lt, .inr ⟨off, n - 1, rfl, s7, ow7, n7, fun b hb => hFL b (q7 b hb), hbG, hge, hblt⟩, hlv, hk.trans lo7, by show H1.length + 3 ≤ h7.length; omega, by simp; omega, hgl2, hcl.next hg hkin hkr, nodup_next hg hcl hnd hkin hknd, by simp; omega, rfl⟩
    · exact k7 _ _ (by omega) (by simp [hlt5]) (by simp)
    · exact (o5.keeps k6 (fun b hb => by have := b5 b hb; omega) (by simp)).keeps k7 (fun b hb => by have := b5 b hb; omega) (by rw [l7]; exact Nat.le_refl _)
    · refine o4.keeps k47 (fun b hb => ⟨fun hv => ?_, ?_, ?_⟩) (fun b hb => ⟨noT b (hGlt b (g7lt b hb)), ?_, fun e => hbG (by rw [← e]; exact g7lt b hb)⟩) l47
      · have := vb6 b hb; have := (hto.ge hv).2; omega
      · have := vb6 b hb; omega
      · have := vb6 b hb; omega
      · have := hGlt b (g7lt b hb); omega
    · intro b hb
      have := vb6 b hb
      exact ⟨fun hv => by have := b5 b hv; omega, by omega⟩
    · intro b hb
      have := b5 b hb; omega
end GL

namespace GL
open Go

theorem groups_ok {v : V} {l : List (List Int)} {F : List Nat} {h : Heap} (hs : SdF h v l F) (hg : linksB l = true) :
    ∃ r h', call p 557 [v] h = some (r, h') ∧ ∃ G, SdF h' r (groupsL l) G ∧ Keeps h h' ∧ h.length ≤ h'.length := by
  refine go (fn := g557) rfl rfl fun R hR => ?_
  have r1 : rdH (h ++ [(⟨.own, [v]⟩ : Blk), ⟨.own, []⟩]) h.length 0 1 = some [v] := by
    rw [rdH_at (blk := ⟨.own, [v]⟩) (by simp) (by simp)]; rfl
  simp [g557, hs.cells, hs.cell, fillL, r1, hs.len]
  refine groups_fst hs hg _ _ (by simp) (by simp) (by simp) (by simp) rfl fun s v3 G3 hM g3 ho hk hl => ?_
  have e1 : wrH (s.h ++ [(⟨.own, []⟩ : Blk), ⟨.own, []⟩, ⟨.own, [.nils]⟩]) (s.h.length + 2) 0 [V.slice (s.h.length + 1) 0 0 (.k 0)] = some (s.h ++ [(⟨.own, []⟩ : Blk), ⟨.own, []⟩, ⟨.own, [V.slice (s.h.length + 1) 0 0 (.k 0)]⟩]) := by
    rw [wrH_at (blk := ⟨.own, [.nils]⟩) (by simp) rfl]
    simp [lay]
  simp [hM, g3, fillL, e1]
  refine groups_snd hs hg _ _ (by simp [hM]) (by simp [g3]) (by simp) (by simp) ho hk hl (by simp) fun s2 v6 G g6 h6 k6 l6 => ?_
  simp [g6]
  exact hR _ _ ⟨G, h6, k6, l6⟩

theorem groupsL_facts {l : List (List Int)} (hg : linksB l = true) : (groupsL l).flatten.Nodup ∧ (∀ x, InR l x ↔ x ∈ (groupsL l).flatten) ∧ ∀ i (hi : i < (groupsL l).length), ∃ k, InR l k ∧ (groupsL l)[i] = groupL l k ∧ ∀ x, Rch l k x → x ∈ ((groupsL l).take (i + 1)).flatten := by
  have := groupsF_spec hg l.length [] (Cl.nil l) List.nodup_nil (by simp)
  simpa [groupsL] using this
theorem groupsL_flat {l : List (List Int)} (hg : linksB l = true) : (groupsL l).flatten.length = l.length := by
  obtain ⟨h1, h2, _⟩ := groupsL_facts hg
  have a := nodup_len (n := l.length) h1 fun x hx => (h2 x).2 hx
  have nd : (nodes l).Nodup := (nodes_rising l).imp fun h => by omega
  have b := nd.length_le_of_subset (l₂ := (groupsL l).flatten) fun x hx => (h2 x).1 (mem_nodes.1 hx)
  have c : (nodes l).length = l.length := by simp [nodes]
  omega
end GL

namespace GL
open Go

theorem readyB_iff (l : List (List Int)) (ds done : List Int) (hm : ∀ x, x ∈ ds ↔ x ∈ done) (k : Int) : ((reachL l k).all fun x => decide (x ∈ ds) || decide (x ∈ groupL l k)) = decide (readyB l done k) := by
  rw [Bool.eq_iff_iff, decide_eq_true_iff]
  simp [readyB, hm]
theorem next_first {l : List (List Int)} {done : List Int} {k : Nat} (hk : k < l.length) (h1 : (k : Int) ∉ done) (h2 : readyB l done k) (hall : ∀ j : Nat, j < k → (j : Int) ∈ done ∨ ¬ readyB l done j) : nextK l done = some (k : Int) := by
  refine List.find?_eq_some_iff_append.2 ⟨by simp [h1, h2], ((List.range k).map fun (i : Nat) => (i : Int)), ((List.range (l.length - (k + 1))).map fun (i : Nat) => ((k + 1 + i : Nat) : Int)), ?_, ?_⟩
  · unfold nodes
    have : l.length = k + (1 + (l.length - (k + 1))) := by omega
    conv => lhs; rw [this, List.range_add, List.range_add]
    simp [List.map_map, Function.comp_def, Nat.add_assoc]
  · intro a ha
    obtain ⟨j, hj, rfl⟩ := List.mem_map.1 ha
    rw [List.mem_range] at hj
    rcases hall j hj with h | h <;> simp [h]

theorem l9Groups_ok {v : V} {l : List (List Int)} {F : List Nat} {h : Heap} (hs : SdF h v l F) (hg : linksB l = true) :
    ∃ r h', call p 558 [v] h = some (r, h') ∧ ∃ G, SdF h' r (groupsL l) G ∧ Keeps h h' ∧ h.length ≤ h'.length := by
  obtain ⟨l12, _⟩ := linksB_facts hg
  refine go (fn := g558) rfl rfl fun R hR => ?_
  simp [g558]
  refine Wc_dnM (M := [3, 4, 5, 6, 7, 9, 11, 12, 13, 14, 15, 16, 17, 18, 19, 20, 21, 22, 23, 24, 25, 26, 27, 28, 29, 30, 31, 32, 33, 34, 35, 36, 37, 38, 39, 40, 41, 42, 43, 44, 45, 46, 47, 48, 49, 50, 51, 52, 53, 54, 55, 56, 57, 58, 59, 60, 61, 62, 63]) rfl
    (fun m s => ∃ (done ds : List Int) (outs : List (List Int)) (v3 v4 : V) (Go Gd : List Nat) (f : Nat), s.σ 3 = .v v3 ∧ s.σ 4 = .v v4 ∧ Od h.length s.h v3 outs Go ∧ SdF s.h v4 ds Gd ∧ (∀ b ∈ Gd, ¬ vB v3 b) ∧ ds.Pairwise (· < ·) ∧ (∀ x, x ∈ ds ↔ x ∈ done) ∧ ds.length = done.length ∧
      Keeps h s.h ∧ h.length ≤ s.h.length ∧ l.length ≤ f + done.length ∧ groupsL l = outs ++ groupsF l f done ∧ Cl l done ∧ done.Nodup ∧ outs.length ≤ done.length ∧ m = l.length - done.length) l.length
    ⟨[], [], [], .nils, .nils, [], [], l.length, by simp, by simp, Od.nil (Nat.le_refl _), SdF.nil, by simp, by simp, by simp, rfl, Keeps.refl _, Nat.le_refl _, by simp, by simp [groupsL], Cl.nil l, List.nodup_nil, by simp, by simp⟩ fun m s ⟨done, ds, outs, v3, v4, Go, Gd, f, g3, g4, hoo, hsd, hsep, hri, hmem, hlen, hk, hl, hf, hgl, hcl, hnd, hol, hm⟩ hM J hJ => ?_
  have hdl : done.length ≤ l.length := nodup_len hnd hcl.lt
  by_cases hlt : done.length < l.length
  · -- there is a next one
    have hex : ∃ k, nextK l done = some k := by
      cases hn : nextK l done with
      | some k => exact ⟨k, rfl⟩
      | none =>
        have nd : (nodes l).Nodup := (nodes_rising l).imp fun h => by omega
        have b := nd.length_le_of_subset (l₂ := done) fun x hx => next_none hg hn (mem_nodes.1 hx)
        have c : (nodes l).length = l.length := by simp [nodes]
        omega
    have hlt2 : (ds.length : Int) < l.length := by omega
    simp [g558_3, hM, g4, hsd.len, hs.len, hlt2]
    refine Wc_upM (M := [3, 4, 5, 6, 7, 9, 11, 19, 20, 21, 22, 23, 24, 25, 26, 27, 28, 29, 30, 31, 32, 33, 34, 35, 36, 37, 38, 39, 40, 41, 42, 43, 44, 45, 46, 47, 48, 49, 50, 51, 52, 53, 54, 55, 56, 57, 58, 59, 60, 61, 62, 63]) rfl l.length
      (fun k t => t.σ 19 = .v (vi k) ∧ t.σ 3 = .v v3 ∧ t.σ 4 = .v v4 ∧ Keeps s.h t.h ∧ s.h.length ≤ t.h.length ∧ ∀ j : Nat, j < k → j < l.length → (j : Int) ∈ done ∨ ¬ readyB l done j) 0
      ⟨by simp, by simp [g3], by simp [g4], Keeps.refl _, Nat.le_refl _, by simp⟩ fun k t ⟨g19, g3, g4, kt, lt, hall⟩ hM2 J2 hJ2 => ?_
    by_cases hkl : k < l.length
    · have hin : InR l (k : Int) := ⟨by omega, by omega⟩
      have hsdt := hsd.keep kt
      have e1 := l1Has_eq hsdt.sl (k : Int)
      have w1 : IntKind.i64.wrap ((k : Int) + 1) = (k + 1 : Nat) := by rw [IntWalk.i64_in] <;> omega
      by_cases hkd : (k : Int) ∈ done
      · rw [decide_eq_true ((hmem _).2 hkd)] at e1
        simp [g558_2, hM2, hM, g19, g4, hkl, e1, w1, -Int.natCast_add]
        refine hJ2 _ hkl ⟨by simp, by simp [g3], by simp [g4], kt, lt, fun j hj hjl => ?_⟩
        rcases Nat.lt_or_eq_of_le (Nat.le_of_lt_succ hj) with h | rfl
        · exact hall j h hjl
        · exact .inl hkd
      · rw [decide_eq_false (fun h => hkd ((hmem _).1 h))] at e1
        have hst := (hs.keep hk).keep kt
        obtain ⟨x, h2, e2, o2, k2, l2⟩ := l9Group_ok hst hg (k : Int) hin
        obtain ⟨y, h3, e3, G3, s3, k3, l3⟩ := l9Reach_ok (hst.keep k2) hg (k : Int) hin
        simp [g558_2, hM2, hM, g19, g4, hkl, e1, e2, e3, s3.len]
        -- is it ready?
        refine Wc_upM (M := [7, 9, 32, 33, 34, 35, 36, 37, 38, 39, 40, 41, 42, 43, 44, 45, 46, 47]) rfl (reachL l (k : Int)).length
          (fun i u => u.σ 32 = .v (vi i) ∧ u.h = h3 ∧ u.σ 7 = .v (.bool (((reachL l (k : Int)).take i).all fun x => decide (x ∈ ds) || decide (x ∈ groupL l k)))) 0 (by simp) fun i u ⟨g32, gh, g7⟩ hM3 J3 hJ3 => ?_
        have hsd3 := (hsdt.keep k2).keep k3
        have o3 := o2.keeps (k3.p fun _ => True) (fun _ _ => trivial) l3
        by_cases hi : i < (reachL l (k : Int)).length
        · have a1 := l1Has_eq hsd3.sl (reachL l (k : Int))[i]
          have a2 := l1Has_eq o3.sl (reachL l (k : Int))[i]
          have ix := s3.idx 1 .i64 i hi
          simp only [Nat.mul_one] at ix
          have ex := s3.sl.loadI i hi
          have ht : (((reachL l (k : Int)).take (i + 1)).all fun x => decide (x ∈ ds) || decide (x ∈ groupL l k)) = ((((reachL l (k : Int)).take i).all fun x => decide (x ∈ ds) || decide (x ∈ groupL l k)) && (decide ((reachL l (k : Int))[i] ∈ ds) || decide ((reachL l (k : Int))[i] ∈ groupL l k))) := by
            rw [List.take_succ_eq_append_getElem hi]; simp only [List.all_append, List.all_cons, List.all_nil, Bool.and_true]
          generalize decide ((reachL l (k : Int))[i] ∈ ds) = q2 at a1 ht
          generalize decide ((reachL l (k : Int))[i] ∈ groupL l k) = q3 at a2 ht
          generalize (((reachL l (k : Int)).take i).all fun x => decide (x ∈ ds) || decide (x ∈ groupL l k)) = q1 at g7 ht
          cases q1 <;> cases q2 <;> cases q3 <;>
          · simp [g558_0, hM3, hM2, hM, g32, gh, g7, g4, hi, ix, ex, a1, a2, s3.step hi]
            exact hJ3 _ hi ⟨by simp, rfl, by rw [ht]; simp⟩
        · rw [List.take_of_length_le (by omega), readyB_iff l ds done hmem] at g7
          by_cases hr : readyB l done (k : Int)
          · rw [decide_eq_true hr] at g7
            have hnext := next_first hkl hkd hr fun j hj => hall j hj (by omega)
            cases f with
            | zero => omega
            | succ f =>
            have hgl2 : groupsL l = (outs ++ [groupL l (k : Int)]) ++ groupsF l f (done ++ groupL l (k : Int)) := by
              rw [hgl]; simp [groupsF, hnext]
            have hkg : 0 < (groupL l (k : Int)).length := List.length_pos_of_mem (self_groupL hg hin)
            have hkln := groupL_len hg hin
            have kk3 : Keeps s.h h3 := (kt.trans k2).trans k3
            have kl : Keeps h3 (h3 ++ [⟨.own, [x]⟩]) := Keeps.append _ _
            obtain ⟨Gx, sx, fx⟩ := o3.fr
            have no3 : ∀ b ∈ Gx, ¬ vB v3 b := fun b hb hv => by have := (hoo.ge hv).2; have := fx.ge b hb; omega
            have hoo3 : Od h.length (h3 ++ [⟨.own, [x]⟩]) v3 outs Go := hoo.keeps ((kk3.trans kl).p fun _ => True) (fun _ _ => trivial) (fun _ _ => trivial) (by simp; omega)
            obtain ⟨v3', h4, e4, o4, k4, l4, b4⟩ := hoo3.app (zs := [groupL l (k : Int)]) (ys := [x]) (G := Gx) (by simp) (.one (show Data.rep _ (groupL l (k : Int)) [x] Gx from ⟨x, rfl, sx.keep kl⟩)) no3 (bytes := 24) (by decide) (by simp; omega) (k := 1) rfl (n := 1) rfl
            have sx4 : SdF h4 x (groupL l (k : Int)) Gx := (sx.keep kl).keeps (k4.mono no3)
            have hsd4 : SdF h4 v4 ds Gd := (hsd3.keep kl).keeps (k4.mono hsep)
            simp only [List.length_append, List.length_singleton] at l4 b4
            have kk4 : Keeps h h4 := Keeps.far (n := h.length) (hk.trans (kk3.trans kl)) k4 (Nat.le_refl _) fun b hb hv => by have := (hoo.ge hv).1; omega
            have hc1 := sx.cells
            have hc2 := sx.cell
            have w1' := w1
            simp [g558_0, hM3, hM2, hM, g32, gh, g7, hi, g3, hc1, hc2, fillL, rdS_last, e4, sx4.len]
            refine Wc_upM (M := [4, 11, 55, 56, 57, 58, 59, 60, 61, 62]) rfl (groupL l (k : Int)).length
              (fun j u => j ≤ (groupL l (k : Int)).length ∧ u.σ 55 = .v (vi j) ∧ ∃ (ds2 : List Int) (v5 : V) (G5 : List Nat), u.σ 4 = .v v5 ∧ SdF u.h v5 ds2 G5 ∧ (∀ b ∈ G5, ¬ vB v3' b) ∧ ds2.Pairwise (· < ·) ∧ (∀ y, y ∈ ds2 ↔ y ∈ ds ∨ y ∈ (groupL l (k : Int)).take j) ∧ ds2.length ≤ ds.length + j ∧ Keeps h4 u.h ∧ h4.length ≤ u.h.length) 0
              ⟨by omega, by simp, ds, v4, Gd, by simp [hM3, g4], hsd4, fun b hb hv => ?_, hri, by simp, by simp, Keeps.refl _, Nat.le_refl _⟩ fun j u ⟨gj, g55, ds2, v5, G5, g4', s5, sep5, r5, m5, n5, k5, l5⟩ hM4 J4 hJ4 => ?_
            · have e := b4 b hv
              obtain ⟨blk, hb1, _⟩ := hsd3.lt hb
              have := get_lt hb1; omega
            · by_cases hj : j < (groupL l (k : Int)).length
              · have sxu := sx4.keep k5
                have ij := sxu.idx 1 .i64 j hj
                simp only [Nat.mul_one] at ij
                have ej := sxu.sl.loadI j hj
                obtain ⟨v7, h7, e7, ds3, G7, s7, r7, m7, n7, G7s, k7, l7⟩ := l1Put_ok s5 r5 (by omega) (groupL l (k : Int))[j]
                simp [g558_1, hM4, hM3, hM2, hM, g55, g4', hj, ij, ej, e7, sx4.step hj]
                refine hJ4 _ hj ⟨hj, by simp, ds3, v7, G7, by simp, s7, fun b hb hv => ?_, r7, fun y => ?_, by omega, k5.trans k7, by show h4.length ≤ h7.length; omega⟩
                · rcases G7s b hb with h | h
                  · exact sep5 b h hv
                  · have e := b4 b hv; omega
                · rw [m7, m5, mem_take_succ hj, or_assoc]
              · have hjl : j = (groupL l (k : Int)).length := by omega
                subst hjl
                simp only [List.take_length] at m5
                have hnd2 := nodup_next hg hcl hnd hin hkd
                have hmem2 : ∀ y, y ∈ ds2 ↔ y ∈ done ++ groupL l (k : Int) := fun y => by rw [m5, List.mem_append, hmem]
                have hlen2 : ds2.length = (done ++ groupL l (k : Int)).length := by
                  have nd5 : ds2.Nodup := r5.imp fun h => by omega
                  have a := nd5.length_le_of_subset (l₂ := done ++ groupL l (k : Int)) fun y hy => (hmem2 y).1 hy
                  have b := hnd2.length_le_of_subset (l₂ := ds2) fun y hy => (hmem2 y).2 hy
                  omega
                simp [g558_1, hM4, hM3, hM2, hM, g55]
                refine hJ (l.length - (done ++ groupL l (k : Int)).length) _ (by simp; omega) ⟨done ++ groupL l (k : Int), ds2, outs ++ [groupL l (k : Int)], v3', v5, Go ++ Gx, G5, f, by simp [hM4], by simp [g4'], ?_, s5, sep5, r5, hmem2, hlen2, kk4.trans k5, by show h.length ≤ u.h.length; omega, by simp; omega, hgl2, hcl.next hg hin hr, hnd2, by simp; omega, rfl⟩
                exact o4.keeps (k5.p fun _ => True) (fun _ _ => trivial) (fun _ _ => trivial) l5
          · rw [decide_eq_false hr] at g7
            simp [g558_0, hM3, hM2, hM, g32, gh, g7, hi, g19, w1, -Int.natCast_add]
            refine hJ2 _ hkl ⟨by simp, by simp [hM3, g3], by simp [hM3, g4], (kt.trans k2).trans k3, by show s.h.length ≤ h3.length; omega, fun j hj hjl => ?_⟩
            rcases Nat.lt_or_eq_of_le (Nat.le_of_lt_succ hj) with h | rfl
            · exact hall j h hjl
            · exact .inr hr
    · exfalso
      obtain ⟨k', hk'⟩ := hex
      obtain ⟨a1, a2, a3, _⟩ := next_some hg hk'
      have e : ((k'.toNat : Nat) : Int) = k' := by have := a1.1; omega
      rcases hall k'.toNat (by have := a1.2; omega) (by have := a1.2; omega) with h | h
      · rw [e] at h; exact a2 h
      · rw [e] at h; exact h a3
  · have hfin : groupsL l = outs := by
      have : groupsF l f done = [] := by
        cases f with
        | zero => rfl
        | succ f =>
          cases hn : nextK l done with
          | none => simp [groupsF, hn]
          | some k =>
            obtain ⟨a1, a2, _⟩ := next_some hg hn
            have hnd2 : (k :: done).Nodup := List.nodup_cons.2 ⟨a2, hnd⟩
            have := nodup_len (n := l.length) hnd2 fun y hy => by
              rcases List.mem_cons.1 hy with rfl | hy
              · exact a1
              · exact hcl.lt y hy
            simp at this; omega
      rw [hgl, this, List.append_nil]
    obtain ⟨F', hF', _⟩ := hoo.sd
    have hlt2 : ¬ (ds.length : Int) < l.length := by omega
    simp [g558_3, hM, g4, g3, hsd.len, hs.len, hlt2]
    exact hR _ _ ⟨F', by rw [hfin]; exact hF', hk, hl⟩
end GL

namespace GL
open Go

/-- an element is laid anew, whatever it leads to -/
theorem SdF.putX {α : Type} [Data α] {h : Heap} {v : V} {xs : List α} {F : List Nat} (hs : SdF h v xs F) (hn : ∀ G, F = bOf v :: G → bOf v ∉ G) (ho : OwnB h (bOf v)) {i : Nat} (hi : i < xs.length) {x' : α} {cs' : List V} {G' : List Nat} (hr : Data.rep h x' cs' G') (hG : bOf v ∉ G') :
    ∃ h' F', wrH h (bOf v) (oOf v + i * Data.sz α) cs' = some h' ∧ SdF h' v (xs.set i x') F' ∧ (∀ b ∈ F', b ∈ F ∨ b ∈ G') ∧ KeepsP (fun b => b ≠ bOf v) h h' ∧ h'.length = h.length ∧ ∀ b, OwnB h b → OwnB h' b := by
  have hlen0 := hs.1
  rcases hs with ⟨_, ⟨rfl, rfl, _⟩ | ⟨b, off, cap, rfl, hcap, hs⟩⟩
  · simp at hi
  · rcases hs with ⟨rfl, _⟩ | ⟨blk, cs, G, rfl, h1, h2, h3, h4⟩
    · simp at hi
    · obtain ⟨ds, hd⟩ := ho
      simp only [bOf, oOf] at hd ⊢
      rw [hd] at h1; cases h1
      have hbG : ∀ c ∈ G, c ≠ b := fun c hc e => by subst e; exact hn G rfl hc
      obtain ⟨F1, F2, F3, rfl, r2, r1, r3⟩ := h4.get i hi
      have hcl := h4.len
      have hle : (i + 1) * Data.sz α ≤ xs.length * Data.sz α := Nat.mul_le_mul_right _ hi
      have hs1 : (i + 1) * Data.sz α = i * Data.sz α + Data.sz α := by rw [Nat.add_mul, Nat.one_mul]
      have hcs : cs = cs.take (i * Data.sz α) ++ (cs.drop (i * Data.sz α)).take (Data.sz α) ++ cs.drop ((i + 1) * Data.sz α) := by
        rw [hs1, ← List.drop_drop, List.append_assoc, List.take_append_drop, List.take_append_drop]
      have hmid : ((cs.drop (i * Data.sz α)).take (Data.sz α)).length = Data.sz α := by simp; omega
      have hl : lay ((cs.drop (i * Data.sz α)).take (Data.sz α)) 0 cs' = some cs' := by
        unfold lay
        have hc' := Data.len hr
        rw [if_pos (by omega)]
        simp only [List.take_zero, List.nil_append, Nat.zero_add]
        rw [List.drop_of_length_le (by omega), List.append_nil]
      unfold cut at h3
      split at h3
      case isFalse => cases h3
      rename_i hle2
      simp only at hle2
      simp only [Option.some.injEq] at h3
      have hds : ds = ds.take off ++ cs ++ ds.drop (off + xs.length * Data.sz α) := by
        rw [← h3, ← List.drop_drop, List.append_assoc, List.take_append_drop, List.take_append_drop]
      have hol : (ds.take off).length = off := by simp; omega
      have htl : (cs.take (i * Data.sz α)).length = i * Data.sz α := by simp; omega
      have hl2 := layMid (a := cs.take (i * Data.sz α)) (b := cs.drop ((i + 1) * Data.sz α)) hl
      rw [← hcs, htl, Nat.add_zero] at hl2
      have hl3 := layMid (a := ds.take off) (b := ds.drop (off + xs.length * Data.sz α)) hl2
      rw [← hds, hol] at hl3
      have hb := get_lt hd
      have hk : KeepsP (fun c => c ≠ b) h (h.set b ⟨.own, ds.take off ++ (cs.take (i * Data.sz α) ++ cs' ++ cs.drop ((i + 1) * Data.sz α)) ++ ds.drop (off + xs.length * Data.sz α)⟩) := fun c blk hc hb2 _ => by
        rw [List.getElem?_set_ne (Ne.symm hc)]; exact hb2
      have hG'b : ∀ c ∈ G', c ≠ b := fun c hc e => hG (by simp only [bOf]; rw [← e]; exact hc)
      refine ⟨_, b :: (F1 ++ G' ++ F3), by rw [wrH_at hd rfl, hl3]; rfl, ⟨by simpa using hlen0, .inr ⟨b, off, cap, by simp, by simpa using hcap, .inr ⟨⟨.own, ds.take off ++ (cs.take (i * Data.sz α) ++ cs' ++ cs.drop ((i + 1) * Data.sz α)) ++ ds.drop (off + xs.length * Data.sz α)⟩, cs.take (i * Data.sz α) ++ cs' ++ cs.drop ((i + 1) * Data.sz α), _, rfl, by simp [hb], by simp, ?_, ?_⟩⟩⟩, fun c hc => by simp only [List.mem_cons, List.mem_append] at hc ⊢; rcases hc with h | (h | h) | h <;> simp [h], hk, by simp, fun c hc => hc.set hb⟩
      · have hll := (layLen hl2).1
        simp only [cut, List.length_set]
        rw [if_pos (by simp only [List.length_append] at hll ⊢; rw [hol, hll]; simp; omega)]
        rw [List.append_assoc, List.drop_append_of_le_length (by omega), List.drop_of_length_le (by omega), List.nil_append, List.take_append_of_le_length (by rw [hll]; omega), List.take_of_length_le (by rw [hll]; omega)]
      · have hset : xs.set i x' = xs.take i ++ [x'] ++ xs.drop (i + 1) := by
          rw [List.set_eq_take_append_cons_drop, if_pos hi]; simp
        rw [hset]
        refine ((r1.keeps (hk.mono fun c hc => ?_)).append (.one (Data.keeps hr (hk.mono fun c hc => hG'b c hc)))).append (r3.keeps (hk.mono fun c hc => ?_))
        · exact hbG c (by simp [hc])
        · exact hbG c (by simp [hc])


/-- what is written behind a slice's end does not touch it -/

theorem links_row {h0 h : Heap} {N : Nat} (d : DC h0 h N) (hN : N < 2 ^ 56) {lo : Nat} (hlo : h0.length < lo) (hlo2 : lo ≤ h.length) (n : Nat) (hn : n ≤ 20) (k0 : Nat) (hk0 : k0 ≤ 2) (s0 : S) (K : Ex → S → Prop) (g0 : s0.σ 0 = .v (.ptr h0.length 0)) (g3 : s0.σ 3 = .v (vi n)) (g6 : s0.σ 6 = .v .nils) (g7 : s0.σ 7 = .v (vi k0)) (gh : s0.h = h)
    (hK : ∀ s row v6 G6, (∀ k, k ∉ [6, 7, 22, 23, 24, 25, 26, 27, 28, 29, 30] → s.σ k = s0.σ k) → s.σ 6 = .v v6 → SdF s.h v6 (row : List Int) G6 → (∀ b ∈ G6, h.length ≤ b) → DC h0 s.h (N + 4) → KeepsBut h0.length h s.h → h.length ≤ s.h.length → K (.exit 2) s) : Wc p (.loop g570_0) s0 K := by
  refine Wc_dnM (M := [6, 7, 22, 23, 24, 25, 26, 27, 28, 29, 30]) rfl (fun k s => k ≤ 2 ∧ s.σ 7 = .v (vi k) ∧ ∃ (row : List Int) (v6 : V) (G6 : List Nat), row.length + k ≤ 2 ∧ s.σ 6 = .v v6 ∧ SdF s.h v6 row G6 ∧ row.Pairwise (· < ·) ∧ (∀ b ∈ G6, h.length ≤ b) ∧ (∃ c, c + k ≤ 2 ∧ DC h0 s.h (N + 2 * c)) ∧ KeepsBut h0.length h s.h ∧ h.length ≤ s.h.length) k0
    ⟨hk0, g7, [], .nils, [], by simpa using hk0, g6, SdF.nil, by simp, by simp, ⟨0, by omega, by rw [gh]; exact d⟩, by rw [gh]; exact KeepsBut.refl _ _, by rw [gh]; omega⟩ fun k s ⟨gk, g7, row, v6, G6, hx, g6, s6, r6, b6, ⟨c, hc, d⟩, kb, hl⟩ hM J hJ => ?_
  by_cases hk : 0 < k
  · have w2 : IntKind.i64.wrap ((k : Int) - 1) = (k - 1 : Nat) := by rw [IntWalk.i64_in] <;> omega
    obtain ⟨x, h1, e1, _, d1, k1, l1⟩ := d.pick (by omega) (n : Int) (by omega)
    have s6' := s6.keeps (k1.P.mono fun b hb => by have := b6 b hb; omega)
    obtain ⟨v7, h2, e2, ys, G7, s7, r7, m7, n7, G7s, k2, l2⟩ := l1Put_ok s6' r6 (by omega) (x : Int)
    simp [g570_0, hM, g0, g3, g7, g6, hk, e1, e2, w2, -Int.natCast_add]
    refine hJ (k - 1) _ (by omega) ⟨by omega, by simp, ys, v7, G7, by omega, by simp, s7, r7, fun b hb => ?_, ⟨c + 1, by omega, (d1.keeps k2).mono (by omega)⟩, (kb.trans k1).trans (k2.but _), by show h.length ≤ h2.length; omega⟩
    rcases G7s b hb with h | h
    · exact b6 b h
    · omega
  · have : k = 0 := by omega
    subst this
    simp [g570_0, hM, g7]
    exact hK _ row v6 G6 (fun k hk => by simp only [List.mem_cons, not_or] at hk; simp [hk, hM]) (by simp [g6]) s6 b6 (d.mono (by omega)) kb hl

theorem DC.links {h0 h : Heap} {N : Nat} (d : DC h0 h N) (hN : N < 2 ^ 55) : ∃ v h', call p 570 [.ptr h0.length 0] h = some (v, h') ∧ ∃ (xs : List (List Int)) (F : List Nat), SdF h' v xs F ∧ xs.length ≤ 13 ∧ (∀ b ∈ F, h.length ≤ b) ∧ DC h0 h' (N + 200) ∧ KeepsBut h0.length h h' ∧ h.length ≤ h'.length := by
  have hlt := d.lt
  obtain ⟨a, h1, e1, ha, d1, k1, l1⟩ := d.pick (by omega) 9 (by decide)
  obtain ⟨b, h2, e2, d2, k2, l2⟩ := d1.one (by omega) 20 (by decide)
  refine go (fn := g570) rfl rfl fun R hR => ?_
  have main : ∀ (n : Nat) (h3 : Heap) (M3 : Nat), n ≤ 13 → M3 ≤ N + 6 → DC h0 h3 M3 → KeepsBut h0.length h h3 → h.length ≤ h3.length → ∀ (s0 : S) (K : Ex → S → Prop), s0.σ 0 = .v (.ptr h0.length 0) → s0.σ 3 = .v (vi n) → s0.σ 4 = .v .nils → s0.σ 5 = .v (vi 0) → s0.h = h3 →
      (∀ s' (xs : List (List Int)) v G, s'.σ 0 = .v (.ptr h0.length 0) → s'.σ 3 = .v (vi n) → s'.σ 4 = .v v → Od h.length s'.h v xs G → xs.length = n → (∀ b ∈ G, h.length ≤ b) → DC h0 s'.h (N + 180) → KeepsBut h0.length h s'.h → h.length ≤ s'.h.length → K (.exit 0) s') → Wc p (.loop g570_1) s0 K := by
    intro n h3 M3 hn hM3 d3 k3 l3 s0 K g0 g3 g4 g5 gh hK
    refine Wc_upM (M := [4, 5, 6, 7, 15, 16, 17, 18, 19, 20, 21, 22, 23, 24, 25, 26, 27, 28, 29, 30, 31, 32, 33, 34]) rfl n (fun i s => i ≤ n ∧ s.σ 5 = .v (vi i) ∧ ∃ (xs : List (List Int)) (v : V) (G : List Nat), xs.length = i ∧ s.σ 4 = .v v ∧ Od h.length s.h v xs G ∧ (∀ b ∈ G, h.length ≤ b) ∧ DC h0 s.h (N + 6 + i * 6) ∧ KeepsBut h0.length h s.h ∧ h.length ≤ s.h.length) 0
      ⟨by omega, g5, [], .nils, [], rfl, g4, Od.nil (by rw [gh]; omega), by simp, by rw [gh]; exact d3.mono (by omega), by rw [gh]; exact k3, by rw [gh]; omega⟩ fun i s ⟨gi, g5, xs, v, G, hx, g4, ho, hG, d, kb, hl⟩ hM J hJ => ?_
    by_cases hi : i < n
    · have w1 : IntKind.i64.wrap ((i : Int) + 1) = (i + 1 : Nat) := by rw [IntWalk.i64_in] <;> omega
      obtain ⟨c, h4, e4, hc, d4, k4, l4⟩ := d.pick (by omega) 3 (by decide)
      simp [g570_1, hM, g0, g3, g5, hi, e4]
      refine links_row d4 (by omega) (lo := h.length) hlt (by omega) n (by omega) c (by omega) _ _ (by simp [hM, g0]) (by simp [hM, g3]) (by simp) (by simp) rfl fun s2 row v6 G6 hM2 g6 s6 b6 d6 kb6 l6 => ?_
      have ge : ∀ i, vB v i → h.length ≤ i ∧ i < s.h.length := fun i hi => ho.ge hi
      have kl : Keeps s2.h (s2.h ++ [⟨.own, [v6]⟩]) := Keeps.append _ _
      have ko : KeepsP (fun b => b ≠ h0.length) s.h (s2.h ++ [⟨.own, [v6]⟩]) := (k4.trans kb6).P.trans (kl.p _)
      have ho3 : Od h.length (s2.h ++ [⟨.own, [v6]⟩]) v xs G := ho.keeps ko (fun b hb => by have := (ge b hb).1; omega) (fun b hb => by have := hG b hb; omega) (by simp; omega)
      have no : ∀ b ∈ G6, ¬ vB v b := fun b hb hv => by have := (ge b hv).2; have := b6 b hb; omega
      obtain ⟨v', h7, e7, o7, k7, l7, b7⟩ := ho3.app (zs := [row]) (ys := [v6]) (G := G6) (by simp) (.one (show Data.rep _ row [v6] G6 from ⟨v6, rfl, s6.keep kl⟩)) no (bytes := 24) (by decide) (by simp; omega) (k := 1) rfl (n := 1) rfl
      have g4' : s2.σ 4 = .v v := by rw [hM2 4 (by decide)]; simp [g4]
      have g5' : s2.σ 5 = .v (vi i) := by rw [hM2 5 (by decide)]; simp [g5]
      simp at l7
      simp [g4', g5', g6, s6.cells, s6.cell, fillL, rdS_last, e7, w1, -Int.natCast_add]
      refine hJ _ hi ⟨hi, by simp, xs ++ [row], v', G ++ G6, by simp [hx], by simp, o7, fun b hb => ?_, ?_, ?_, by show h.length ≤ h7.length; omega⟩
      · rcases List.mem_append.1 hb with h | h
        · exact hG b h
        · have := b6 b h; omega
      · exact ((d6.keeps kl).far k7 fun j hj hv => by have := (ge j hv).1; omega).mono (by omega)
      · exact ((kb.trans (k4.trans kb6)).trans (kl.but _)).far k7 fun j hj _ hv => by have := (ge j hv).1; omega
    · have : i = n := by omega
      simp [g570_1, hM, g3, g5, hi]
      exact hK _ xs v G (by simp [hM, g0]) (by simp [hM, g3]) (by simp [g4]) ho (by omega) hG (d.mono (by omega)) kb hl
  have tail : ∀ (H : Heap) (xs : List (List Int)) (v : V) (G : List Nat), Od h.length H v xs G → xs.length ≤ 13 → (∀ b ∈ G, h.length ≤ b) → DC h0 H (N + 180) → KeepsBut h0.length h H → h.length ≤ H.length →
      (xs.length = 0 → R v H) ∧ (0 < xs.length → ∃ (q : Bool) (H2 : Heap), call p 92 [.ptr h0.length 0, vi 30] H = some (.bool q, H2) ∧ idxV 1 v (.int .i64 0) = some (.ptr (bOf v) (oOf v)) ∧ (q = false → R v H2) ∧ (q = true → ∃ H3, wrH (H2 ++ [⟨.own, [vi xs.length]⟩]) (bOf v) (oOf v) [.slice H2.length 0 1 (.k 1)] = some H3 ∧ R v H3)) := by
    intro H xs v G ho hx hG d kb hl
    obtain ⟨F', hF, hF'⟩ := ho.sd
    have hFge : ∀ b ∈ F', h.length ≤ b := fun b hb => by
      rcases hF' with rfl | ⟨rfl, hv, _⟩
      · exact hG b hb
      · rcases List.mem_cons.1 hb with rfl | h
        · exact (ho.ge hv).1
        · exact hG b h
    refine ⟨fun _ => hR _ _ ⟨xs, F', hF, hx, hFge, d.mono (by omega), kb, hl⟩, fun hp => ?_⟩
    obtain ⟨q, H2, e2, d2, k2, l2⟩ := d.one (by omega) 30 (by decide)
    have hF2 := hF.keeps (k2.P.mono fun b hb => by have := hFge b hb; omega)
    have i0 := hF.idx 1 .i64 0 hp
    simp at i0
    refine ⟨q, H2, e2, i0, fun _ => hR _ _ ⟨xs, F', hF2, hx, hFge, d2.mono (by omega), kb.trans k2, by omega⟩, fun _ => ?_⟩
    have hin := hF.bIn hp
    rcases hF' with rfl | ⟨rfl, hv, hn, cs, hcs⟩
    · exfalso
      obtain ⟨_, _, ⟨rfl, rfl, rfl⟩ | ⟨b, cs, rfl, hb, h3, hr, hn⟩ | ⟨b, rfl, rfl, rfl, _⟩⟩ := ho
      · simp at hp
      · exact hn hin
      · simp at hp
    · have kl : Keeps H2 (H2 ++ [⟨.own, [vi xs.length]⟩]) := Keeps.append _ _
      have hge := (ho.ge hv).1
      have hcs2 := kl _ _ (k2 _ _ (by omega) hcs (by simp)) (by simp)
      have hlt2 : bOf v < H2.length := by have := (ho.ge hv).2; omega
      have hrow : SdF (H2 ++ [⟨.own, [vi xs.length]⟩]) (.slice H2.length 0 1 (.k 1)) [(xs.length : Int)] [H2.length] := SdF.lit (F := []) (.one (show Data.rep H2 (xs.length : Int) [vi xs.length] [] from ⟨rfl, rfl⟩)) 1 rfl (by simp)
      obtain ⟨H3, F3, e3, s3, q3, k3, l3, _⟩ := (hF2.keep kl).putX (fun G' e => by injection e with _ e; rw [← e]; exact hn) ⟨cs, hcs2⟩ (i := 0) hp (x' := [(xs.length : Int)]) (cs' := [.slice H2.length 0 1 (.k 1)]) (G' := [H2.length]) ⟨_, rfl, hrow⟩ (by simp; omega)
      simp only [Nat.zero_mul, Nat.add_zero] at e3
      simp at l3
      refine ⟨H3, e3, hR _ _ ⟨_, F3, s3, by simpa using hx, fun b hb => ?_, ((d2.keeps kl).far k3 fun j hj => by omega).mono (by omega), ((kb.trans k2).trans (kl.but _)).far k3 fun j hj _ e => by omega, by omega⟩⟩
      rcases q3 b hb with h | h
      · exact hFge b h
      · simp at h; omega
  cases b with
  | false =>
    simp [g570, e1, e2]
    refine main a h2 (N + 4) (by omega) (by omega) (d2.mono (by omega)) (k1.trans k2) (by omega) _ _ (by simp) (by simp) (by simp) (by simp) rfl fun s xs v G g0 g3 g4 ho hx hG d kb hl => ?_
    obtain ⟨t1, t2⟩ := tail s.h xs v G ho (by omega) hG d kb hl
    by_cases hp : 0 < xs.length
    · obtain ⟨q, H2, f1, f2, f3, f4⟩ := t2 hp
      have hp2 : 0 < a := by omega
      cases q with
      | false => simp [g0, g3, g4, hp2, f1]; exact f3 rfl
      | true =>
        obtain ⟨H3, f5, f6⟩ := f4 rfl
        rw [hx] at f5
        simp [g0, g3, g4, hp2, f1, f2, fillL, f5]; exact f6
    · have hp2 : ¬ 0 < a := by omega
      simp [g0, g3, g4, hp2]; exact t1 (by omega)
  | true =>
    obtain ⟨c, h3, e3, hc, d3, k3, l3⟩ := d2.pick (by omega) 2 (by decide)
    have w1 : IntKind.i64.wrap (12 + (c : Int)) = (12 + c : Nat) := by rw [IntWalk.i64_in] <;> omega
    simp [g570, e1, e2, e3, w1, -Int.natCast_add]
    refine main (12 + c) h3 (N + 6) (by omega) (by omega) (d3.mono (by omega)) ((k1.trans k2).trans k3) (by omega) _ _ (by simp) (by simp) (by simp) (by simp) rfl fun s xs v G g0 g3 g4 ho hx hG d kb hl => ?_
    obtain ⟨t1, t2⟩ := tail s.h xs v G ho (by omega) hG d kb hl
    have hp : 0 < xs.length := by omega
    obtain ⟨q, H2, f1, f2, f3, f4⟩ := t2 hp
    have hp2 : 0 < 12 + c := by omega
    cases q with
    | false => simp [g0, g3, g4, hp2, f1, -Int.natCast_add]; exact f3 rfl
    | true =>
      obtain ⟨H3, f5, f6⟩ := f4 rfl
      rw [hx] at f5
      simp [g0, g3, g4, hp2, f1, f2, fillL, f5, -Int.natCast_add]; exact f6
end GL

namespace GL
open Go

end GL

namespace GL
open Go

section
variable {l : List (List Int)} (hg : linksB l = true)
include hg
end

end GL

namespace GL
open Go

theorem KeepsP.low {h h1 h2 : Heap} {n : Nat} (hk : Keeps h h1) (hp : KeepsP (fun b => b < n) h1 h2) (hn : h.length ≤ n) : Keeps h h2 := Keeps.far (n := h.length) hk hp (Nat.le_refl _) fun i hi => by omega

end GL

namespace GL
open Go

end GL

namespace GL
open Go

end GL

namespace GL
open Go

theorem flats_ints (xs : List Int) : flats xs = xs.map (V.int .i64) := by
  induction xs with
  | nil => rfl
  | cons x xs ih =>
    simp only [flats, List.flatMap_cons, List.map_cons] at ih ⊢
    rw [ih]; rfl
theorem srtI_perm (xs : List Int) : (srtI xs).Perm xs := List.mergeSort_perm _ _
theorem srtI_le (xs : List Int) : (srtI xs).Pairwise (· ≤ ·) := by
  have := List.pairwise_mergeSort (le := fun (x y : Int) => decide (x ≤ y)) (fun a b c h1 h2 => by simp at *; omega) (fun a b => by simp; omega) xs
  exact this.imp fun h => by simpa using h
theorem srtI_ris (xs : List Int) (lo hi : Int) : risB lo hi (srtI xs) = decide ((∀ x ∈ xs, lo ≤ x ∧ x ≤ hi) ∧ xs.Nodup) := by
  unfold risB
  have hp := srtI_perm xs
  congr 1
  refine propext ⟨fun ⟨h1, h2⟩ => ⟨fun x hx => h1 x (hp.mem_iff.2 hx), hp.nodup_iff.1 (h2.imp fun h => by omega)⟩, fun ⟨h1, h2⟩ => ⟨fun x hx => h1 x (hp.mem_iff.1 hx), sorted_nodup (srtI_le xs) (hp.nodup_iff.2 h2)⟩⟩
/-- slices.Sorted(slices.Values(v)) -/
theorem sorted_call {h : Heap} {v : V} {xs : List Int} (hs : Sl h v xs) (hl : xs.length ≤ 2 ^ 20) :
    ∃ c h1 r h', call p 406 [v] h = some (c, h1) ∧ call p 407 [c] h1 = some (r, h') ∧ Sl h' r (srtI xs) ∧ Keeps h h' ∧ h.length ≤ h'.length := by
  have hv : v = .nils ∨ ∃ b o n c, v = .slice b o n c := by
    rcases hs.2 with ⟨rfl, _⟩ | ⟨b, o, c, rfl, _⟩
    · exact .inl rfl
    · exact .inr ⟨_, _, _, _, rfl⟩
  have k0 : Keeps h (h ++ [⟨.own, [v]⟩]) := Keeps.append _ _
  have hb : (h ++ [⟨.own, [v]⟩])[h.length]? = some ⟨.own, [v]⟩ := get_last _ _
  have r0 : rdH (h ++ [⟨.own, [v]⟩]) h.length 0 1 = some [v] := by rw [rdH_at hb (by simp)]; rfl
  have hr := (hs.keeps k0).rdS xs.length (Nat.le_refl _)
  rw [List.take_length, flats_ints] at hr
  have e2 := sortedE_eq r0 hs.len (by omega) hr
  refine ⟨_, _, (sortedR xs (h ++ [⟨.own, [v]⟩])).1, (sortedR xs (h ++ [⟨.own, [v]⟩])).2, by rw [call_ext (e := valuesE) rfl]; exact valuesE_eq h hv, by rw [call_ext (e := sortedE) rfl]; exact e2, ?_⟩
  unfold sortedR
  by_cases h0 : xs = []
  · rw [if_pos h0]; subst h0
    exact ⟨by simpa [srtI] using Sl.nil, k0, by simp⟩
  · rw [if_neg h0]
    refine ⟨?_, k0.trans (Keeps.append _ _), by simp⟩
    exact Sl.lit (srtI xs) xs.length (srtI_length xs).symm _ (flats_ints _).symm _ (by rw [srtI_length]; omega)
theorem cut_take {cs xs : List V} {off n m : Nat} (e : cut cs off n = some xs) (hm : m ≤ n) : cut cs off m = some (xs.take m) := by
  unfold cut at e ⊢
  split at e
  case isFalse => cases e
  injection e with e
  subst e
  rw [if_pos (by omega), List.take_take, Nat.min_eq_left hm]
theorem SdF.pre {h : Heap} {v : V} {xs : List Int} {F : List Nat} (hs : SdF h v xs F) {i : Nat} (hi : i ≤ xs.length) : ∃ u F', slcV 1 v none (some i) none = some u ∧ SdF h u (xs.take i) F' ∧ ∀ b ∈ F', b ∈ F := by
  have hbd := hs.bd
  rcases hs with ⟨hb, ⟨rfl, rfl, rfl⟩ | ⟨b, off, cap, rfl, hc, hs⟩⟩
  · simp at hi; subst hi
    exact ⟨.nils, [], rfl, .nil, by simp⟩
  · have s2 : ∃ cap2, slcV 1 (.slice b off xs.length cap) none (some i) none = some (.slice b off i cap2) ∧ capW 1 i cap2 := by
      cases cap with
      | k c =>
        have hc' : xs.length ≤ c := hc
        refine ⟨.k c, ?_, Nat.le_trans hi hc'⟩
        simp only [slcV, Option.getD_none, Option.getD_some]
        rw [if_pos ⟨by omega, by omega, by omega⟩]
        simp
      | o k =>
        have hc' : k = 1 := hc
        subst hc'
        refine ⟨.o 1, ?_, rfl⟩
        simp only [slcV, Option.getD_none, Option.getD_some]
        rw [if_pos ⟨trivial, by omega, by omega⟩]
        simp
    obtain ⟨cap2, e, c2⟩ := s2
    have hl : (xs.take i).length = i := by simp; omega
    rcases hs with ⟨rfl, rfl⟩ | ⟨blk, cs, G, rfl, h1, h2, h3, h4⟩
    · simp at hi; subst hi
      exact ⟨_, [], e, ⟨by simp, .inr ⟨b, off, cap2, rfl, c2, .inl ⟨rfl, rfl⟩⟩⟩, by simp⟩
    · obtain ⟨rfl, rfl⟩ := Reps.flat.1 h4
      have h3' : cut blk.cells off (i * 1) = some (flats (xs.take i)) := by
        rw [← flats_take]
        exact cut_take h3 (show i * 1 ≤ xs.length * 1 by omega)
      refine ⟨_, [b], e, ⟨by omega, .inr ⟨b, off, cap2, by rw [hl], by rw [hl]; exact c2, .inr ⟨blk, flats (xs.take i), [], rfl, h1, h2, by rw [hl]; exact h3', Reps.flat.2 ⟨rfl, rfl⟩⟩⟩⟩, by simp⟩
def onceB (n : Int) (xs : List Int) : Bool := decide ((∀ x ∈ xs, 0 ≤ x ∧ x ≤ n - 1) ∧ xs.Nodup)
theorem areOnce_ok {h : Heap} {v : V} {xs : List Int} (hs : Sl h v xs) (hl : xs.length ≤ 2 ^ 20) (n : Int) (hn : 0 ≤ n ∧ n < 2 ^ 60) :
    ∃ r h', call p 541 [v, vi n] h = some (r, h') ∧ r = .bool (onceB n xs) ∧ Keeps h h' ∧ h.length ≤ h'.length := by
  obtain ⟨c, h1, r, h2, e1, e2, s2, k2, l2⟩ := sorted_call hs hl
  have w : IntKind.i64.wrap (n - 1) = n - 1 := by rw [IntWalk.i64_in] <;> omega
  refine go (fn := g541) rfl rfl fun R hR => ?_
  simp [g541, e1, e2, w, isRising_eq s2, srtI_ris, -Bool.decide_and]
  exact hR _ _ ⟨rfl, k2, l2⟩
theorem l14Once_eq {h : Heap} {v : V} {xs : List Int} {F : List Nat} (hd : SdF h v xs F) (n : Int) (hn : 0 ≤ n ∧ n < 2 ^ 60) : call p 539 [vi n, v] h = some (.bool (onceB n xs), h) := by
  have hs := hd.sl
  have w : IntKind.i64.wrap (n - 1) = n - 1 := by rw [IntWalk.i64_in] <;> omega
  refine go_eq (fn := g539) rfl rfl fun R hR => ?_
  simp [g539, hs.len]
  refine Wc_upM (M := [4, 5, 6, 9, 10, 11, 12, 13, 14, 15, 16, 17, 18, 19, 20, 21, 22, 23, 24, 25, 26]) rfl xs.length (fun i s => s.σ 9 = .v (vi i) ∧ s.h = h ∧ onceB n (xs.take i) = true) 0 (by simp [onceB]) fun i s ⟨g9, gh, hall⟩ hM J hJ => ?_
  by_cases hi : i < xs.length
  · have ix := hs.idx 1 .i64 i hi
    simp only [Nat.mul_one] at ix
    have ht := List.take_succ_eq_append_getElem hi
    obtain ⟨u, _, eu, su', _⟩ := hd.pre (i := i) (by omega)
    have su := su'.sl
    have eh := l1Has_eq su xs[i]
    simp only [onceB, decide_eq_true_eq] at hall
    by_cases hin : 0 ≤ xs[i] ∧ xs[i] ≤ n - 1
    · by_cases hm : xs[i] ∈ xs.take i
      · rw [decide_eq_true hm] at eh
        simp [g539_0, hM, g9, gh, hi, ix, hs.loadI, w, hin, bounds, takeB, eu, eh, -Bool.decide_and]
        have : onceB n xs = false := by
          simp only [onceB, decide_eq_false_iff_not]
          rintro ⟨_, h2⟩
          have h3 : (xs.take (i + 1)).Nodup := List.Sublist.nodup (List.take_sublist ..) h2
          rw [ht, List.nodup_append] at h3
          exact h3.2.2 _ hm _ (by simp) rfl
        rw [this] at hR; exact hR
      · rw [decide_eq_false hm] at eh
        simp [g539_0, hM, g9, gh, hi, ix, hs.loadI, w, hin, bounds, takeB, eu, eh, hs.step hi, -Bool.decide_and]
        refine hJ _ hi ⟨by simp, rfl, ?_⟩
        simp only [onceB, decide_eq_true_eq, ht]
        refine ⟨fun x hx => ?_, ?_⟩
        · rcases List.mem_append.1 hx with hx | hx
          · exact hall.1 x hx
          · simp at hx; subst hx; exact hin
        · rw [List.nodup_append]
          exact ⟨hall.2, by simp, fun a ha b hb e => by simp at hb; subst hb; subst e; exact hm ha⟩
    · simp [g539_0, hM, g9, gh, hi, ix, hs.loadI, w, hin, -Bool.decide_and]
      have : onceB n xs = false := by
        simp only [onceB, decide_eq_false_iff_not]
        exact fun h2 => hin (h2.1 _ (List.getElem_mem hi))
      rw [this] at hR; exact hR
  · rw [List.take_of_length_le (by omega)] at hall
    simp [g539_0, hM, g9, gh, hi]
    rw [hall] at hR; exact hR
end GL

namespace GL
open Go

/-- those of ds whose reach lies in ds -/
noncomputable def readyL (l : List (List Int)) (ds : List Int) : List Int := ds.filter fun n => (reachL l n).all fun x => decide (x ∈ ds)
def knownB (l : List (List Int)) (ds : List Int) : Bool := linksB l && risB 0 ((l.length : Int) - 1) ds
theorem knownB_facts {l : List (List Int)} {ds : List Int} (h : knownB l ds = true) : linksB l = true ∧ (∀ x ∈ ds, InR l x) ∧ ds.Pairwise (· < ·) ∧ ds.length ≤ 12 := by
  simp only [knownB, Bool.and_eq_true, risB, decide_eq_true_eq] at h
  have hin : ∀ x ∈ ds, InR l x := fun x hx => ⟨(h.2.1 x hx).1, by have := (h.2.1 x hx).2; omega⟩
  have := (linksB_facts h.1).1
  exact ⟨h.1, hin, h.2.2, Nat.le_trans (rising_len h.2.2 hin) this⟩
theorem areKnown_ok {h : Heap} {v w : V} {l : List (List Int)} {F : List Nat} {ds : List Int} (hs : SdF h v l F) (hd : Sl h w ds) : ∃ r h', call p 544 [v, w] h = some (r, h') ∧ r = .bool (knownB l ds) ∧ Keeps h h' ∧ h.length ≤ h'.length := by
  obtain ⟨_, h1, e1, rfl, k1, l1⟩ := GoodLinks_ok hs
  have hbd := hs.bd
  have w : IntKind.i64.wrap ((l.length : Int) - 1) = (l.length : Int) - 1 := by rw [IntWalk.i64_in] <;> omega
  refine go (fn := g544) rfl rfl fun R hR => ?_
  cases hl : linksB l with
  | false => rw [hl] at e1; simp [g544, e1]; exact hR _ _ ⟨by simp [knownB, hl], k1, l1⟩
  | true => rw [hl] at e1; simp [g544, e1, hs.len, w, isRising_eq (hd.keeps k1)]; exact hR _ _ ⟨by simp [knownB, hl], k1, l1⟩
theorem ready1_ok {h : Heap} {v w : V} {l : List (List Int)} {F : List Nat} {ds : List Int} (hs : SdF h v l F) (hd : Sl h w ds) (hg : linksB l = true) {bd bl : Nat} (h1 : h[bd]? = some ⟨.own, [w]⟩) (h2 : h[bl]? = some ⟨.own, [v]⟩) (n : Int) (hn : InR l n) :
    ∃ h', call p 571 [vi n, .ptr bd 0, .ptr bl 0] h = some (.bool (!(reachL l n).all fun x => decide (x ∈ ds)), h') ∧ Keeps h h' ∧ h.length ≤ h'.length := by
  obtain ⟨r, h3, e1, G, s1, f1, k1, l1⟩ := reach_ok hs hg n hn
  obtain ⟨_, h4, e2, rfl, k2, l2⟩ := hasAll_ok (hd.keeps k1) s1.sl
  have r1 : rdH h bd 0 1 = some [w] := by rw [rdH_at h1 (by simp)]; rfl
  have r2 : rdH h bl 0 1 = some [v] := by rw [rdH_at h2 (by simp)]; rfl
  have r3 := rdH_keep k1 r1
  obtain ⟨x, h', e, hx, hk, hl⟩ : ∃ r h', call p 571 [vi n, .ptr bd 0, .ptr bl 0] h = some (r, h') ∧ r = .bool (!(reachL l n).all fun x => decide (x ∈ ds)) ∧ Keeps h h' ∧ h.length ≤ h'.length := by
    refine go (fn := g571) rfl rfl fun R hR => ?_
    simp [g571, r1, r2, r3, e1, e2, stable]
    exact hR _ _ ⟨rfl, k1.trans k2, by omega⟩
  exact ⟨h', by rw [e, hx], hk, hl⟩
theorem ready_ok {h : Heap} {v w : V} {l : List (List Int)} {F : List Nat} {ds : List Int} (hs : SdF h v l F) (hd : Sl h w ds) (hg : linksB l = true) (hin : ∀ x ∈ ds, InR l x) (hl : ds.length ≤ 2 ^ 20) :
    ∃ r h', call p 549 [v, w] h = some (r, h') ∧ ∃ G, SdF h' r (readyL l ds) G ∧ Fresh h.length h' G ∧ Keeps h h' ∧ h.length ≤ h'.length := by
  refine go (fn := g549) rfl rfl fun R hR => ?_
  have k0 : Keeps h (h ++ [⟨.own, [v]⟩]) := Keeps.append _ _
  have k1 : Keeps (h ++ [⟨.own, [v]⟩]) (h ++ [⟨.own, [v]⟩, ⟨.own, [w]⟩]) := by
    have := Keeps.append (h ++ [⟨.own, [v]⟩]) [⟨.own, [w]⟩]
    simpa using this
  generalize hh : h ++ [⟨.own, [v]⟩, ⟨.own, [w]⟩] = H at k1
  have hb1 : H[h.length]? = some ⟨.own, [v]⟩ := k1 _ _ (get_last _ _) (by simp)
  have hb2 : H[h.length + 1]? = some ⟨.own, [w]⟩ := by
    rw [← hh]; simp
  have hHl : H.length = h.length + 2 := by rw [← hh]; simp
  have r2 : rdH H (h.length + 1) 0 1 = some [w] := by rw [rdH_at hb2 (by simp)]; rfl
  have k01 := k0.trans k1
  obtain ⟨c, h1, e1, F1, c1, f1, kc, lc⟩ := cloneI_ok (hd.keeps k01) hl
  have nF : ∀ b ∈ F1, ¬ b < h.length + 2 := fun b hb e => by have := f1.ge b hb; omega
  obtain ⟨r, h2, e2, G, p1, p2, p3, p4⟩ := deleteIg_ok c1 f1 (f := 571) (capt := [.ptr (h.length + 1) 0, .ptr h.length 0]) (q := fun n => !(reachL l n).all fun x => decide (x ∈ ds)) fun h' hk hl' n hn => by
    have hkk : Keeps H h' := Keeps.far (n := h.length + 2) kc hk (by omega) fun i hi hm => nF _ hm hi
    exact ready1_ok (hs.keep (k01.trans hkk)) (hd.keeps (k01.trans hkk)) hg (hkk _ _ hb2 (by simp)) (hkk _ _ hb1 (by simp)) n (hin n hn)
  have hf : (ds.filter fun n => !(!(reachL l n).all fun x => decide (x ∈ ds))) = readyL l ds := by unfold readyL; congr 1; funext n; simp
  rw [hf] at p1
  simp [g549, hs.cells, hs.cell, hd.cells, hd.cell, fillL, hh, r2, e1, e2]
  exact hR _ _ ⟨G, p1, p2.mono (by omega), Keeps.far (n := h.length + 2) (k01.trans kc) p3 (by omega) fun i hi hm => nF _ hm hi, by omega⟩
theorem ReadyOf_ok {h : Heap} {v w : V} {l : List (List Int)} {F : List Nat} {ds : List Int} (hs : SdF h v l F) (hd : Sl h w ds) :
    ∃ r h', call p 489 [v, w] h = some (r, h') ∧ ∃ o G, r = .tup [o, .bool (knownB l ds)] ∧ SdF h' o (if knownB l ds = true then readyL l ds else []) G ∧ Keeps h h' ∧ h.length ≤ h'.length := by
  obtain ⟨_, h1, e1, rfl, k1, l1⟩ := areKnown_ok hs hd
  refine go (fn := g489) rfl rfl fun R hR => ?_
  cases hk : knownB l ds with
  | false => rw [hk] at e1; simp [g489, e1]; exact hR _ _ ⟨.nils, [], by rw [hk], by simp [hk]; exact .nil, k1, l1⟩
  | true =>
    rw [hk] at e1
    obtain ⟨hg, hin, _, hl⟩ := knownB_facts hk
    obtain ⟨r, h2, e2, G, s2, _, k2, l2⟩ := ready_ok (hs.keep k1) (hd.keeps k1) hg hin (by omega)
    simp [g489, e1, e2]
    exact hR _ _ ⟨r, G, by rw [hk], by simpa [hk] using s2, k1.trans k2, by omega⟩

theorem l5Sub_eq {h : Heap} {v w : V} {as bs : List Int} (ha : Sl h v as) (hb : Sl h w bs) : call p 554 [v, w] h = some (.bool (as.all fun x => decide (x ∈ bs)), h) := by
  refine go_eq (fn := g554) rfl rfl fun R hR => ?_
  simp [g554, ha.len]
  refine Wc_upM (M := [4, 6, 9, 10, 11, 12, 13, 14, 15, 16, 17]) rfl as.length (fun i s => s.σ 9 = .v (vi i) ∧ s.h = h ∧ ∀ x ∈ as.take i, decide (x ∈ bs) = true) 0 (by simp) fun i s ⟨g9, gh, hall⟩ hM J hJ => ?_
  by_cases hi : i < as.length
  · have ix := ha.idx 1 .i64 i hi
    simp only [Nat.mul_one] at ix
    have e := l1Has_eq hb as[i]
    by_cases hm : as[i] ∈ bs
    · rw [decide_eq_true hm] at e
      simp [g554_0, hM, g9, gh, hi, ix, ha.loadI, e, ha.step hi]
      exact hJ _ hi ⟨by simp, rfl, (all_take_succ (P := fun x => decide (x ∈ bs) = true) hi).2 ⟨hall, decide_eq_true hm⟩⟩
    · rw [decide_eq_false hm] at e
      simp [g554_0, hM, g9, gh, hi, ix, ha.loadI, e]
      have : (as.all fun x => decide (x ∈ bs)) = false := List.all_eq_false.2 ⟨_, List.getElem_mem hi, by simp [hm]⟩
      rw [this] at hR; exact hR
  · rw [List.take_of_length_le (by omega)] at hall
    have : (as.all fun x => decide (x ∈ bs)) = true := List.all_eq_true.2 hall
    rw [this] at hR
    simp [g554_0, hM, g9, gh, hi]; exact hR
theorem l6Less_ok {h : Heap} {v w : V} {as bs : List Int} (ha : Sl h v as) (hb : Sl h w bs) (hl : as.length ≤ 2 ^ 20) :
    ∃ r h', call p 548 [v, w] h = some (r, h') ∧ Out h.length h' r (as.filter fun x => !decide (x ∈ bs)) ∧ Keeps h h' ∧ h.length ≤ h'.length := by
  refine go (fn := g548) rfl rfl fun R hR => ?_
  simp [g548, ha.len]
  refine Wc_upM (M := [5, 7, 10, 11, 12, 13, 14, 15, 16, 17, 18, 19, 20, 21, 22]) rfl as.length (fun i s => s.σ 10 = .v (vi i) ∧ ∃ v5, s.σ 5 = .v v5 ∧ Out h.length s.h v5 ((as.take i).filter fun x => !decide (x ∈ bs)) ∧ Keeps h s.h ∧ h.length ≤ s.h.length) 0
    ⟨by simp, .nils, by simp, by simpa using Out.nil (Nat.le_refl _), Keeps.refl _, Nat.le_refl _⟩ fun i s ⟨g10, v5, g5, ho, hk, hln⟩ hM J hJ => ?_
  by_cases hn : i < as.length
  · have ha' := ha.keeps hk
    have ht := List.take_succ_eq_append_getElem hn
    have e3 := l1Has_eq (hb.keeps hk) as[i]
    have ij := ha.idx 1 .i64 i hn
    simp only [Nat.mul_one] at ij
    by_cases hm : as[i] ∈ bs
    · rw [decide_eq_true hm] at e3
      simp [g548_0, hM, g10, g5, hn, ij, ha'.loadI, e3, ha.step hn]
      refine hJ _ hn ⟨by simp, v5, by simp [g5], ?_, hk, hln⟩
      rw [ht, List.filter_append]; simpa [hm] using ho
    · rw [decide_eq_false hm] at e3
      have hle : ((as.take i).filter fun x => !decide (x ∈ bs)).length ≤ 2 ^ 20 := Nat.le_trans (List.length_filter_le ..) (by simp; omega)
      obtain ⟨v6, h3, e4, o3, k3, l3⟩ := ho.one as[i] hle
      simp [g548_0, hM, g10, g5, hn, ij, ha'.loadI, e3, fillL, rdS_last, e4, ha.step hn]
      refine hJ _ hn ⟨by simp, v6, by simp, ?_, ho.far hk k3 (Nat.le_refl _), by show h.length ≤ h3.length; omega⟩
      rw [ht, List.filter_append]; simpa [hm] using o3
  · rw [List.take_of_length_le (by omega)] at ho
    simp [g548_0, hM, g10, g5, hn]
    exact hR _ _ ⟨ho, hk, hln⟩
theorem l14Ready_ok {h : Heap} {v w : V} {l : List (List Int)} {F : List Nat} {ds : List Int} (hs : SdF h v l F) (hd : Sl h w ds) (hg : linksB l = true) (hin : ∀ x ∈ ds, InR l x) (hl : ds.length ≤ 2 ^ 20) :
    ∃ r h', call p 551 [v, w] h = some (r, h') ∧ Out h.length h' r (readyL l ds) ∧ Keeps h h' ∧ h.length ≤ h'.length := by
  refine go (fn := g551) rfl rfl fun R hR => ?_
  simp [g551, hd.len]
  refine Wc_upM (M := [5, 7, 10, 11, 12, 13, 14, 15, 16, 17, 18, 19, 20, 21, 22, 23]) rfl ds.length (fun i s => s.σ 10 = .v (vi i) ∧ ∃ v5, s.σ 5 = .v v5 ∧ Out h.length s.h v5 (((ds.take i)).filter fun n => (reachL l n).all fun x => decide (x ∈ ds)) ∧ Keeps h s.h ∧ h.length ≤ s.h.length) 0
    ⟨by simp, .nils, by simp, by simpa using Out.nil (Nat.le_refl _), Keeps.refl _, Nat.le_refl _⟩ fun i s ⟨g10, v5, g5, ho, hk, hln⟩ hM J hJ => ?_
  by_cases hn : i < ds.length
  · have hd' := hd.keeps hk
    have ht := List.take_succ_eq_append_getElem hn
    obtain ⟨r2, h2, e2, G2, s2, k2, l2⟩ := l9Reach_ok (hs.keep hk) hg ds[i] (hin _ (List.getElem_mem hn))
    have e3 := l5Sub_eq s2.sl (hd'.keeps k2)
    have ij := hd.idx 1 .i64 i hn
    simp only [Nat.mul_one] at ij
    have ho2 : Out h.length h2 v5 _ := ho.keeps (k2.p fun _ => True) (fun _ _ => trivial) l2
    cases hm : (reachL l ds[i]).all fun x => decide (x ∈ ds) with
    | false =>
      rw [hm] at e3
      simp [g551_0, hM, g10, g5, hn, ij, hd'.loadI, e2, e3, hd.step hn]
      refine hJ _ hn ⟨by simp, v5, by simp [g5], ?_, hk.trans k2, by show h.length ≤ h2.length; omega⟩
      rw [ht, List.filter_append, List.filter_cons, hm]; simpa using ho2
    | true =>
      rw [hm] at e3
      have hle : ((ds.take i).filter fun n => (reachL l n).all fun x => decide (x ∈ ds)).length ≤ 2 ^ 20 := Nat.le_trans (List.length_filter_le ..) (by simp; omega)
      obtain ⟨v6, h3, e4, o3, k3, l3⟩ := ho2.one ds[i] hle
      simp [g551_0, hM, g10, g5, hn, ij, hd'.loadI, e2, e3, fillL, rdS_last, e4, hd.step hn]
      refine hJ _ hn ⟨by simp, v6, by simp, ?_, ho2.far (hk.trans k2) k3 (Nat.le_refl _), by show h.length ≤ h3.length; omega⟩
      rw [ht, List.filter_append, List.filter_cons, hm]; simpa using o3
  · rw [List.take_of_length_le (by omega)] at ho
    simp [g551_0, hM, g10, g5, hn]
    exact hR _ _ ⟨ho, hk, hln⟩
theorem ReadyOfS_ok {h : Heap} {v w : V} {l : List (List Int)} {F : List Nat} {ds : List Int} (hs : SdF h v l F) (hd : Sl h w ds) :
    ∃ r h', call p 490 [v, w] h = some (r, h') ∧ ∃ o G, r = .tup [o, .bool (knownB l ds)] ∧ SdF h' o (if knownB l ds = true then readyL l ds else []) G ∧ Fresh h.length h' G ∧ Keeps h h' ∧ h.length ≤ h'.length := by
  have e1 := GoodLinksS_eq hs
  have hbd := hs.bd
  have w : IntKind.i64.wrap ((l.length : Int) - 1) = (l.length : Int) - 1 := by rw [IntWalk.i64_in] <;> omega
  have er := l1Rising_eq hd 0 ((l.length : Int) - 1)
  refine go (fn := g490) rfl rfl fun R hR => ?_
  cases hk : knownB l ds with
  | false =>
    have hres : ∃ b, linksB l = b ∧ (b = false ∨ risB 0 ((l.length : Int) - 1) ds = false) := by
      simp only [knownB, Bool.and_eq_false_iff] at hk
      exact ⟨_, rfl, hk⟩
    obtain ⟨b, hb, hk2⟩ := hres
    rw [hb] at e1
    cases b with
    | false => simp [g490, e1]; exact hR _ _ ⟨.nils, [], by rw [hk], by simp [hk]; exact .nil, Fresh.nil, Keeps.refl _, Nat.le_refl _⟩
    | true =>
      rcases hk2 with hk2 | hk2
      · cases hk2
      · rw [hk2] at er
        simp [g490, e1, hs.len, w, er]; exact hR _ _ ⟨.nils, [], by rw [hk], by simp [hk]; exact .nil, Fresh.nil, Keeps.refl _, Nat.le_refl _⟩
  | true =>
    obtain ⟨hg, hin, _, hl⟩ := knownB_facts hk
    have hr : risB 0 ((l.length : Int) - 1) ds = true := by simp only [knownB, Bool.and_eq_true] at hk; exact hk.2
    rw [hg] at e1; rw [hr] at er
    obtain ⟨r, h2, e2, s2, k2, l2⟩ := l14Ready_ok hs hd hg hin (by omega)
    obtain ⟨G, s3, f3⟩ := s2.fr
    simp [g490, e1, hs.len, w, er, e2]
    exact hR _ _ ⟨r, G, by rw [hk], by simpa [hk] using s3, f3, k2, l2⟩
end GL

namespace GL
open Go

noncomputable def nextL (l : List (List Int)) (ds c : List Int) : List Int := ((groupsL l).flatten.filter fun n => decide (n ∈ readyL l ds)).filter fun n => !decide (n ∈ c)
theorem nextDone_ok {h : Heap} {v w u : V} {l : List (List Int)} {F : List Nat} {ds c : List Int} (hs : SdF h v l F) (hd : Sl h w ds) (hc : Sl h u c) (hg : linksB l = true) (hin : ∀ x ∈ ds, InR l x) (hl : ds.length ≤ 2 ^ 20) :
    ∃ r h', call p 553 [v, w, u] h = some (r, h') ∧ Sl h' r (nextL l ds c) ∧ Keeps h h' ∧ h.length ≤ h'.length := by
  obtain ⟨l12, _⟩ := linksB_facts hg
  obtain ⟨r1, h1, e1, G1, s1, k1, l1⟩ := groups_ok hs hg
  obtain ⟨r2, h2, e2, G2, s2, _, k2, l2⟩ := concat_ok s1 (by rw [groupsL_flat hg]; omega)
  obtain ⟨r3, h3, e3, G3, s3, _, k3, l3⟩ := ready_ok (hs.keep (k1.trans k2)) (hd.keeps (k1.trans k2)) hg hin hl
  obtain ⟨r4, h4, e4, G4, s4, _, k4, l4⟩ := both_ok (s2.keep k3).sl s3.sl (by rw [groupsL_flat hg]; omega)
  have hle : ((groupsL l).flatten.filter fun n => decide (n ∈ readyL l ds)).length ≤ 2 ^ 20 := Nat.le_trans (List.length_filter_le ..) (by rw [groupsL_flat hg]; omega)
  have k14 := ((k1.trans k2).trans k3).trans k4
  obtain ⟨r5, h5, e5, G5, s5, _, k5, l5⟩ := without_ok s4.sl (hc.keeps k14) hle
  refine go (fn := g553) rfl rfl fun R hR => ?_
  simp [g553, e1, e2, e3, e4, e5]
  exact hR _ _ ⟨s5.sl, k14.trans k5, by omega⟩
theorem l14Order_ok {h : Heap} {v : V} {l : List (List Int)} {F : List Nat} (hs : SdF h v l F) (hl : linksB l = true) :
    ∃ r h', call p 573 [v] h = some (r, h') ∧ Sl h' r (groupsL l).flatten ∧ Keeps h h' ∧ h.length ≤ h'.length := by
  obtain ⟨l12, _⟩ := linksB_facts hl
  obtain ⟨r, h2, e2, G, s2, k2, l2⟩ := l9Groups_ok hs hl
  have hfl := groupsL_flat hl
  refine go (fn := g573) rfl rfl fun R hR => ?_
  simp [g573, e2, s2.len]
  refine Wc_upM (M := [3, 5, 9, 10, 11, 12, 13, 14, 15, 16]) rfl (groupsL l).length (fun i s => s.σ 9 = .v (vi i) ∧ ∃ v4, s.σ 3 = .v v4 ∧ Out h2.length s.h v4 ((groupsL l).take i).flatten ∧ Keeps h2 s.h ∧ h2.length ≤ s.h.length) 0
    ⟨by simp, .nils, by simp, by simpa using Out.nil (Nat.le_refl _), Keeps.refl _, Nat.le_refl _⟩ fun i s ⟨g9, v4, g3, ho, hk, hln⟩ hM J hJ => ?_
  by_cases hn : i < (groupsL l).length
  · obtain ⟨x, F2, ex, hx, _⟩ := (s2.keep hk).loadL i hn
    have hle := flat_le (groupsL l) i
    have hle2 := flat_le (groupsL l) (i + 1)
    have ht := flat_take hn
    rw [ht, List.length_append] at hle2
    obtain ⟨ys, v5, h3, e3, e4, o3, k3, l3⟩ := ho.appS hx.sl (bytes := 8) (by decide) (by omega) (k := 1) rfl (n := (groupsL l)[i].length) rfl
    have ix := s2.idx 1 .i64 i hn
    simp only [Nat.mul_one] at ix
    simp [g573_0, hM, g9, g3, hn, ix, ex, hx.len, e3, e4, s2.step hn]
    exact hJ _ hn ⟨by simp, v5, by simp, by rw [ht]; exact o3, ho.far hk k3 (Nat.le_refl _), by show h2.length ≤ h3.length; omega⟩
  · rw [List.take_of_length_le (by omega)] at ho
    simp [g573_0, hM, g9, g3, hn]
    exact hR _ _ ⟨ho.sl, k2.trans hk, by omega⟩
theorem l14Next_ok {h : Heap} {v w u : V} {l : List (List Int)} {F : List Nat} {ds c : List Int} (hs : SdF h v l F) (hd : Sl h w ds) (hc : Sl h u c) (hg : linksB l = true) (hin : ∀ x ∈ ds, InR l x) (hl : ds.length ≤ 2 ^ 20) :
    ∃ r h', call p 555 [v, w, u] h = some (r, h') ∧ Sl h' r (nextL l ds c) ∧ Keeps h h' ∧ h.length ≤ h'.length := by
  obtain ⟨l12, _⟩ := linksB_facts hg
  obtain ⟨r1, h1, e1, s1, k1, l1⟩ := l14Ready_ok hs hd hg hin hl
  obtain ⟨r2, h2, e2, s2, k2, l2⟩ := l14Order_ok (hs.keep k1) hg
  have hfl := groupsL_flat hg
  have k12 := k1.trans k2
  have hr2 := s1.sl.keeps k2
  have hc2 := hc.keeps k12
  unfold nextL
  generalize (groupsL l).flatten = ord at s2 hfl ⊢
  refine go (fn := g555) rfl rfl fun R hR => ?_
  simp [g555, e1, e2, s2.len]
  refine Wc_upM (M := [8, 10, 17, 18, 19, 20, 21, 22, 23, 24, 25, 26, 27, 28, 29, 30, 31, 32, 33, 34]) rfl ord.length (fun i s => s.σ 17 = .v (vi i) ∧ ∃ v5, s.σ 8 = .v v5 ∧ Out h2.length s.h v5 (((ord.take i).filter fun n => decide (n ∈ readyL l ds)).filter fun n => !decide (n ∈ c)) ∧ Keeps h2 s.h ∧ h2.length ≤ s.h.length) 0
    ⟨by simp, .nils, by simp, by simpa using Out.nil (Nat.le_refl _), Keeps.refl _, Nat.le_refl _⟩ fun i s ⟨g17, v5, g8, ho, hk, hln⟩ hM J hJ => ?_
  by_cases hn : i < ord.length
  · have s2' := s2.keeps hk
    have ht := List.take_succ_eq_append_getElem hn
    have e3 := l1Has_eq (hr2.keeps hk) ord[i]
    have e4 := l1Has_eq (hc2.keeps hk) ord[i]
    have ij := s2.idx 1 .i64 i hn
    have ld := s2'.loadI i hn
    simp only [Nat.mul_one] at ij
    have st := s2.step hn
    generalize hx : ord[i] = x at *
    by_cases hm : x ∈ readyL l ds
    · rw [decide_eq_true hm] at e3
      by_cases hm2 : x ∈ c
      · rw [decide_eq_true hm2] at e4
        simp [g555_0, hM, g17, g8, hn, ij, ld, e3, e4, st]
        refine hJ _ hn ⟨by simp, v5, by simp [g8], ?_, hk, hln⟩
        rw [ht, List.filter_append, List.filter_append]; simpa [hm, hm2] using ho
      · rw [decide_eq_false hm2] at e4
        have hle : (((ord.take i).filter fun n => decide (n ∈ readyL l ds)).filter fun n => !decide (n ∈ c)).length ≤ 2 ^ 20 := Nat.le_trans (List.length_filter_le ..) (Nat.le_trans (List.length_filter_le ..) (by rw [List.length_take]; omega))
        obtain ⟨v6, h3, e5, o3, k3, l3⟩ := ho.one x hle
        simp [g555_0, hM, g17, g8, hn, ij, ld, e3, e4, fillL, rdS_last, e5, st]
        refine hJ _ hn ⟨by simp, v6, by simp, ?_, ho.far hk k3 (Nat.le_refl _), by show h2.length ≤ h3.length; omega⟩
        rw [ht, List.filter_append, List.filter_append]; simpa [hm, hm2] using o3
    · rw [decide_eq_false hm] at e3
      simp [g555_0, hM, g17, g8, hn, ij, ld, e3, st]
      refine hJ _ hn ⟨by simp, v5, by simp [g8], ?_, hk, hln⟩
      rw [ht, List.filter_append, List.filter_append]; simpa [hm] using ho
  · rw [List.take_of_length_le (by omega)] at ho
    simp [g555_0, hM, g17, g8, hn]
    exact hR _ _ ⟨ho.sl, k12.trans hk, by omega⟩

def nextB (l : List (List Int)) (ds c : List Int) : Bool := knownB l ds && onceB l.length c && c.all fun x => decide (x ∈ ds)
theorem NextDone_ok {h : Heap} {v w u : V} {l : List (List Int)} {F : List Nat} {ds c : List Int} (hs : SdF h v l F) (hd : Sl h w ds) (hc : Sl h u c) (hl : c.length ≤ 2 ^ 20) :
    ∃ r h', call p 492 [v, w, u] h = some (r, h') ∧ ∃ o, r = .tup [o, .bool (nextB l ds c)] ∧ Sl h' o (if nextB l ds c = true then nextL l ds c else []) ∧ Keeps h h' ∧ h.length ≤ h'.length := by
  obtain ⟨_, h1, e1, rfl, k1, l1⟩ := areKnown_ok hs hd
  have bad : nextB l ds c = false → Sl h1 .nils (if nextB l ds c = true then nextL l ds c else []) := fun e => by simp [e]; exact Sl.nil
  refine go (fn := g492) rfl rfl fun R hR => ?_
  cases hk : knownB l ds with
  | false =>
    have hb : nextB l ds c = false := by simp [nextB, hk]
    rw [hk] at e1; simp [g492, e1]; exact hR _ _ ⟨.nils, by rw [hb], by simp [hb]; exact Sl.nil, k1, l1⟩
  | true =>
    rw [hk] at e1
    obtain ⟨hg, hin, _, hdl⟩ := knownB_facts hk
    have l12 := (linksB_facts hg).1
    obtain ⟨_, h2, e2, rfl, k2, l2⟩ := areOnce_ok (hc.keeps k1) hl (l.length : Int) (by omega)
    cases ho : onceB (l.length : Int) c with
    | false =>
      have hb : nextB l ds c = false := by simp [nextB, ho]
      rw [ho] at e2; simp [g492, e1, hs.len, e2]; exact hR _ _ ⟨.nils, by rw [hb], by simp [hb]; exact Sl.nil, k1.trans k2, by omega⟩
    | true =>
      rw [ho] at e2
      have k12 := k1.trans k2
      obtain ⟨_, h3, e3, rfl, k3, l3⟩ := hasAll_ok (hd.keeps k12) (hc.keeps k12)
      cases ha : (c.all fun x => decide (x ∈ ds)) with
      | false =>
        have hb : nextB l ds c = false := by simp only [nextB, ha, Bool.and_false]
        rw [ha] at e3; simp [g492, e1, hs.len, e2, e3]; exact hR _ _ ⟨.nils, by rw [hb], by simp [hb]; exact Sl.nil, k12.trans k3, by omega⟩
      | true =>
        have hb : nextB l ds c = true := by simp only [nextB, hk, ho, ha, Bool.and_true]
        rw [ha] at e3
        have k13 := k12.trans k3
        obtain ⟨r, h4, e4, s4, k4, l4⟩ := nextDone_ok (hs.keep k13) (hd.keeps k13) (hc.keeps k13) hg hin (by omega)
        simp [g492, e1, hs.len, e2, e3, e4]
        exact hR _ _ ⟨r, by rw [hb], by simpa [hb] using s4, k13.trans k4, by omega⟩
theorem NextDoneS_ok {h : Heap} {v w u : V} {l : List (List Int)} {F G : List Nat} {ds c : List Int} (hs : SdF h v l F) (hd : Sl h w ds) (hc : SdF h u c G) :
    ∃ r h', call p 493 [v, w, u] h = some (r, h') ∧ ∃ o, r = .tup [o, .bool (nextB l ds c)] ∧ Sl h' o (if nextB l ds c = true then nextL l ds c else []) ∧ Keeps h h' ∧ h.length ≤ h'.length := by
  have e1 := GoodLinksS_eq hs
  have hbd := hs.bd
  have w : IntKind.i64.wrap ((l.length : Int) - 1) = (l.length : Int) - 1 := by rw [IntWalk.i64_in] <;> omega
  have er := l1Rising_eq hd 0 ((l.length : Int) - 1)
  refine go (fn := g493) rfl rfl fun R hR => ?_
  have fin : nextB l ds c = false → R (.tup [.nils, .bool false]) h := fun hb => hR _ _ ⟨.nils, by rw [hb], by simp [hb]; exact Sl.nil, Keeps.refl _, Nat.le_refl _⟩
  cases hg : linksB l with
  | false => rw [hg] at e1; simp [g493, e1]; exact fin (by simp [nextB, knownB, hg])
  | true =>
    rw [hg] at e1
    cases hr : risB 0 ((l.length : Int) - 1) ds with
    | false => rw [hr] at er; simp [g493, e1, hs.len, w, er]; exact fin (by simp [nextB, knownB, hr])
    | true =>
      rw [hr] at er
      have hk : knownB l ds = true := by simp [knownB, hg, hr]
      obtain ⟨_, hin, _, hdl⟩ := knownB_facts hk
      have l12 := (linksB_facts hg).1
      have e2 := l14Once_eq hc (l.length : Int) (by omega)
      cases ho : onceB (l.length : Int) c with
      | false => rw [ho] at e2; simp [g493, e1, hs.len, w, er, e2]; exact fin (by simp [nextB, ho])
      | true =>
        rw [ho] at e2
        have e3 := l5Sub_eq hc.sl hd
        cases ha : (c.all fun x => decide (x ∈ ds)) with
        | false => rw [ha] at e3; simp [g493, e1, hs.len, w, er, e2, e3]; exact fin (by simp only [nextB, ha, Bool.and_false])
        | true =>
          have hb : nextB l ds c = true := by simp only [nextB, hk, ho, ha, Bool.and_true]
          rw [ha] at e3
          obtain ⟨r, h4, e4, s4, k4, l4⟩ := l14Next_ok hs hd hc.sl hg hin (by omega)
          simp [g493, e1, hs.len, w, er, e2, e3, e4]
          exact hR _ _ ⟨r, by rw [hb], by simpa [hb] using s4, k4, l4⟩

noncomputable def waitL (l : List (List Int)) (ds : List Int) (n : Int) : List Int := (reachL l n).filter fun x => !decide (x ∈ ds)
def waitB (l : List (List Int)) (ds : List Int) (n : Int) : Bool := nodeB l n && risB 0 ((l.length : Int) - 1) ds
theorem WaitsOn_ok {h : Heap} {v w : V} {l : List (List Int)} {F : List Nat} {ds : List Int} (hs : SdF h v l F) (hd : Sl h w ds) (n : Int) :
    ∃ r h', call p 487 [v, w, vi n] h = some (r, h') ∧ ∃ o, r = .tup [o, .bool (waitB l ds n)] ∧ Sl h' o (if waitB l ds n = true then waitL l ds n else []) ∧ Keeps h h' ∧ h.length ≤ h'.length := by
  obtain ⟨_, h1, e1, rfl, k1, l1⟩ := areKnown_ok hs hd
  have hbd := hs.bd
  have w : IntKind.i64.wrap ((l.length : Int) - 1) = (l.length : Int) - 1 := by rw [IntWalk.i64_in] <;> omega
  refine go (fn := g487) rfl rfl fun R hR => ?_
  have fin : ∀ h', waitB l ds n = false → Keeps h h' → h.length ≤ h'.length → R (.tup [.nils, .bool false]) h' := fun h' hb hk hl => hR _ _ ⟨.nils, by rw [hb], by simp [hb]; exact Sl.nil, hk, hl⟩
  cases hk : knownB l ds with
  | false =>
    have hb : waitB l ds n = false := by
      simp only [knownB, Bool.and_eq_false_iff] at hk
      rcases hk with hk | hk <;> simp [waitB, nodeB, hk]
    rw [hk] at e1; simp [g487, e1]; exact fin _ hb k1 l1
  | true =>
    rw [hk] at e1
    obtain ⟨hg, hin, _, hdl⟩ := knownB_facts hk
    have l12 := (linksB_facts hg).1
    have hr : risB 0 ((l.length : Int) - 1) ds = true := by simp only [knownB, Bool.and_eq_true] at hk; exact hk.2
    by_cases hn : 0 ≤ n ∧ n ≤ (l.length : Int) - 1
    · have hb : waitB l ds n = true := by simp only [waitB, nodeB, hg, hr, decide_eq_true hn, Bool.and_self]
      have hni : InR l n := ⟨hn.1, by omega⟩
      obtain ⟨r, h2, e2, G, s2, _, k2, l2⟩ := reach_ok (hs.keep k1) hg n hni
      have := reachL_len hg hni
      obtain ⟨r3, h3, e3, G3, s3, _, k3, l3⟩ := without_ok s2.sl (hd.keeps (k1.trans k2)) (by omega)
      simp [g487, e1, hs.len, w, hn, e2, e3]
      exact hR _ _ ⟨r3, by rw [hb], by simpa [hb, waitL] using s3.sl, (k1.trans k2).trans k3, by omega⟩
    · have hb : waitB l ds n = false := by simp only [waitB, nodeB, decide_eq_false hn, Bool.and_false, Bool.false_and]
      simp [g487, e1, hs.len, w, hn, -Bool.decide_and]; exact fin _ hb k1 l1
theorem WaitsOnS_ok {h : Heap} {v w : V} {l : List (List Int)} {F : List Nat} {ds : List Int} (hs : SdF h v l F) (hd : Sl h w ds) (n : Int) :
    ∃ r h', call p 488 [v, w, vi n] h = some (r, h') ∧ ∃ o, r = .tup [o, .bool (waitB l ds n)] ∧ Sl h' o (if waitB l ds n = true then waitL l ds n else []) ∧ Keeps h h' ∧ h.length ≤ h'.length := by
  have e1 := l9Node_eq hs n
  have hbd := hs.bd
  have w : IntKind.i64.wrap ((l.length : Int) - 1) = (l.length : Int) - 1 := by rw [IntWalk.i64_in] <;> omega
  have er := l1Rising_eq hd 0 ((l.length : Int) - 1)
  refine go (fn := g488) rfl rfl fun R hR => ?_
  have fin : waitB l ds n = false → R (.tup [.nils, .bool false]) h := fun hb => hR _ _ ⟨.nils, by rw [hb], by simp [hb]; exact Sl.nil, Keeps.refl _, Nat.le_refl _⟩
  cases hk : nodeB l n with
  | false => rw [hk] at e1; simp [g488, e1]; exact fin (by simp [waitB, hk])
  | true =>
    rw [hk] at e1
    obtain ⟨hg, hni⟩ := nodeB_facts hk
    have l12 := (linksB_facts hg).1
    cases hr : risB 0 ((l.length : Int) - 1) ds with
    | false => rw [hr] at er; simp [g488, e1, hs.len, w, er]; exact fin (by simp [waitB, hr])
    | true =>
      rw [hr] at er
      have hb : waitB l ds n = true := by simp [waitB, hk, hr]
      obtain ⟨r, h2, e2, G, s2, k2, l2⟩ := l9Reach_ok hs hg n hni
      have := reachL_len hg hni
      obtain ⟨r3, h3, e3, s3, k3, l3⟩ := l6Less_ok s2.sl (hd.keeps k2) (by omega)
      simp [g488, e1, hs.len, w, er, e2, e3]
      exact hR _ _ ⟨r3, by rw [hb], by simpa [hb, waitL] using s3.sl, k2.trans k3, by omega⟩
end GL

namespace GL
open Go

theorem drawReadyOf_ok {h : Heap} {v : V} {bs : List Byte} (hs : Sl h v bs) : ∃ r h', call p 543 [v] h = some (r, h') ∧ ∃ (w u : V) (l : List (List Int)) (F : List Nat) (ds : List Int), r = .tup [w, u] ∧ SdF h' w l F ∧ l.length ≤ 13 ∧ Sl h' u ds ∧ ds.length ≤ 30 ∧ Keeps h h' ∧ h.length ≤ h'.length := by
  have d0 := DC.start hs
  obtain ⟨w, h1, e1, xs, F, s1, hx, hF, d1, k1, l1⟩ := d0.links (by decide)
  obtain ⟨a, h2, e2, ha, d2, k2, l2⟩ := d1.pick (by omega) 20 (by decide)
  have t : (a : Int).tdiv 19 = (a / 19 : Nat) := by rw [Int.tdiv_eq_ediv_of_nonneg (by omega)]; omega
  have w2 : IntKind.i64.wrap ((a / 19 : Nat) : Int) = (a / 19 : Nat) := by rw [IntWalk.i64_in] <;> omega
  have w3 : IntKind.i64.wrap ((xs.length : Int) + (a / 19 : Nat)) = (xs.length + a / 19 : Nat) := by rw [IntWalk.i64_in] <;> omega
  obtain ⟨u, h3, e3, ds, o3, hd, d3, k3, l3⟩ := d2.someOf (by omega) (xs.length + a / 19) (by omega)
  have ne : ∀ b ∈ F, b ≠ h.length := fun b hb => by have := hF b hb; simp at this; omega
  simp at l1 e1
  refine go (fn := g543) rfl rfl fun R hR => ?_
  simp [g543, hs.cells, hs.cell, fillL, e1, s1.len, e2, e3, t, w2, w3, -Int.natCast_add, -Int.natCast_ediv]
  exact hR _ _ ⟨w, u, xs, F, ds, rfl, (s1.keeps (k2.P.mono ne)).keeps (k3.P.mono ne), hx, o3.sl, hd, d3.keep, by omega⟩
theorem drawWaitsOn_ok {h : Heap} {v : V} {bs : List Byte} (hs : Sl h v bs) : ∃ r h', call p 486 [v] h = some (r, h') ∧ ∃ (w u : V) (n : Int) (l : List (List Int)) (F : List Nat) (ds : List Int), r = .tup [w, u, vi n] ∧ SdF h' w l F ∧ Sl h' u ds ∧ Keeps h h' ∧ h.length ≤ h'.length := by
  obtain ⟨_, h1, e1, w, u, l, F, ds, rfl, s1, hl, s2, hd, k1, l1⟩ := drawReadyOf_ok hs
  have hs1 := hs.keeps k1
  have d0 := DC.start hs1
  have w1 : IntKind.i64.wrap ((l.length : Int) + 1) = (l.length + 1 : Nat) := by rw [IntWalk.i64_in] <;> omega
  obtain ⟨a, h2, e2, ha, d2, k2, l2⟩ := d0.pick (by omega) ((l.length + 1 : Nat) : Int) (by omega)
  obtain ⟨b, h3, e3, hb, d3, k3, l3⟩ := d2.pick (by omega) 9 (by decide)
  have t : (b : Int).tdiv 8 = (b / 8 : Nat) := by rw [Int.tdiv_eq_ediv_of_nonneg (by omega)]; omega
  have w2 : IntKind.i64.wrap ((b / 8 : Nat) : Int) = (b / 8 : Nat) := by rw [IntWalk.i64_in] <;> omega
  have w3 : IntKind.i64.wrap ((a : Int) - (b / 8 : Nat)) = (a : Int) - (b / 8 : Nat) := by rw [IntWalk.i64_in] <;> omega
  have k3' := d3.keep
  simp at l2
  refine go (fn := g486) rfl rfl fun R hR => ?_
  simp [g486, e1, hs.cells, hs.cell, fillL, s1.len, w1, e2, e3, t, w2, w3, -Int.natCast_add, -Int.natCast_ediv]
  exact hR _ _ ⟨w, u, _, l, F, ds, rfl, s1.keep k3', s2.keeps k3', k1.trans k3', by omega⟩
theorem drawNextDone_ok {h : Heap} {v : V} {bs : List Byte} (hs : Sl h v bs) : ∃ r h', call p 491 [v] h = some (r, h') ∧ ∃ (w u x : V) (l : List (List Int)) (F G : List Nat) (ds c : List Int), r = .tup [w, u, x] ∧ SdF h' w l F ∧ Sl h' u ds ∧ SdF h' x c G ∧ c.length ≤ 2 ^ 20 ∧ Keeps h h' ∧ h.length ≤ h'.length := by
  obtain ⟨_, h1, e1, w, u, l, F, ds, rfl, s1, hl, s2, hd, k1, l1⟩ := drawReadyOf_ok hs
  have hs1 := hs.keeps k1
  have d0 := DC.start hs1
  have k0 : Keeps h1 (h1 ++ [⟨.own, [v, vi 0, .int .u64 0]⟩]) := Keeps.append _ _
  obtain ⟨_, h2, e2, o, G, rfl, s3, f3, k2, l2⟩ := ReadyOfS_ok (s1.keep k0) (s2.keeps k0)
  have d2 := d0.keeps k2
  have hol : (if knownB l ds = true then readyL l ds else []).length ≤ 30 := by
    split
    · exact Nat.le_trans (List.length_filter_le ..) hd
    · simp
  generalize (if knownB l ds = true then readyL l ds else []) = rs at s3 hol
  have nG : ∀ b ∈ G, b ≠ h1.length := fun b hb => by have := f3.ge b hb; simp at this; omega
  have k02 := k0.trans k2
  refine go (fn := g491) rfl rfl fun R hR => ?_
  by_cases h0 : rs = []
  · subst h0
    obtain ⟨one, h3, e3, d3, k3, l3⟩ := d2.one (by omega) 20 (by decide)
    have k3' := d3.keep
    cases one with
    | false =>
      simp [g491, e1, hs.cells, hs.cell, fillL, e2, s3.len, e3]
      exact hR _ _ ⟨w, u, o, l, F, G, ds, [], rfl, s1.keep k3', s2.keeps k3', s3.keeps (k3.P.mono nG), by simp, k1.trans k3', by simp at l2; omega⟩
    | true =>
      obtain ⟨a, h4, e4, ha, d4, k4, l4⟩ := d3.pick (by omega) 14 (by decide)
      have w1 : IntKind.i64.wrap ((a : Int) - 1) = (a : Int) - 1 := by rw [IntWalk.i64_in] <;> omega
      have k4' := d4.keep.trans (Keeps.append _ [⟨.own, [vi ((a : Int) - 1)]⟩])
      have sl := Sl.lit (h := h4) [(a : Int) - 1] 1 rfl [vi ((a : Int) - 1)] rfl (.k 1) (by simp)
      obtain ⟨G5, s5, _⟩ := Sl.sdF sl (Nat.le_refl 1)
      simp [g491, e1, hs.cells, hs.cell, fillL, e2, s3.len, e3, e4, w1]
      exact hR _ _ ⟨w, u, _, l, F, G5, ds, _, rfl, s1.keep k4', s2.keeps k4', s5, by simp, k1.trans k4', by simp at l2 ⊢; omega⟩
  · have hpos : (0 : Int) < rs.length := by have := List.length_pos_iff.2 h0; omega
    have w0 : IntKind.i64.wrap ((rs.length : Int) + 1) = (rs.length + 1 : Nat) := by rw [IntWalk.i64_in] <;> omega
    obtain ⟨m, h3, e3, hm, d3, k3, l3⟩ := d2.pick (by omega) ((rs.length + 1 : Nat) : Int) (by omega)
    obtain ⟨x, G3, ex, sx, hG3⟩ := (s3.keeps (k3.P.mono nG)).pre (i := m) (by omega)
    obtain ⟨one, h4, e4, d4, k4, l4⟩ := d3.one (by omega) 20 (by decide)
    have k4' := d4.keep
    cases one with
    | false =>
      simp [g491, e1, hs.cells, hs.cell, fillL, e2, s3.len, hpos, w0, e3, bounds, takeB, ex, e4, -Int.natCast_add, -Int.natCast_pos]
      exact hR _ _ ⟨w, u, x, l, F, G3, ds, _, rfl, s1.keep k4', s2.keeps k4', sx.keeps (k4.P.mono fun b hb => nG b (hG3 b hb)), by rw [List.length_take]; omega, k1.trans k4', by simp at l2; omega⟩
    | true =>
      obtain ⟨a, h5, e5, ha, d5, k5, l5⟩ := d4.pick (by omega) 14 (by decide)
      have w1 : IntKind.i64.wrap ((a : Int) - 1) = (a : Int) - 1 := by rw [IntWalk.i64_in] <;> omega
      have k5' := d5.keep.trans (Keeps.append _ [⟨.own, [vi ((a : Int) - 1)]⟩])
      have sl := Sl.lit (h := h5) [(a : Int) - 1] 1 rfl [vi ((a : Int) - 1)] rfl (.k 1) (by simp)
      obtain ⟨G5, s5, _⟩ := Sl.sdF sl (Nat.le_refl 1)
      simp [g491, e1, hs.cells, hs.cell, fillL, e2, s3.len, hpos, w0, e3, bounds, takeB, ex, e4, e5, w1, -Int.natCast_add, -Int.natCast_pos]
      exact hR _ _ ⟨w, u, _, l, F, G5, ds, _, rfl, s1.keep k5', s2.keeps k5', s5, by simp, k1.trans k5', by simp at l2 ⊢; omega⟩

theorem mem_next {l : List (List Int)} {ds c : List Int} (hk : knownB l ds = true) {x : Int} (hx : x ∈ readyL l ds) : x ∈ nextL l ds c ↔ ¬ x ∈ c := by
  obtain ⟨hg, hin, _, _⟩ := knownB_facts hk
  have hd : x ∈ ds := (List.mem_filter.1 hx).1
  have ho := ((groupsL_facts hg).2.1 x).1 (hin x hd)
  simp only [nextL, List.mem_filter, hx, ho]
  simp
theorem mem_ready {l : List (List Int)} {ds : List Int} {n : Int} (hg : linksB l = true) (hn : InR l n) : n ∈ readyL l ds ↔ waitL l ds n = [] := by
  have hr : n ∈ reachL l n := (mem_reachL hg hn).2 (.refl n)
  simp only [readyL, waitL, List.mem_filter, List.filter_eq_nil_iff, List.all_eq_true]
  constructor
  · rintro ⟨_, h2⟩ x hx
    simpa using h2 x hx
  · intro h2
    have h3 : ∀ x ∈ reachL l n, decide (x ∈ ds) = true := fun x hx => by simpa using h2 x hx
    exact ⟨by simpa using h3 n hr, h3⟩
theorem FnReady_ok {h : Heap} {va vb : V} {as bs : List Byte} (ha : Sl h va as) (hb : Sl h vb bs) : ∃ r h', call p 485 [va, vb] h = some (r, h') ∧ r = .bool true := by
  refine go (fn := g485) rfl rfl fun R hR => ?_
  by_cases hbig : (1048576 : Int) < IntKind.i64.wrap ((as.length : Int) + bs.length)
  · simp [g485, ha.len, hb.len, hbig]
    exact hR _ _ rfl
  · obtain ⟨_, h1, e1, w, u, n, l, F, ds, rfl, c1, d1, k1, l1⟩ := drawWaitsOn_ok ha
    obtain ⟨_, h2, e2, o, rfl, s2, k2, l2⟩ := WaitsOn_ok c1 d1 n
    obtain ⟨_, h3, e3, o', rfl, s3, k3, l3⟩ := WaitsOnS_ok (c1.keep k2) (d1.keeps k2) n
    have k23 := k2.trans k3
    obtain ⟨_, h4, e4, q, Q, rfl, s4, k4, l4⟩ := ReadyOf_ok (c1.keep k23) (d1.keeps k23)
    have k24 := k23.trans k4
    obtain ⟨_, h5, e5, q', Q', rfl, s5, _, k5, l5⟩ := ReadyOfS_ok (c1.keep k24) (d1.keeps k24)
    have k25 := k24.trans k5
    have e6 := sameInts_eq (s2.keeps ((k3.trans k4).trans k5)) (s3.keeps (k4.trans k5))
    rw [decide_eq_true rfl] at e6
    have e7 := sameInts_eq (s4.sl.keeps k5) s5.sl
    rw [decide_eq_true rfl] at e7
    have e8 := has_eq (s4.sl.keeps k5) n
    have s2' := s2.keeps ((k3.trans k4).trans k5)
    have b5 := hb.keeps (k1.trans k25)
    obtain ⟨_, h6, e9, w2, u2, x2, l', F2, G2, es, c, rfl, c6, d6, x6, hcl, k6, l6⟩ := drawNextDone_ok b5
    obtain ⟨_, h7, e10, t, rfl, s7, k7, l7⟩ := NextDone_ok c6 d6 x6.sl hcl
    obtain ⟨_, h8, e11, t', rfl, s8, k8, l8⟩ := NextDoneS_ok (c6.keep k7) (d6.keeps k7) (x6.keep k7)
    have e12 := sameInts_eq (s7.keeps k8) s8
    rw [decide_eq_true rfl] at e12
    have k78 := k7.trans k8
    have key : (waitB l ds n = true → knownB l ds = true → (decide (n ∈ (if knownB l ds = true then readyL l ds else [])) = decide ((if waitB l ds n = true then waitL l ds n else []).length = 0))) := fun a b => by
      simp only [waitB, Bool.and_eq_true] at a
      obtain ⟨hg, hn⟩ := nodeB_facts a.1
      have hw : waitB l ds n = true := by simp [waitB, a.1, a.2]
      simp only [b, hw, if_true, mem_ready hg hn, List.length_eq_zero_iff]
    generalize hwt : waitB l ds n = wb at *
    generalize hkn : knownB l ds = kb at *
    generalize (if wb = true then waitL l ds n else []) = wl at *
    generalize (if kb = true then readyL l ds else []) = rl at *
    cases hnb : nextB l' es c with
    | false =>
      rw [hnb] at e10 e11
      cases wb <;> cases kb
      · simp [g485, ha.len, hb.len, hbig, e1, e2, e3, e4, e5, e6, e7, e9, e10, e11, e12]
        exact hR _ _ rfl
      · simp [g485, ha.len, hb.len, hbig, e1, e2, e3, e4, e5, e6, e7, e9, e10, e11, e12]
        exact hR _ _ rfl
      · simp [g485, ha.len, hb.len, hbig, e1, e2, e3, e4, e5, e6, e7, e9, e10, e11, e12]
        exact hR _ _ rfl
      · rw [key rfl rfl] at e8
        simp [g485, ha.len, hb.len, hbig, e1, e2, e3, e4, e5, e6, e7, e8, s2'.len, e9, e10, e11, e12]
        exact hR _ _ rfl
    | true =>
      rw [hnb] at e10 e11
      rw [hnb, if_pos rfl] at s7
      have hk' : knownB l' es = true := by simp only [nextB, Bool.and_eq_true] at hnb; exact hnb.1.1
      obtain ⟨_, h9, e13, y, Y, rfl, s9, k9, l9⟩ := ReadyOf_ok (c6.keep k78) (d6.keeps k78)
      rw [hk'] at e13
      rw [hk', if_pos rfl] at s9
      have t9 := s7.keeps (k8.trans k9)
      have x9 := x6.sl.keeps (k78.trans k9)
      have lp : ∀ (s0 : S) (K : Ex → S → Prop), s0.σ 136 = .v y → s0.σ 137 = .v (vi (readyL l' es).length) → s0.σ 138 = .v (vi 0) → s0.σ 19 = .v t → s0.σ 18 = .v x2 → s0.h = h9 → (∀ s, s.h = h9 → K (.exit 0) s) → Wc p (.loop g485_0) s0 K := fun s0 K g136 g137 g138 g19 g18 gh hK => by
        refine Wc_upM (M := [4, 26, 138, 139, 140, 141, 142, 143, 144, 145, 146, 147, 148, 149]) rfl (readyL l' es).length (fun i s => s.σ 138 = .v (vi i) ∧ s.h = h9) 0 (by simp [g138, gh]) fun i s ⟨g138, gh⟩ hM J hJ => ?_
        by_cases hi : i < (readyL l' es).length
        · have ix := s9.idx 1 .i64 i hi
          have ld := s9.sl.loadI i hi
          simp only [Nat.mul_one] at ix
          have f1 := has_eq t9 (readyL l' es)[i]
          have f2 := has_eq x9 (readyL l' es)[i]
          have f3 := mem_next (c := c) hk' (List.getElem_mem hi)
          simp only [f3] at f1
          by_cases hm : (readyL l' es)[i] ∈ c
          · simp only [hm, not_true_eq_false, decide_false, decide_true] at f1 f2
            simp [g485_0, hM, g136, g137, g138, g19, g18, gh, hi, ix, ld, f1, f2, s9.step hi]
            exact hJ _ hi ⟨by simp, rfl⟩
          · simp only [hm, not_false_eq_true, decide_false, decide_true] at f1 f2
            simp [g485_0, hM, g136, g137, g138, g19, g18, gh, hi, ix, ld, f1, f2, s9.step hi]
            exact hJ _ hi ⟨by simp, rfl⟩
        · simp [g485_0, hM, g136, g137, g138, gh, hi]
          exact hK _ rfl
      cases wb <;> cases kb
      · simp [g485, ha.len, hb.len, hbig, e1, e2, e3, e4, e5, e6, e7, e9, e10, e11, e12, e13, s9.len]
        refine lp _ _ rfl rfl rfl rfl rfl rfl fun s gh => ?_
        simp; exact hR _ _ rfl
      · simp [g485, ha.len, hb.len, hbig, e1, e2, e3, e4, e5, e6, e7, e9, e10, e11, e12, e13, s9.len]
        refine lp _ _ rfl rfl rfl rfl rfl rfl fun s gh => ?_
        simp; exact hR _ _ rfl
      · simp [g485, ha.len, hb.len, hbig, e1, e2, e3, e4, e5, e6, e7, e9, e10, e11, e12, e13, s9.len]
        refine lp _ _ rfl rfl rfl rfl rfl rfl fun s gh => ?_
        simp; exact hR _ _ rfl
      · rw [key rfl rfl] at e8
        simp [g485, ha.len, hb.len, hbig, e1, e2, e3, e4, e5, e6, e7, e8, s2'.len, e9, e10, e11, e12, e13, s9.len]
        refine lp _ _ rfl rfl rfl rfl rfl rfl fun s gh => ?_
        simp; exact hR _ _ rfl
end GL

