import Derived.ChangeArms
import Derived.IntWalk
import Derived.WideShapes
import Derived.Test.YtmgbbehacaldlaaGreatGuFnPiecesA
/- What the functions of the law do, on the machine. -/
set_option linter.unusedSimpArgs false
set_option linter.unusedVariables false
set_option linter.unnecessarySimpa false
namespace GL
open Go

theorem links1_eq {h : Heap} {b : Nat} {u : V} {l : List (List Int)} {F : List Nat} (hb : h[b]? = some ⟨.own, [u]⟩) (hu : SdF h u l F) {v : V} {xs : List Int} (hs : Sl h v xs) : call p 559 [v, .ptr b 0] h = some (.bool !risB 0 ((l.length : Int) - 1) xs, h) := by
  refine go_eq (fn := g559) rfl rfl fun R hR => ?_
  have hbd := hu.bd
  have w : IntKind.i64.wrap ((l.length : Int) - 1) = (l.length : Int) - 1 := by rw [IntWalk.i64_in] <;> omega
  simp [g559, rdH_at hb, hu.len, w, isRising_eq hs]; exact hR
theorem GoodLinks_ok {h : Heap} {v : V} {l : List (List Int)} {F : List Nat} (hs : SdF h v l F) : ∃ r h', call p 500 [v] h = some (r, h') ∧ r = .bool (linksB l) ∧ Keeps h h' ∧ h.length ≤ h'.length := by
  refine go (fn := g500) rfl rfl fun R hR => ?_
  have k0 : Keeps h (h ++ [⟨.own, [v]⟩]) := Keeps.append _ _
  have hb0 : (h ++ [⟨.own, [v]⟩])[h.length]? = some ⟨.own, [v]⟩ := get_last _ _
  have r0 : rdH (h ++ [⟨.own, [v]⟩]) h.length 0 1 = some [v] := by rw [rdH_at hb0 (by simp)]; rfl
  have e1 := containsL_eq (hs.keep k0) (f := 559) (capt := [.ptr h.length 0]) (q := fun xs => !risB 0 ((l.length : Int) - 1) xs) fun x xs G hx => links1_eq hb0 (hs.keep k0) hx.sl
  have ea : (l.any fun xs => !risB 0 ((l.length : Int) - 1) xs) = !(l.all fun xs => risB 0 ((l.length : Int) - 1) xs) := by rw [List.not_all_eq_any_not]
  rw [ea] at e1
  by_cases hl : l.length ≤ 12
  · have hl2 : (l.length : Int) ≤ 12 := by omega
    cases hall : (l.all fun xs => risB 0 ((l.length : Int) - 1) xs) <;>
    · rw [hall] at e1
      simp [g500, hs.cells, hs.cell, r0, hs.len, hl2, e1]
      exact hR _ _ ⟨by simp [linksB, hl, hall], k0, by simp⟩
  · have hl2 : ¬ (l.length : Int) ≤ 12 := by omega
    simp [g500, hs.cells, hs.cell, r0, hs.len, hl2]
    exact hR _ _ ⟨by simp [linksB, hl], k0, by simp⟩
theorem GoodLinksS_eq {h : Heap} {v : V} {l : List (List Int)} {F : List Nat} (hs : SdF h v l F) : call p 550 [v] h = some (.bool (linksB l), h) := by
  refine go_eq (fn := g550) rfl rfl fun R hR => ?_
  have hbd := hs.bd
  have w : IntKind.i64.wrap ((l.length : Int) - 1) = (l.length : Int) - 1 := by rw [IntWalk.i64_in] <;> omega
  simp [g550, hs.len]
  refine Wc_upM (M := [2, 4, 7, 8, 9, 10, 11, 12, 13, 14, 15, 16, 17]) rfl l.length (fun i s => s.σ 7 = .v (vi i) ∧ s.h = h ∧ ∀ xs ∈ l.take i, risB 0 ((l.length : Int) - 1) xs = true) 0 (by simp) fun i s ⟨g7, gh, hall⟩ hM J hJ => ?_
  by_cases hn : i < l.length
  · obtain ⟨x, F2, ex, hx, _⟩ := hs.loadL i hn
    have e1 := l1Rising_eq hx.sl 0 ((l.length : Int) - 1)
    cases hr : risB 0 ((l.length : Int) - 1) l[i] with
    | false =>
      rw [hr] at e1
      simp [g550_0, hM, g7, gh, hn, hs.idx, ex, hs.len, w, e1]
      have : linksB l = false := by
        have : (l.all fun xs => risB 0 ((l.length : Int) - 1) xs) = false := List.all_eq_false.2 ⟨_, List.getElem_mem hn, by simp [hr]⟩
        simp [linksB, this]
      rw [this] at hR; exact hR
    | true =>
      rw [hr] at e1
      simp [g550_0, hM, g7, gh, hn, hs.idx, ex, hs.len, w, e1, hs.step hn]
      exact hJ _ hn ⟨by simp, rfl, (all_take_succ hn).2 ⟨hall, hr⟩⟩
  · rw [List.take_of_length_le (by omega)] at hall
    have ha : (l.all fun xs => risB 0 ((l.length : Int) - 1) xs) = true := List.all_eq_true.2 hall
    by_cases hl : l.length ≤ 12
    · have hl2 : (l.length : Int) ≤ 12 := by omega
      simp [g550_0, hM, g7, gh, hn, hs.len, hl2]
      simpa [linksB, ha, hl] using hR
    · have hl2 : ¬ (l.length : Int) ≤ 12 := by omega
      simp [g550_0, hM, g7, gh, hn, hs.len, hl2]
      simpa [linksB, ha, hl] using hR

/-- what was read stands as it was -/
theorem stab1 {A B C : Type} {a : A} {b : B} {c : C} {P : A → B → C → Prop} : (∀ o as x, some (a, b, c) = some (o, as, x) → P o as x) ↔ P a b c := ⟨fun h => h _ _ _ rfl, fun h o as x e => by cases e; exact h⟩

theorem group_ok {h : Heap} {v : V} {l : List (List Int)} {F : List Nat} (hs : SdF h v l F) (hg : linksB l = true) (a : Int) (ha : InR l a) :
    ∃ r h', call p 560 [v, vi a] h = some (r, h') ∧ ∃ G, SdF h' r (groupL l a) G ∧ Fresh h.length h' G ∧ Keeps h h' ∧ h.length ≤ h'.length := by
  refine go (fn := g560) rfl rfl fun R hR => ?_
  have k1 : Keeps h (h ++ [⟨.own, [v]⟩, ⟨.own, [vi a]⟩]) := Keeps.append _ _
  have hb1 : (h ++ [⟨.own, [v]⟩, ⟨.own, [vi a]⟩])[h.length]? = some ⟨.own, [v]⟩ := by simp
  have hb2 : (h ++ [⟨.own, [v]⟩, ⟨.own, [vi a]⟩])[h.length + 1]? = some ⟨.own, [vi a]⟩ := by simp
  have r1 : rdH (h ++ [⟨.own, [v]⟩, ⟨.own, [vi a]⟩]) h.length 0 1 = some [v] := by rw [rdH_at hb1 (by simp)]; rfl
  have r2 : rdH (h ++ [⟨.own, [v]⟩, ⟨.own, [vi a]⟩]) (h.length + 1) 0 1 = some [vi a] := by rw [rdH_at hb2 (by simp)]; rfl
  obtain ⟨r, h2, e2, G, s2, f2, k2, l2⟩ := reach_ok (hs.keep k1) hg a ha
  simp at l2
  have hc1 := k2 _ _ hb1 (by simp)
  have hc2 := k2 _ _ hb2 (by simp)
  have f2' : ∀ b ∈ G, h.length + 2 ≤ b := fun b hb => by have := f2.ge b hb; simpa using this
  obtain ⟨r3, h3, e3, G3, s3, f3, k3, l3⟩ := deleteIg_ok s2 f2 (f := 576) (capt := [.ptr h.length 0, .ptr (h.length + 1) 0]) (q := fun b => !decide (a ∈ reachL l b)) fun h' hk hl n hn => by
    have d1 := hk _ _ (fun hm => by have := f2' _ hm; omega) hc1 (by simp)
    have d2 := hk _ _ (fun hm => by have := f2' _ hm; omega) hc2 (by simp)
    have kk : Keeps h h' := Keeps.far (n := h.length) (k1.trans k2) hk (Nat.le_refl _) fun i hi hm => by have := f2' i hm; omega
    have hn' : InR l n := ((mem_reachL hg ha).1 hn).lt hg ha
    obtain ⟨r4, h4, e4, G4, s4, f4, k4, l4⟩ := reach_ok (hs.keep kk) hg n hn'
    have : ∃ r h'', call p 576 [vi n, .ptr h.length 0, .ptr (h.length + 1) 0] h' = some (r, h'') ∧ r = .bool (!decide (a ∈ reachL l n)) ∧ h'' = h4 := by
      refine go (fn := g576) rfl rfl fun R hR => ?_
      have t1 : rdH h' h.length 0 1 = some [v] := by rw [rdH_at d1 (by simp)]; rfl
      have t2 : rdH h' (h.length + 1) 0 1 = some [vi a] := by rw [rdH_at d2 (by simp)]; rfl
      have t3 := rdH_keep k4 t2
      simp [g576, t1, t2, e4, stable, stab1, t3, containsI_eq s4.sl]
      exact hR _ _ ⟨rfl, rfl⟩
    obtain ⟨_, _, e, rfl, rfl⟩ := this
    exact ⟨_, e, k4, l4⟩
  have hf : (reachL l a).filter (fun n => !(!decide (a ∈ reachL l n))) = groupL l a := by unfold groupL; congr 1; funext n; simp
  rw [hf] at s3
  simp [g560, hs.cells, hs.cell, r1, r2, e2, e3]
  exact hR _ _ ⟨G3, s3, f3.mono (by simp), Keeps.far (n := h.length) (k1.trans k2) k3 (Nat.le_refl _) fun i hi hm => by have := f2' i hm; omega, by omega⟩
end GL

namespace GL
open Go

theorem hasAll_ok {h : Heap} {v w : V} {as bs : List Int} (hs : Sl h v as) (ht : Sl h w bs) : ∃ r h', call p 552 [v, w] h = some (r, h') ∧ r = .bool (bs.all fun n => decide (n ∈ as)) ∧ Keeps h h' ∧ h.length ≤ h'.length := by
  have k0 : Keeps h (h ++ [⟨.own, [v]⟩]) := Keeps.append _ _
  have hb0 : (h ++ [⟨.own, [v]⟩])[h.length]? = some ⟨.own, [v]⟩ := get_last _ _
  have r0 : rdH (h ++ [⟨.own, [v]⟩]) h.length 0 1 = some [v] := by rw [rdH_at hb0 (by simp)]; rfl
  have e1 := containsFh_eq (ht.keeps k0) 572 [.ptr h.length 0] (fun n => !decide (n ∈ as)) fun n => by
    refine go_eq (fn := g572) rfl rfl fun R hR => ?_
    simp [g572, r0, containsI_eq (hs.keeps k0)]; simpa using hR
  have ea : (bs.any fun n => !decide (n ∈ as)) = !(bs.all fun n => decide (n ∈ as)) := by rw [List.not_all_eq_any_not]
  rw [ea] at e1
  generalize (bs.all fun n => decide (n ∈ as)) = q at e1 ⊢
  refine go (fn := g552) rfl rfl fun R hR => ?_
  simp [g552, hs.cells, hs.cell, e1]
  exact hR _ _ ⟨rfl, k0, by simp⟩

theorem Out.mono {α : Type} [Flat α] {lo lo' : Nat} {h : Heap} {v : V} {xs : List α} (o : Out lo' h v xs) (hl : lo ≤ lo') : Out lo h v xs := by
  obtain ⟨h1, h2, ⟨rfl, rfl⟩ | ⟨b, rfl, hb, h3⟩ | ⟨b, rfl, rfl, h3, h4⟩⟩ := o
  · exact ⟨h1, by omega, .inl ⟨rfl, rfl⟩⟩
  · exact ⟨h1, by omega, .inr (.inl ⟨b, rfl, hb, by omega⟩)⟩
  · exact ⟨h1, by omega, .inr (.inr ⟨b, rfl, rfl, by omega, h4⟩)⟩

theorem l9Group_ok {h : Heap} {v : V} {l : List (List Int)} {F : List Nat} (hs : SdF h v l F) (hg : linksB l = true) (a : Int) (ha : InR l a) :
    ∃ r h', call p 562 [v, vi a] h = some (r, h') ∧ Out h.length h' r (groupL l a) ∧ Keeps h h' ∧ h.length ≤ h'.length := by
  obtain ⟨r, h1, e1, G, s1, k1, l1⟩ := l9Reach_ok hs hg a ha
  have hlen := reachL_len hg ha
  obtain ⟨g12, _⟩ := linksB_facts hg
  refine go (fn := g562) rfl rfl fun R hR => ?_
  simp [g562, e1, s1.len]
  refine Wc_upM (M := [5, 7, 12, 13, 14, 15, 16, 17, 18, 19, 20, 21, 22, 23, 24, 25]) rfl (reachL l a).length (fun i s => s.σ 12 = .v (vi i) ∧ ∃ v5, s.σ 5 = .v v5 ∧ Out h1.length s.h v5 (((reachL l a).take i).filter fun b => decide (a ∈ reachL l b)) ∧ Keeps h1 s.h ∧ h1.length ≤ s.h.length) 0
    ⟨by simp, .nils, by simp, by simpa using Out.nil (Nat.le_refl _), Keeps.refl _, Nat.le_refl _⟩ fun i s ⟨g12', v5, g5, ho, hk, hl⟩ hM J hJ => ?_
  by_cases hn : i < (reachL l a).length
  · have s1' := s1.keep hk
    have ht := List.take_succ_eq_append_getElem hn
    have hin : InR l (reachL l a)[i] := ((mem_reachL hg ha).1 (List.getElem_mem hn)).lt hg ha
    obtain ⟨r2, h2, e2, G2, s2, k2, l2⟩ := l9Reach_ok ((hs.keep k1).keep hk) hg _ hin
    have e3 := l1Has_eq s2.sl a
    have ho2 : Out h1.length h2 v5 _ := ho.keeps (k2.p fun _ => True) (fun _ _ => trivial) l2
    by_cases hm : a ∈ reachL l (reachL l a)[i]
    · rw [decide_eq_true hm] at e3
      have hle : (((reachL l a).take i).filter fun b => decide (a ∈ reachL l b)).length ≤ 2 ^ 20 := Nat.le_trans (List.length_filter_le ..) (by simp; omega)
      obtain ⟨v6, h3, e4, o3, k3, l3⟩ := ho2.one (reachL l a)[i] hle
      have s1'' := s1'.sl.loadI i hn
      have ij := s1'.idx 1 .i64 i hn
      simp only [Nat.mul_one] at ij
      simp [g562_0, hM, g12', g5, hn, ij, s1'', e2, e3, fillL, rdS_last, e4, s1.step hn]
      refine hJ _ hn ⟨by simp, v6, by simp, ?_, ho2.far (hk.trans k2) k3 (Nat.le_refl _), by show h1.length ≤ h3.length; omega⟩
      rw [ht, List.filter_append]; simpa [hm] using o3
    · rw [decide_eq_false hm] at e3
      have s1'' := s1'.sl.loadI i hn
      have ij := s1'.idx 1 .i64 i hn
      simp only [Nat.mul_one] at ij
      simp [g562_0, hM, g12', g5, hn, ij, s1'', e2, e3, s1.step hn]
      refine hJ _ hn ⟨by simp, v5, by simp [g5], ?_, hk.trans k2, by show h1.length ≤ h2.length; omega⟩
      rw [ht, List.filter_append]; simpa [hm] using ho2
  · rw [List.take_of_length_le (by omega)] at ho
    simp [g562_0, hM, g12', g5, hn]
    exact hR _ _ ⟨ho.mono l1, k1.trans hk, by omega⟩
/-- one of a list of lists of one's own is taken out, in place -/
theorem deleteL_ok {h : Heap} {b off n : Nat} {l : List (List Int)} {F : List Nat} (hs : SdF h (.slice b off n (.o 1)) l F) (hn : b ∉ F.tail) (ho : OwnB h b) {i : Nat} (hi : i < l.length) (hl : l.length ≤ 2 ^ 20) :
    ∃ r h', call p 575 [.slice b off n (.o 1), vi i, vi (i + 1 : Nat)] h = some (r, h') ∧ ∃ F', r = .slice b off (n - 1) (.o 1) ∧ SdF h' r (l.take i ++ l.drop (i + 1)) F' ∧ (∀ c ∈ F', c ∈ F) ∧ b ∉ F'.tail ∧ (F.Nodup → F'.Nodup) ∧ OwnB h' b ∧ KeepsP (fun c => c ≠ b) h h' ∧ h'.length = h.length := by
  have hs0 := hs
  obtain ⟨hbd, ⟨e, _⟩ | ⟨b', off', cap, e, hcap, hs⟩⟩ := hs
  · cases e
  injection e with e1 e2 e3 e4
  subst e1; subst e2; subst e4
  have hnl : n = l.length := by omega
  subst hnl
  rcases hs with ⟨rfl, _⟩ | ⟨blk, cs, G, rfl, hb, hlv, hc, hr⟩
  · simp at hi
  obtain ⟨ds, hd⟩ := ho
  rw [hd] at hb; cases hb
  have hbG : b ∉ G := by simpa using hn
  have hcl := hr.len
  rw [show l.length * Data.sz (List Int) = l.length from Nat.mul_one _] at hc hcl
  have hoff : off + l.length ≤ ds.length := by
    unfold cut at hc; split at hc
    · assumption
    · cases hc
  have hcs : (ds.drop off).take l.length = cs := by
    unfold cut at hc; rw [if_pos hoff] at hc; exact Option.some.inj hc
  obtain ⟨F1, F2, F3, hG, r2, r1, r3⟩ := hr.get i hi
  rw [show i * Data.sz (List Int) = i from Nat.mul_one _] at r1 r2
  rw [show (i + 1) * Data.sz (List Int) = i + 1 from Nat.mul_one _] at r3
  have hblt := get_lt hd
  obtain ⟨n, hn0⟩ : ∃ n, n = l.length := ⟨_, rfl⟩
  rw [← hn0] at hi hl hc hcl hoff hcs hbd ⊢
  -- what is laid
  have hdl : (cs.drop (i + 1)).length = n - (i + 1) := by simp; omega
  obtain ⟨ds', hds'⟩ : ∃ x, x = ds.take (off + i) ++ cs.drop (i + 1) ++ ds.drop (off + i + (n - (i + 1))) := ⟨_, rfl⟩
  have hl1 : ds'.length = ds.length := by rw [hds']; simp; omega
  have c13 : slcV 1 (.slice b off n (.o 1)) (some i) (some (i + 1)) (some n) = some (.slice b (if n = i then off else off + i * 1) (i + 1 - i) (.k (n - i))) := by
    simp only [slcV, Option.getD_some]; rw [if_pos ⟨by omega, by omega, Nat.le_refl _⟩]
  have c22 : slcV 1 (.slice b off n (.o 1)) none (some i) none = some (.slice b (off + 0 * 1) (i - 0) (.o 1)) := by
    simp only [slcV, Option.getD_some, Option.getD_none]; rw [if_pos ⟨trivial, by omega, by omega⟩]
  have c25 : slcV 1 (.slice b off n (.o 1)) (some (i + 1)) none none = some (.slice b (off + (i + 1) * 1) (n - (i + 1)) (.o 1)) := by
    simp only [slcV, Option.getD_some, Option.getD_none]; rw [if_pos ⟨trivial, by omega, by omega⟩]
  have hrd : rdS h 1 (.slice b (off + (i + 1) * 1) (n - (i + 1)) (.o 1)) (n - (i + 1)) = some (cs.drop (i + 1)) := by
    simp only [rdS, Nat.le_refl, if_true]
    split
    · rename_i h0
      rw [List.drop_of_length_le (by omega)]
    · simp only [rdH, hd, cut]
      rw [if_neg (by simp), if_pos (by omega), ← hcs, List.drop_take, List.drop_drop]
      simp
  obtain ⟨h1, e26, d1, k1, l1⟩ : ∃ h1, appH 1 24 (.slice b (off + 0 * 1) (i - 0) (.o 1)) (n - (i + 1)) (cs.drop (i + 1)) h = some (.slice b off (n - 1) (.o 1), h1) ∧ h1[b]? = some ⟨.own, ds'⟩ ∧ KeepsP (fun c => c ≠ b) h h1 ∧ h1.length = h.length := by
    by_cases h0 : n - (i + 1) = 0
    · refine ⟨h, ?_, ?_, KeepsP.refl _ _, rfl⟩
      · rw [h0]; simp [appH, lenV_s]; omega
      · rw [hd, hds', List.drop_of_length_le (by omega), h0]; simp
    · refine ⟨h.set b ⟨.own, ds'⟩, ?_, by simp [hblt], fun c blk hc hb2 _ => by rw [List.getElem?_set_ne (Ne.symm hc)]; exact hb2, by simp⟩
      simp only [appH, hd]
      rw [if_neg h0, if_pos ⟨trivial, trivial, by decide⟩, if_pos (by omega), wrH_at hd rfl]
      have : lay ds (off + 0 * 1 + (i - 0) * 1) (cs.drop (i + 1)) = some ds' := by
        unfold lay; rw [if_pos (by omega), hdl, hds']; simp
      rw [this]
      simp only [Option.bind_some, Option.some.injEq, Prod.mk.injEq, V.slice.injEq, and_true, true_and]
      omega
  have e31 : rop (.sliceX 1) [.v (.slice b off (n - 1) (.o 1)), .v (.int .i64 ((n - 1 : Nat) : Int)), .v (.int .i64 (n : Int))] h1 = some (.slice b (off + (n - 1) * 1) (n - (n - 1)) (.o 1)) := by
    simp only [rop, natV_i, d1]
    rw [if_pos (by omega), if_pos (by omega)]
    simp only [Option.bind_some, Int.toNat_natCast]
    rw [if_pos ⟨trivial, by omega, trivial, by decide, by omega⟩]
  obtain ⟨ds2, hds2⟩ : ∃ x, x = ds'.take (off + (n - 1)) ++ [V.nils] ++ ds'.drop (off + (n - 1) + 1) := ⟨_, rfl⟩
  have h1lt : b < h1.length := by omega
  have e32 : eop (call p) (.clear 1 [.nils]) [.v (.slice b (off + (n - 1) * 1) (n - (n - 1)) (.o 1))] h1 = some (.tup [], h1.set b ⟨.own, ds2⟩) := by
    rw [eop_clear, if_neg (by omega), show n - (n - 1) = 1 by omega]
    simp only [List.replicate, List.flatten_cons, List.flatten_nil, List.append_nil]
    rw [wrH_at d1 rfl]
    have : lay ds' (off + (n - 1) * 1) [V.nils] = some ds2 := by
      unfold lay; rw [if_pos (by simp; omega), hds2]; simp
    rw [this]; rfl
  have hl2 : ds2.length = ds.length := by rw [hds2]; simp; omega
  have htk : ds2.take (off + (n - 1)) = ds.take (off + i) ++ cs.drop (i + 1) := by
    rw [hds2, List.append_assoc, List.take_append_of_le_length (by simp; omega), List.take_take, Nat.min_self, hds', List.take_append_of_le_length (by simp; omega), List.take_of_length_le (by simp; omega)]
  have hcut : cut ds2 off (n - 1) = some (cs.take i ++ cs.drop (i + 1)) := by
    unfold cut
    rw [if_pos (by omega)]
    have e : (ds2.drop off).take (n - 1) = (ds2.take (off + (n - 1))).drop off := by
      rw [List.drop_take]; congr 1; omega
    rw [e, htk, List.drop_append_of_le_length (by simp; omega), List.drop_take, ← hcs, List.take_take]
    congr 3; omega
  have kk : KeepsP (fun c => c ≠ b) h (h1.set b ⟨.own, ds2⟩) := k1.trans fun c blk hc hb2 _ => by rw [List.getElem?_set_ne (Ne.symm hc)]; exact hb2
  simp only [Nat.zero_mul, Nat.add_zero, Nat.sub_zero, Nat.mul_one] at c13 c22 c25 hrd e26 e31 e32
  have w1 : ¬ (i : Int) = ((i + 1 : Nat) : Int) := by omega
  refine go (fn := g575) rfl rfl fun R hR => ?_
  simp [g575, bounds, takeB, c13, c22, c25, w1, hrd, e26, e31, e32, -Int.natCast_add]
  have hsub : ∀ c ∈ F1 ++ F3, c ∈ G := fun c hc => by rw [hG]; simp at hc ⊢; rcases hc with h | h <;> simp [h]
  have hkG : KeepsP (fun c => c ∈ F1 ++ F3) h (h1.set b ⟨.own, ds2⟩) := kk.mono fun c hc e => hbG (by rw [← e]; exact hsub c hc)
  refine hR _ _ ⟨b :: (F1 ++ F3), rfl, ⟨by simp; omega, .inr ⟨b, off, .o 1, by simp; omega, rfl, .inr ⟨⟨.own, ds2⟩, cs.take i ++ cs.drop (i + 1), F1 ++ F3, rfl, by simp [h1lt], by simp, ?_, (r1.append r3).keeps hkG⟩⟩⟩, fun c hc => ?_, ?_, fun hnd => ?_, ⟨ds2, by simp [h1lt]⟩, kk, by simp; omega⟩
  · rw [show (l.take i ++ l.drop (i + 1)).length * Data.sz (List Int) = n - 1 by rw [show Data.sz (List Int) = 1 from rfl]; simp; omega]
    exact hcut
  · rcases List.mem_cons.1 hc with rfl | h
    · simp
    · exact List.mem_cons_of_mem _ (hsub c h)
  · simpa using fun h => hbG (hsub b h)
  · rw [List.nodup_cons] at hnd ⊢
    refine ⟨fun h => hbG (hsub b h), ?_⟩
    rw [hG, List.append_assoc, List.nodup_append] at hnd
    have h2 := List.nodup_append.1 hnd.2.2.1
    rw [List.nodup_append]
    exact ⟨hnd.2.1, h2.2.1, fun a ha b hb => hnd.2.2.2 a ha b (List.mem_append_right _ hb)⟩
end GL

namespace GL
open Go

noncomputable def reps (l : List (List Int)) : List Int := (nodes l).filter fun k => decide ((groupL l k)[0]? = some k)
noncomputable def leftK (l : List (List Int)) (done : List Int) : List Int := (reps l).filter fun k => decide (k ∉ done)
noncomputable def leftL (l : List (List Int)) (done : List Int) : List (List Int) := (leftK l done).map (groupL l)
noncomputable def ownQ (l : List (List Int)) (done : List Int) (own : List Int) : Bool := match own with
  | [] => false
  | a :: _ => (reachL l a).all fun n => decide (n ∈ done ++ own)
theorem rising_head {xs : List Int} (hr : xs.Pairwise (· < ·)) {k : Int} (hk : k ∈ xs) : xs[0]? = some k ↔ ∀ b ∈ xs, k ≤ b := by
  cases xs with
  | nil => cases hk
  | cons a r =>
    rw [List.pairwise_cons] at hr
    simp only [List.getElem?_cons_zero, Option.some.injEq]
    constructor
    · rintro rfl b hb
      rcases List.mem_cons.1 hb with rfl | hb
      · exact Int.le_refl _
      · exact Int.le_of_lt (hr.1 b hb)
    · intro h
      have h1 := h a (by simp)
      rcases List.mem_cons.1 hk with h2 | h2
      · exact h2.symm
      · have := hr.1 k h2; omega
theorem leftK_rising (l : List (List Int)) (done : List Int) : (leftK l done).Pairwise (· < ·) := ((nodes_rising l).filter _).filter _
section
variable {l : List (List Int)} (hg : linksB l = true)
include hg
theorem mem_leftK {done : List Int} {k : Int} : k ∈ leftK l done ↔ InR l k ∧ k ∉ done ∧ ∀ b ∈ groupL l k, k ≤ b := by
  simp only [leftK, reps, List.mem_filter, mem_nodes, decide_eq_true_eq]
  constructor
  · rintro ⟨⟨h1, h2⟩, h3⟩
    exact ⟨h1, h3, (rising_head (groupL_rising l k) (self_groupL hg h1)).1 h2⟩
  · rintro ⟨h1, h2, h3⟩
    exact ⟨⟨h1, (rising_head (groupL_rising l k) (self_groupL hg h1)).2 h3⟩, h2⟩
theorem ownQ_eq {done : List Int} {k : Int} (hk : k ∈ leftK l done) : ownQ l done (groupL l k) = true ↔ readyB l done k := by
  obtain ⟨h1, h2, h3⟩ := (mem_leftK hg).1 hk
  have h4 := (rising_head (groupL_rising l k) (self_groupL hg h1)).2 h3
  unfold readyB
  cases he : groupL l k with
  | nil => rw [he] at h4; simp at h4
  | cons a r =>
    rw [he] at h4; simp at h4; subst h4
    simp only [ownQ, List.all_eq_true, decide_eq_true_eq, List.mem_append]
theorem left_next {done : List Int} (hc : Cl l done) {k : Int} (h : nextK l done = some k) : k ∈ leftK l done := by
  obtain ⟨h1, h2, _, _⟩ := next_some hg h
  exact (mem_leftK hg).2 ⟨h1, h2, next_rep hg hc h⟩
theorem left_first {done : List Int} (hc : Cl l done) {kk : Int} (hf : FirstP (ownQ l done) (leftL l done) kk) (hne : leftL l done ≠ []) :
    ∃ (i : Nat) (k : Int) (hi : i < (leftL l done).length), kk = i ∧ nextK l done = some k ∧ (leftL l done)[i] = groupL l k ∧ (leftL l done).take i ++ (leftL l done).drop (i + 1) = leftL l (done ++ groupL l k) := by
  have hks := leftK_rising l done
  have hex : ∃ k, nextK l done = some k := by
    cases hn : nextK l done with
    | some k => exact ⟨k, rfl⟩
    | none =>
      obtain ⟨g, hg'⟩ := List.exists_mem_of_ne_nil _ hne
      obtain ⟨k, hk, _⟩ := List.mem_map.1 hg'
      obtain ⟨h1, h2, _⟩ := (mem_leftK hg).1 hk
      exact absurd (next_none hg hn h1) h2
  obtain ⟨k, hn⟩ := hex
  obtain ⟨q1, q2, q3, q4⟩ := next_some hg hn
  have hk := left_next hg hc hn
  obtain ⟨j, hj, hjk⟩ := List.getElem_of_mem hk
  have hlen : (leftL l done).length = (leftK l done).length := by simp [leftL]
  rcases hf with ⟨_, hall⟩ | ⟨i, hi, rfl, hq, hall⟩
  · have := hall (groupL l k) (List.mem_map.2 ⟨k, hk, rfl⟩)
    rw [(ownQ_eq hg hk).2 q3] at this; cases this
  · have hi' : i < (leftK l done).length := by omega
    have hgi : (leftL l done)[i] = groupL l (leftK l done)[i] := by simp [leftL]
    have hmi := List.getElem_mem hi'
    obtain ⟨m1, m2, m3⟩ := (mem_leftK hg).1 hmi
    rw [hgi] at hq
    have hle := q4 _ m1 m2 ((ownQ_eq hg hmi).1 hq)
    have hij : i ≤ j := by
      rcases Nat.lt_or_ge j i with h | h
      · have : groupL l k ∈ (leftL l done).take i := by
          rw [leftL, ← List.map_take]
          exact List.mem_map.2 ⟨k, by rw [← hjk]; exact List.mem_take_iff_getElem.2 ⟨j, by omega, rfl⟩, rfl⟩
        have := hall _ this
        rw [(ownQ_eq hg hk).2 q3] at this; cases this
      · exact h
    have hik : (leftK l done)[i] = k := by
      rcases Nat.lt_or_eq_of_le hij with h | h
      · have := List.pairwise_iff_getElem.1 hks i j hi' hj h
        omega
      · subst h; exact hjk
    refine ⟨i, k, hi, rfl, hn, by rw [hgi, hik], ?_⟩
    have e : leftK l (done ++ groupL l k) = (leftK l done).take i ++ (leftK l done).drop (i + 1) := by
      have e1 : leftK l (done ++ groupL l k) = (leftK l done).filter fun x => decide (x ∉ groupL l k) := by
        simp only [leftK, List.filter_filter]
        congr 1; funext x; simp [Bool.and_comm]
      have hsplit : leftK l done = (leftK l done).take i ++ k :: (leftK l done).drop (i + 1) := by
        rw [← hik, ← List.drop_eq_getElem_cons hi', List.take_append_drop]
      have hkg : k ∈ groupL l k := self_groupL hg q1
      have keep : ∀ x ∈ leftK l done, x ≠ k → x ∉ groupL l k := fun x hx hne hxg => by
        obtain ⟨a1, _, a3⟩ := (mem_leftK hg).1 hx
        obtain ⟨b1, _, b3⟩ := (mem_leftK hg).1 hk
        have := groupL_eq hg q1 hxg
        have := a3 k (by rw [this]; exact hkg)
        have := b3 x hxg
        omega
      rw [e1]
      conv => lhs; rw [hsplit]
      rw [List.filter_append, List.filter_cons, if_neg (by simpa using hkg)]
      have hp := hks
      rw [hsplit, List.pairwise_append, List.pairwise_cons] at hp
      congr 1
      · exact List.filter_eq_self.2 fun x hx => by simpa using keep x (List.mem_of_mem_take hx) (by have := hp.2.2 x hx k (by simp); omega)
      · exact List.filter_eq_self.2 fun x hx => by simpa using keep x (List.mem_of_mem_drop hx) (by have := hp.2.1.1 x hx; omega)
    rw [leftL, ← List.map_take, ← List.map_drop, ← List.map_append, ← e]; rfl
theorem left_end {done : List Int} (hc : Cl l done) (h : leftL l done = []) (f : Nat) : groupsF l f done = [] := by
  cases f with
  | zero => rfl
  | succ f =>
    cases hn : nextK l done with
    | none => simp [groupsF, hn]
    | some k =>
      have := left_next hg hc hn
      simp only [leftL, List.map_eq_nil_iff] at h
      rw [h] at this; cases this
end

/-- the question that 'groups' asks of each group left -/
theorem groups1_ok {h : Heap} {b1 b2 : Nat} {v w x : V} {l : List (List Int)} {F Ft Gx : List Nat} {done own : List Int} (hb1 : h[b1]? = some ⟨.own, [w]⟩) (hb2 : h[b2]? = some ⟨.own, [v]⟩) (hs : SdF h v l F) (hg : linksB l = true) (ht : SdF h w done Ft) (hx : SdF h x own Gx)
    {a : Int} {r : List Int} (ho : own = a :: r) (ha : InR l a) (hl : done.length + own.length ≤ 2 ^ 20) : ∃ h', call p 574 [x, .ptr b1 0, .ptr b2 0] h = some (.bool (ownQ l done own), h') ∧ Keeps h h' ∧ h.length ≤ h'.length := by
  have r1 : rdH h b1 0 1 = some [w] := by rw [rdH_at hb1 (by simp)]; rfl
  have r2 : rdH h b2 0 1 = some [v] := by rw [rdH_at hb2 (by simp)]; rfl
  have hp : 0 < own.length := by rw [ho]; simp
  have i0 := hx.sl.idx 1 .i64 0 hp
  have e0 := hx.sl.loadI 0 hp
  have h00 : own[0] = a := by simp [ho]
  rw [h00] at e0
  simp at i0 e0
  have kl := Keeps.append h [⟨.own, [w, x]⟩]
  have hr : Reps h [done, own] [w, x] (Ft ++ Gx) := by
    have a : Reps h [done] [w] Ft := .one (show Data.rep h done [w] Ft from ⟨w, rfl, ht⟩)
    have b : Reps h [own] [x] Gx := .one (show Data.rep h own [x] Gx from ⟨x, rfl, hx⟩)
    exact a.append b
  have hls := SdF.lit hr 2 rfl (by simp)
  have hfl : [done, own].flatten = done ++ own := by simp
  obtain ⟨o, h1, e1, G1, s1, f1, k1, l1⟩ := concat_ok hls (by rw [hfl]; simp; omega)
  rw [hfl] at s1
  have k01 := kl.trans k1
  obtain ⟨o2, h2, e2, G2, s2, f2, k2, l2⟩ := reach_ok (hs.keep k01) hg a ha
  obtain ⟨_, h3, e3, rfl, k3, l3⟩ := hasAll_ok (s1.keep k2).sl s2.sl
  have q0 : ownQ l done own = (reachL l a).all fun n => decide (n ∈ done ++ own) := by rw [ho]; rfl
  rw [q0]
  generalize (reachL l a).all (fun n => decide (n ∈ done ++ own)) = q at e3 ⊢
  have : ∃ r h'', call p 574 [x, .ptr b1 0, .ptr b2 0] h = some (r, h'') ∧ r = .bool q ∧ h'' = h3 := by
    refine go (fn := g574) rfl rfl fun R hR => ?_
    have t2 := rdH_keep k01 r2
    have t0 := rdH_keep k01 e0
    have t2' := rdH_keep kl r2
    have t0' := rdH_keep kl e0
    simp [g574, r1, r2, i0, e0, ht.cells, ht.cell, hx.cells, hx.cell, fillL, e1, e2, e3, stable, t2, t0, t2', t0']
    exact hR _ _ ⟨rfl, rfl⟩
  obtain ⟨_, _, e, rfl, rfl⟩ := this
  simp at l1
  exact ⟨_, e, (k01.trans k2).trans k3, by omega⟩
end GL

namespace GL
open Go

theorem OdF.keep {α : Type} [Data α] {lo : Nat} {h h' : Heap} {v : V} {xs : List α} {G : List Nat} (o : OdF lo h v xs G) (hk : Keeps h h') (hl : h.length ≤ h'.length) : OdF lo h' v xs G :=
  ⟨o.1.keeps (hk.p fun _ => True) (fun _ _ => trivial) (fun _ _ => trivial) hl, o.2.keeps (hk.p _)⟩

/-- the groups of the first nodes that are the least of theirs -/
noncomputable def leftN (l : List (List Int)) (i : Nat) : List (List Int) := ((((List.range i).map fun (j : Nat) => (j : Int)).filter fun k => decide ((groupL l k)[0]? = some k))).map (groupL l)
theorem leftN_succ (l : List (List Int)) (i : Nat) : leftN l (i + 1) = if (groupL l (i : Int))[0]? = some (i : Int) then leftN l i ++ [groupL l (i : Int)] else leftN l i := by
  simp only [leftN, List.range_succ, List.map_append, List.filter_append, List.map_cons, List.map_nil]
  split
  · rename_i h; simp [List.filter_cons, h]
  · rename_i h; simp [List.filter_cons, h]
theorem leftN_len (l : List (List Int)) (i : Nat) : (leftN l i).length ≤ i := by
  simp only [leftN, List.length_map]
  exact Nat.le_trans (List.length_filter_le ..) (by simp)
theorem leftN_all (l : List (List Int)) : leftN l l.length = leftL l [] := by
  simp [leftN, leftL, leftK, reps, nodes]

theorem groups_fst {v : V} {l : List (List Int)} {F : List Nat} {h : Heap} (hs : SdF h v l F) (hg : linksB l = true) (s0 : S) (K : Ex → S → Prop) (g1 : s0.σ 1 = .v (.ptr h.length 0)) (g3 : s0.σ 3 = .v (.slice (h.length + 1) 0 0 (.k 0))) (g11 : s0.σ 11 = .v (vi l.length)) (g12 : s0.σ 12 = .v (vi 0))
    (gh : s0.h = h ++ [(⟨.own, [v]⟩ : Blk), ⟨.own, []⟩])
    (hK : ∀ s v3 G3, (∀ k, k ∉ [3, 4, 5, 12, 13, 14, 15, 16, 17, 18, 19, 20, 21, 22, 23, 24, 25, 26, 27] → s.σ k = s0.σ k) → s.σ 3 = .v v3 → OdF (h.length + 1) s.h v3 (leftL l []) G3 → Keeps (h ++ [(⟨.own, [v]⟩ : Blk)]) s.h → h.length + 1 ≤ s.h.length → K (.exit 0) s) : Wc p (.loop g557_0) s0 K := by
  obtain ⟨l12, _⟩ := linksB_facts hg
  refine Wc_upM (M := [3, 4, 5, 12, 13, 14, 15, 16, 17, 18, 19, 20, 21, 22, 23, 24, 25, 26, 27]) rfl l.length (fun i s => i ≤ l.length ∧ s.σ 12 = .v (vi i) ∧ (∃ v3 G3, s.σ 3 = .v v3 ∧ OdF (h.length + 1) s.h v3 (leftN l i) G3) ∧ Keeps (h ++ [(⟨.own, [v]⟩ : Blk)]) s.h ∧ h.length + 1 ≤ s.h.length) 0
    ⟨by omega, g12, ⟨_, [], g3, by rw [gh]; exact OdF.empty (Nat.le_refl _) (by simp)⟩, by
      rw [gh]; have := Keeps.append (h ++ [(⟨.own, [v]⟩ : Blk)]) [⟨.own, []⟩]; simpa using this, by rw [gh]; simp⟩ fun i s ⟨gi, g12, ⟨v3, G3, g3, ho⟩, hk, hl⟩ hM J hJ => ?_
  have hkh : Keeps h s.h := (Keeps.append h [(⟨.own, [v]⟩ : Blk)]).trans hk
  by_cases hn : i < l.length
  · have hb1 : s.h[h.length]? = some ⟨.own, [v]⟩ := hk _ _ (get_last _ _) (by simp)
    have r1 : rdH s.h h.length 0 1 = some [v] := by rw [rdH_at hb1 (by simp)]; rfl
    have hin : InR l (i : Int) := ⟨by omega, by omega⟩
    obtain ⟨r, h2, e2, G, s2, f2, k2, l2⟩ := group_ok (hs.keep hkh) hg (i : Int) hin
    have hp : 0 < (groupL l (i : Int)).length := List.length_pos_of_mem (self_groupL hg hin)
    have i0 := s2.sl.idx 1 .i64 0 hp
    have e0 := s2.sl.loadI 0 hp
    simp at i0 e0
    have hlen := leftN_len l i
    have w1 : IntKind.i64.wrap ((i : Int) + 1) = (i + 1 : Nat) := by rw [IntWalk.i64_in] <;> omega
    have ix : (groupL l (i : Int))[0]? = some (groupL l (i : Int))[0] := List.getElem?_eq_getElem hp
    by_cases he : (groupL l (i : Int))[0] = (i : Int)
    · obtain ⟨v4, h3, e3, o3, kk3, l3⟩ := ho.one k2 l2 f2 (x := groupL l (i : Int)) (cs := [r]) ⟨r, rfl, s2⟩ (by omega) (k := 1) rfl (bytes := 24) (by decide)
      simp [g557_0, hM, g12, g11, g1, g3, hn, r1, e2, i0, e0, he, s2.cells, s2.cell, fillL, rdS_last, e3, w1, -Int.natCast_add]
      refine hJ _ hn ⟨hn, by simp, ⟨v4, G3 ++ G, by simp, ?_⟩, kk3 _ hk (by simp), by show h.length + 1 ≤ h3.length; omega⟩
      rw [leftN_succ, if_pos (by rw [ix, he])]; exact o3
    · simp [g557_0, hM, g12, g11, g1, g3, hn, r1, e2, i0, e0, he, w1, -Int.natCast_add]
      refine hJ _ hn ⟨hn, by simp, ⟨v3, G3, by simp [g3], ?_⟩, hk.trans k2, by show h.length + 1 ≤ h2.length; omega⟩
      rw [leftN_succ, if_neg (by rw [ix]; simpa using he)]; exact ho.keep k2 l2
  · have : i = l.length := by omega
    subst this
    rw [leftN_all] at ho
    simp [g557_0, hM, g12, g11]
    exact hK _ v3 G3 (fun k hk => by simp only [List.mem_cons, not_or] at hk; simp [hk, hM]) (by simp [g3]) ho hk hl
end GL

namespace GL
open Go

theorem leftL_mem {l : List (List Int)} (hg : linksB l = true) {done own : List Int} (h : own ∈ leftL l done) : ∃ a r, own = a :: r ∧ InR l a ∧ own = groupL l a := by
  obtain ⟨k, hk, rfl⟩ := List.mem_map.1 h
  obtain ⟨h1, h2, h3⟩ := (mem_leftK hg).1 hk
  have h4 := (rising_head (groupL_rising l k) (self_groupL hg h1)).2 h3
  cases he : groupL l k with
  | nil => rw [he] at h4; simp at h4
  | cons a r => rw [he] at h4; simp at h4; subst h4; exact ⟨a, r, rfl, h1, he.symm⟩
theorem leftL_len {l : List (List Int)} (hg : linksB l = true) (done : List Int) : (leftL l done).length ≤ l.length := by
  rw [leftL, List.length_map]
  exact rising_len (leftK_rising l done) fun x hx => ((mem_leftK hg).1 hx).1

theorem groups_snd {v : V} {l : List (List Int)} {F : List Nat} {h H1 : Heap} (hs : SdF h v l F) (hg : linksB l = true) (s0 : S) (K : Ex → S → Prop) {v3 : V} {G3 : List Nat} (g1 : s0.σ 1 = .v (.ptr h.length 0)) (g3 : s0.σ 3 = .v v3) (g6 : s0.σ 6 = .v (.slice H1.length 0 0 (.k 0))) (g7 : s0.σ 7 = .v (.ptr (H1.length + 2) 0))
    (ho : OdF (h.length + 1) H1 v3 (leftL l []) G3) (hk1 : Keeps (h ++ [(⟨.own, [v]⟩ : Blk)]) H1) (hl1 : h.length + 1 ≤ H1.length)
    (gh : s0.h = H1 ++ [(⟨.own, []⟩ : Blk), ⟨.own, []⟩, ⟨.own, [.slice (H1.length + 1) 0 0 (.k 0)]⟩])
    (hK : ∀ s v6 G, s.σ 6 = .v v6 → SdF s.h v6 (groupsL l) G → Keeps h s.h → h.length ≤ s.h.length → K (.exit 2) s) : Wc p (.loop g557_1) s0 K := by
  obtain ⟨l12, _⟩ := linksB_facts hg
  obtain ⟨F0, hsd0, hF0⟩ := ho.1.sd
  have hfr := ho.2
  -- where the list of what is left lies
  have form : leftL l [] = [] ∨ ∃ bl, v3 = .slice bl 0 (leftL l []).length (.o 1) ∧ OwnB H1 bl ∧ F0 = bl :: G3 ∧ bl ∉ G3 ∧ h.length + 1 ≤ bl := by
    obtain ⟨_, _, ⟨_, e, _⟩ | ⟨b, cs, e, hb, h3, hr, hn⟩ | ⟨b, _, e, _⟩⟩ := ho.1
    · exact .inl e
    · rcases hF0 with rfl | ⟨rfl, _⟩
      · by_cases h0 : leftL l [] = []
        · exact .inl h0
        · have := hsd0.bIn (List.length_pos_iff.2 h0)
          rw [e] at this; exact absurd this hn
      · refine .inr ⟨b, e, ⟨cs, hb⟩, by rw [e]; rfl, hn, h3⟩
    · exact .inl e
  obtain ⟨bl, hbl⟩ : ∃ bl, bl = bOf v3 := ⟨_, rfl⟩
  have hGlt : ∀ b ∈ G3, b < H1.length := fun b hb => (hfr.own b hb).lt
  refine Wc_dnM (M := [3, 6, 8, 30, 31, 32, 33, 34, 35, 36, 37, 38, 39, 40, 41, 42, 43, 44, 45, 46, 47, 48, 49, 50, 51, 52, 53]) rfl
    (fun m s => ∃ (done : List Int) (outs : List (List Int)) (v3 v6 vt : V) (FL GO : List Nat) (f : Nat), s.σ 3 = .v v3 ∧ s.σ 6 = .v v6 ∧ s.h[H1.length + 2]? = some ⟨.own, [vt]⟩ ∧ Out H1.length s.h vt done ∧ Od H1.length s.h v6 outs GO ∧
      (∀ b, vB v6 b → ¬ vB vt b ∧ b ≠ H1.length + 2) ∧ (∀ b, vB vt b → b ≠ H1.length + 2) ∧ (∀ b ∈ GO, b ∈ G3) ∧
      (leftL l done = [] ∨ (∃ off n, v3 = .slice bl off n (.o 1) ∧ SdF s.h v3 (leftL l done) FL ∧ OwnB s.h bl ∧ bl ∉ FL.tail ∧ (∀ b ∈ FL, b = bl ∨ b ∈ G3) ∧ bl ∉ G3 ∧ h.length + 1 ≤ bl ∧ bl < H1.length)) ∧ lenV v3 = some (leftL l done).length ∧
      KeepsP (fun b => b < H1.length ∧ (b = bl → bl < h.length + 1)) H1 s.h ∧ H1.length + 3 ≤ s.h.length ∧ l.length ≤ f + done.length ∧
      groupsL l = outs ++ groupsF l f done ∧ Cl l done ∧ done.Nodup ∧ outs.length + (leftL l done).length ≤ 100 ∧ m = (leftL l done).length) (leftL l []).length
    ⟨[], [], v3, .slice H1.length 0 0 (.k 0), .slice (H1.length + 1) 0 0 (.k 0), F0, [], l.length, g3, g6, by rw [gh]; simp, by rw [gh]; exact Out.empty (by omega) (by simp), by rw [gh]; exact Od.empty (Nat.le_refl _) (by simp), ?_, ?_, by simp, ?_, by rw [hsd0.len], by rw [gh]; exact (Keeps.append H1 _).p _, by rw [gh]; simp, by simp, by simp [groupsL], Cl.nil l, List.nodup_nil, by have := leftL_len hg []; simp; omega, rfl⟩ fun m s ⟨done, outs, v3, v6, vt, FL, GO, f, g3, g6, ht, hto, hoo, sp1, sp2, hGO, hleft, hlen, hk, hln, hfl, hgl, hcl, hnd, hcnt, hm⟩ hM J hJ => ?_
  · rintro b ⟨_, _, _, e⟩; injection e with e1; subst e1
    exact ⟨fun ⟨_, _, _, e⟩ => by injection e with e1; omega, by omega⟩
  · rintro b ⟨_, _, _, e⟩; injection e with e1; omega
  · rcases form with e | ⟨b, e, hb, hF, hnb, hge⟩
    · exact .inl e
    · have : bl = b := by rw [hbl, e]; rfl
      subst this
      have kk := Keeps.append H1 [(⟨.own, []⟩ : Blk), ⟨.own, []⟩, ⟨.own, [.slice (H1.length + 1) 0 0 (.k 0)]⟩]
      refine .inr ⟨0, _, e, by rw [gh]; exact hsd0.keep kk, by rw [gh]; exact hb.keep kk, by rw [hF]; exact hnb, fun b hb => ?_, hnb, hge, hb.lt⟩
      rw [hF] at hb
      exact List.mem_cons.1 hb
  have hk1h : Keeps h H1 := (Keeps.append h [(⟨.own, [v]⟩ : Blk)]).trans hk1
  have hkh : Keeps h s.h := Keeps.far (n := h.length) hk1h hk (Nat.le_refl _) fun b hb => ⟨by omega, fun e => by omega⟩
  by_cases he : leftL l done = []
  · have hfin : groupsL l = outs := by rw [hgl, left_end hg hcl he f, List.append_nil]
    obtain ⟨F', hF', _⟩ := hoo.sd
    rw [he] at hlen
    simp [g557_1, hM, g3, hlen]
    exact hK _ v6 F' (by simp [g6]) (by rw [hfin]; exact hF') hkh (by show h.length ≤ s.h.length; omega)
  · rcases hleft with h0 | ⟨off, n, rfl, hsd, hown, hnt, hFL, hbG, hge, hblt⟩
    · exact absurd h0 he
    have hb1 : s.h[h.length]? = some ⟨.own, [v]⟩ := hk _ _ ⟨by omega, by omega⟩ (hk1 _ _ (get_last _ _) (by simp)) (by simp)
    obtain ⟨Ft, hst, frt⟩ := hto.fr
    have hdl : done.length ≤ l.length := nodup_len hnd hcl.lt
    obtain ⟨_, h2, e2, kk, rfl, hfirst, k2, l2⟩ := indexLg_ok hsd (f := 574) (capt := [.ptr (H1.length + 2) 0, .ptr h.length 0]) (q := ownQ l done) fun h' hk' => fun x own G hmem hx => by
      obtain ⟨a, r, e, ha, e'⟩ := leftL_mem hg hmem
      exact groups1_ok (hk' _ _ ht (by simp)) (hk' _ _ hb1 (by simp)) (hs.keep (hkh.trans hk')) hg (hst.keep hk') hx e ha (by have := groupL_len hg ha; rw [e']; omega)
    obtain ⟨i, k, hi, rfl, hnext, hgi, herase⟩ := left_first hg hcl hfirst he
    obtain ⟨hkin, hknd, hkr, _⟩ := next_some hg hnext
    cases f with
    | zero =>
      exfalso
      have hnd2 : (k :: done).Nodup := List.nodup_cons.2 ⟨hknd, hnd⟩
      have := nodup_len (n := l.length) hnd2 fun y hy => by
        rcases List.mem_cons.1 hy with rfl | hy
        · exact hkin
        · exact hcl.lt y hy
      simp at this hfl; omega
    | succ f =>
    have hgl2 : groupsL l = (outs ++ [groupL l k]) ++ groupsF l f (done ++ groupL l k) := by
      rw [hgl]; simp [groupsF, hnext]
    have hkg : 0 < (groupL l k).length := List.length_pos_of_mem (self_groupL hg hkin)
    have hkl := groupL_len hg hkin
    -- the group, where it lies
    have hsd2 := hsd.keep k2
    obtain ⟨cs, F1, Gx, F3, ex, ⟨x, rfl, hx⟩, hFe⟩ := hsd2.load i hi
    rw [show i * Data.sz (List Int) = i from Nat.mul_one i] at ex
    change rdH _ _ _ 1 = _ at ex
    rw [hgi] at hx
    have hGx : ∀ b ∈ Gx, b ∈ G3 := fun b hb => by
      have h1 : b ∈ FL := by rw [hFe]; simp [hb]
      rcases hFL b h1 with rfl | h
      · exact absurd (by rw [hFe]; simp [hb]) hnt
      · exact h
    have ix := hsd.idx 1 .i64 i hi
    simp only [Nat.mul_one] at ix
    have ht2 := k2 _ _ ht (by simp)
    have rt2 : rdH h2 (H1.length + 2) 0 1 = some [vt] := by rw [rdH_at ht2 (by simp)]; rfl
    have kl : Keeps h2 (h2 ++ [⟨.own, [x]⟩]) := Keeps.append _ _
    have rt3 := rdH_keep kl rt2
    have ex3 := rdH_keep kl ex
    have no6 : ∀ b, b < H1.length → ¬ vB v6 b := fun b hb hv => by have := (hoo.ge hv).1; omega
    have noT : ∀ b, b < H1.length → ¬ vB vt b := fun b hb hv => by have := (hto.ge hv).1; omega
    have hoo3 : Od H1.length (h2 ++ [⟨.own, [x]⟩]) v6 outs GO := hoo.keeps ((k2.trans kl).p fun _ => True) (fun _ _ => trivial) (fun _ _ => trivial) (by simp; omega)
    obtain ⟨v6', h4, e4, o4, k4, l4, b4⟩ := hoo3.app (zs := [groupL l k]) (ys := [x]) (G := Gx) (by simp) (.one (show Data.rep _ (groupL l k) [x] Gx from ⟨x, rfl, hx.keep kl⟩)) (fun b hb => no6 b (hGlt b (hGx b hb))) (bytes := 24) (by decide) (by simp; omega) (k := 1) rfl (n := 1) rfl
    have ht4 : h4[H1.length + 2]? = some ⟨.own, [vt]⟩ := k4 _ _ (fun hv => (sp1 _ hv).2 rfl) (kl _ _ ht2 (by simp)) (by simp)
    have rt4 : rdH h4 (H1.length + 2) 0 1 = some [vt] := by rw [rdH_at ht4 (by simp)]; rfl
    have hx4 : SdF h4 x (groupL l k) Gx := (hx.keep kl).keeps (k4.mono fun b hb => no6 b (hGlt b (hGx b hb)))
    have hFlt : ∀ b ∈ FL, b < H1.length := fun b hb => by
      rcases hFL b hb with rfl | h
      · exact hblt
      · exact hGlt b h
    have hsd4 : SdF h4 (.slice bl off n (.o 1)) (leftL l done) FL := (hsd2.keep kl).keeps (k4.mono fun b hb => no6 b (hFlt b hb))
    have ex4 : rdH h4 (bOf (.slice bl off n (.o 1))) (oOf (.slice bl off n (.o 1)) + i) 1 = some [x] := by
      obtain ⟨blk, hb, hl⟩ := hsd2.lt (i := bl) (by rw [hFe]; simp [bOf])
      have h3b := kl _ _ hb hl
      have h4b := k4 _ _ (no6 _ hblt) h3b hl
      rw [rdH_at (by exact hb) hl] at ex
      rw [rdH_at (by exact h4b) hl]; exact ex
    have hto4 : Out H1.length h4 vt done := (hto.keeps ((k2.trans kl).p fun _ => True) (fun _ _ => trivial) (by simp; omega)).keeps k4 (fun b hb hv => (sp1 b hv).1 hb) (by simp at l4 ⊢; omega)
    have e5r := hx4.sl.rdS (groupL l k).length (Nat.le_refl _)
    rw [List.take_length] at e5r
    change rdS _ 1 _ _ = _ at e5r
    obtain ⟨vt', h5, e5, o5, k5, l5, b5⟩ := hto4.app (groupL l k) hkg (bytes := 8) (by decide) (by omega) (k := 1) rfl (n := (groupL l k).length) rfl rfl
    have ht5 : h5[H1.length + 2]? = some ⟨.own, [vt]⟩ := k5 _ _ (fun hv => sp2 _ hv rfl) ht4 (by simp)
    have e6 : wrH h5 (H1.length + 2) 0 [vt'] = some (h5.set (H1.length + 2) ⟨.own, [vt']⟩) := by rw [wrH_at ht5 rfl]; rfl
    have hlt5 := get_lt ht5
    have k6 : KeepsP (fun b => b ≠ H1.length + 2) h5 (h5.set (H1.length + 2) ⟨.own, [vt']⟩) := fun c blk hc hb2 _ => by rw [List.getElem?_set_ne (Ne.symm hc)]; exact hb2
    have low : KeepsP (fun b => b < H1.length) h4 (h5.set (H1.length + 2) ⟨.own, [vt']⟩) := (k5.mono fun b hb => noT b hb).trans (k6.mono fun b hb => by omega)
    have hsd6 := hsd4.keeps (low.mono hFlt)
    have hown6 : OwnB (h5.set (H1.length + 2) ⟨.own, [vt']⟩) bl := ((((hown.keep k2).keep kl).keeps k4 (no6 _ hblt))).keeps low hblt
    obtain ⟨_, h7, e7, F7, rfl, s7, q7, n7, _, ow7, k7, l7⟩ := deleteL_ok hsd6 hnt hown6 hi (by have := leftL_len hg done; omega)
    rw [herase] at s7
    have hlv := s7.len
    have hcnt2 : (leftL l (done ++ groupL l k)).length + 1 = (leftL l done).length := by
      rw [← herase]; simp; omega
    have w1 : IntKind.i64.wrap ((i : Int) + 1) = (i + 1 : Nat) := by rw [IntWalk.i64_in] <;> omega
    have lo4 : KeepsP (fun b => b < H1.length) s.h h4 := ((k2.trans kl).p _).trans (k4.mono no6)
    have lo7 : KeepsP (fun b => b < H1.length ∧ (b = bl → bl < h.length + 1)) s.h h7 := ((lo4.trans low).mono fun b hb => hb.1).trans (k7.mono fun b hb e => by have := hb.2 e; omega)
    simp only [bOf, oOf] at ix ex ex3 ex4
    have lpos : (0 : Int) < (leftL l done).length := by omega
    simp [g557_1, hM, g1, g3, g6, g7, hlen, hi, Nat.pos_of_ne_zero (show (leftL l done).length ≠ 0 by omega), e2, ix, ex, rt2, hx.cells, hx.cell, fillL, stable, rt3, ex3, rdS_last, e4, rt4, ex4, hx4.len, e5r, e5, o5.sl.cells, o5.sl.cell, e6, w1, e7, -Int.natCast_add]
    have n3lt : H1.length + 2 < s.h.length := get_lt ht
    simp only [List.length_append, List.length_singleton] at l4 b4
    have vb6 : ∀ b, vB v6' b → b = h2.length + 1 := fun b hb => by have := b4 b hb; simpa using this
    have g7lt : ∀ b ∈ GO ++ Gx, b ∈ G3 := fun b hb => by
      rcases List.mem_append.1 hb with h | h
      · exact hGO b h
      · exact hGx b h
    have k47 : KeepsP (fun b => ¬ vB vt b ∧ b ≠ H1.length + 2 ∧ b ≠ bl) h4 h7 := ((k5.mono fun b hb => hb.1).trans (k6.mono fun b hb => hb.2.1)).trans (k7.mono fun b hb => hb.2.2)
    have l47 : h4.length ≤ h7.length := by rw [l7]; simp; omega
    refine hJ (leftL l (done ++ groupL l k)).length _ (by omega) ⟨done ++ groupL l k, outs ++ [groupL l k], .slice bl off (n - 1) (.o 1), v6', vt', F7, GO ++ Gx, f, by simp, by simp, ?_, ?_, ?_, ?_, ?_, g7lt, .inr ⟨off, n - 1, rfl, s7, ow7, n7, fun b hb => hFL b (q7 b hb), hbG, hge, hblt⟩, hlv, hk.trans lo7, by show H1.length + 3 ≤ h7.length; omega, by simp; omega, hgl2, hcl.next hg hkin hkr, nodup_next hg hcl hnd hkin hknd, by simp; omega, rfl⟩
    · exact k7 _ _ (by omega) (by simp [hlt5]) (by simp)
    · exact (o5.keeps k6 (fun b hb => by have := b5 b hb; omega) (by simp)).keeps k7 (fun b hb => by have := b5 b hb; omega) (by rw [l7]; exact Nat.le_refl _)
    · refine o4.keeps k47 (fun b hb => ⟨fun hv => ?_, ?_, ?_⟩) (fun b hb => ⟨noT b (hGlt b (g7lt b hb)), ?_, fun e => hbG (by rw [← e]; exact g7lt b hb)⟩) l47
      · have := vb6 b hb; have := (hto.ge hv).2; omega
      · have := vb6 b hb; omega
      · have := vb6 b hb; omega
      · have := hGlt b (g7lt b hb); omega
    · intro b hb
      have := vb6 b hb
      exact ⟨fun hv => by have := b5 b hv; omega, by omega⟩
    · intro b hb
      have := b5 b hb; omega
end GL

namespace GL
open Go

theorem groups_ok {v : V} {l : List (List Int)} {F : List Nat} {h : Heap} (hs : SdF h v l F) (hg : linksB l = true) :
    ∃ r h', call p 557 [v] h = some (r, h') ∧ ∃ G, SdF h' r (groupsL l) G ∧ Keeps h h' ∧ h.length ≤ h'.length := by
  refine go (fn := g557) rfl rfl fun R hR => ?_
  have r1 : rdH (h ++ [(⟨.own, [v]⟩ : Blk), ⟨.own, []⟩]) h.length 0 1 = some [v] := by
    rw [rdH_at (blk := ⟨.own, [v]⟩) (by simp) (by simp)]; rfl
  simp [g557, hs.cells, hs.cell, fillL, r1, hs.len]
  refine groups_fst hs hg _ _ (by simp) (by simp) (by simp) (by simp) rfl fun s v3 G3 hM g3 ho hk hl => ?_
  have e1 : wrH (s.h ++ [(⟨.own, []⟩ : Blk), ⟨.own, []⟩, ⟨.own, [.nils]⟩]) (s.h.length + 2) 0 [V.slice (s.h.length + 1) 0 0 (.k 0)] = some (s.h ++ [(⟨.own, []⟩ : Blk), ⟨.own, []⟩, ⟨.own, [V.slice (s.h.length + 1) 0 0 (.k 0)]⟩]) := by
    rw [wrH_at (blk := ⟨.own, [.nils]⟩) (by simp) rfl]
    simp [lay]
  simp [hM, g3, fillL, e1]
  refine groups_snd hs hg _ _ (by simp [hM]) (by simp [g3]) (by simp) (by simp) ho hk hl (by simp) fun s2 v6 G g6 h6 k6 l6 => ?_
  simp [g6]
  exact hR _ _ ⟨G, h6, k6, l6⟩

theorem groupsL_facts {l : List (List Int)} (hg : linksB l = true) : (groupsL l).flatten.Nodup ∧ (∀ x, InR l x ↔ x ∈ (groupsL l).flatten) ∧ ∀ i (hi : i < (groupsL l).length), ∃ k, InR l k ∧ (groupsL l)[i] = groupL l k ∧ ∀ x, Rch l k x → x ∈ ((groupsL l).take (i + 1)).flatten := by
  have := groupsF_spec hg l.length [] (Cl.nil l) List.nodup_nil (by simp)
  simpa [groupsL] using this
theorem groupsL_flat {l : List (List Int)} (hg : linksB l = true) : (groupsL l).flatten.length = l.length := by
  obtain ⟨h1, h2, _⟩ := groupsL_facts hg
  have a := nodup_len (n := l.length) h1 fun x hx => (h2 x).2 hx
  have nd : (nodes l).Nodup := (nodes_rising l).imp fun h => by omega
  have b := nd.length_le_of_subset (l₂ := (groupsL l).flatten) fun x hx => (h2 x).1 (mem_nodes.1 hx)
  have c : (nodes l).length = l.length := by simp [nodes]
  omega
end GL

namespace GL
open Go

theorem readyB_iff (l : List (List Int)) (ds done : List Int) (hm : ∀ x, x ∈ ds ↔ x ∈ done) (k : Int) : ((reachL l k).all fun x => decide (x ∈ ds) || decide (x ∈ groupL l k)) = decide (readyB l done k) := by
  rw [Bool.eq_iff_iff, decide_eq_true_iff]
  simp [readyB, hm]
theorem next_first {l : List (List Int)} {done : List Int} {k : Nat} (hk : k < l.length) (h1 : (k : Int) ∉ done) (h2 : readyB l done k) (hall : ∀ j : Nat, j < k → (j : Int) ∈ done ∨ ¬ readyB l done j) : nextK l done = some (k : Int) := by
  refine List.find?_eq_some_iff_append.2 ⟨by simp [h1, h2], ((List.range k).map fun (i : Nat) => (i : Int)), ((List.range (l.length - (k + 1))).map fun (i : Nat) => ((k + 1 + i : Nat) : Int)), ?_, ?_⟩
  · unfold nodes
    have : l.length = k + (1 + (l.length - (k + 1))) := by omega
    conv => lhs; rw [this, List.range_add, List.range_add]
    simp [List.map_map, Function.comp_def, Nat.add_assoc]
  · intro a ha
    obtain ⟨j, hj, rfl⟩ := List.mem_map.1 ha
    rw [List.mem_range] at hj
    rcases hall j hj with h | h <;> simp [h]

theorem l9Groups_ok {v : V} {l : List (List Int)} {F : List Nat} {h : Heap} (hs : SdF h v l F) (hg : linksB l = true) :
    ∃ r h', call p 558 [v] h = some (r, h') ∧ ∃ G, SdF h' r (groupsL l) G ∧ Keeps h h' ∧ h.length ≤ h'.length := by
  obtain ⟨l12, _⟩ := linksB_facts hg
  refine go (fn := g558) rfl rfl fun R hR => ?_
  simp [g558]
  refine Wc_dnM (M := [3, 4, 5, 6, 7, 9, 11, 12, 13, 14, 15, 16, 17, 18, 19, 20, 21, 22, 23, 24, 25, 26, 27, 28, 29, 30, 31, 32, 33, 34, 35, 36, 37, 38, 39, 40, 41, 42, 43, 44, 45, 46, 47, 48, 49, 50, 51, 52, 53, 54, 55, 56, 57, 58, 59, 60, 61, 62, 63]) rfl
    (fun m s => ∃ (done ds : List Int) (outs : List (List Int)) (v3 v4 : V) (Go Gd : List Nat) (f : Nat), s.σ 3 = .v v3 ∧ s.σ 4 = .v v4 ∧ Od h.length s.h v3 outs Go ∧ SdF s.h v4 ds Gd ∧ (∀ b ∈ Gd, ¬ vB v3 b) ∧ ds.Pairwise (· < ·) ∧ (∀ x, x ∈ ds ↔ x ∈ done) ∧ ds.length = done.length ∧
      Keeps h s.h ∧ h.length ≤ s.h.length ∧ l.length ≤ f + done.length ∧ groupsL l = outs ++ groupsF l f done ∧ Cl l done ∧ done.Nodup ∧ outs.length ≤ done.length ∧ m = l.length - done.length) l.length
    ⟨[], [], [], .nils, .nils, [], [], l.length, by simp, by simp, Od.nil (Nat.le_refl _), SdF.nil, by simp, by simp, by simp, rfl, Keeps.refl _, Nat.le_refl _, by simp, by simp [groupsL], Cl.nil l, List.nodup_nil, by simp, by simp⟩ fun m s ⟨done, ds, outs, v3, v4, Go, Gd, f, g3, g4, hoo, hsd, hsep, hri, hmem, hlen, hk, hl, hf, hgl, hcl, hnd, hol, hm⟩ hM J hJ => ?_
  have hdl : done.length ≤ l.length := nodup_len hnd hcl.lt
  by_cases hlt : done.length < l.length
  · -- there is a next one
    have hex : ∃ k, nextK l done = some k := by
      cases hn : nextK l done with
      | some k => exact ⟨k, rfl⟩
      | none =>
        have nd : (nodes l).Nodup := (nodes_rising l).imp fun h => by omega
        have b := nd.length_le_of_subset (l₂ := done) fun x hx => next_none hg hn (mem_nodes.1 hx)
        have c : (nodes l).length = l.length := by simp [nodes]
        omega
    have hlt2 : (ds.length : Int) < l.length := by omega
    simp [g558_3, hM, g4, hsd.len, hs.len, hlt2]
    refine Wc_upM (M := [3, 4, 5, 6, 7, 9, 11, 19, 20, 21, 22, 23, 24, 25, 26, 27, 28, 29, 30, 31, 32, 33, 34, 35, 36, 37, 38, 39, 40, 41, 42, 43, 44, 45, 46, 47, 48, 49, 50, 51, 52, 53, 54, 55, 56, 57, 58, 59, 60, 61, 62, 63]) rfl l.length
      (fun k t => t.σ 19 = .v (vi k) ∧ t.σ 3 = .v v3 ∧ t.σ 4 = .v v4 ∧ Keeps s.h t.h ∧ s.h.length ≤ t.h.length ∧ ∀ j : Nat, j < k → j < l.length → (j : Int) ∈ done ∨ ¬ readyB l done j) 0
      ⟨by simp, by simp [g3], by simp [g4], Keeps.refl _, Nat.le_refl _, by simp⟩ fun k t ⟨g19, g3, g4, kt, lt, hall⟩ hM2 J2 hJ2 => ?_
    by_cases hkl : k < l.length
    · have hin : InR l (k : Int) := ⟨by omega, by omega⟩
      have hsdt := hsd.keep kt
      have e1 := l1Has_eq hsdt.sl (k : Int)
      have w1 : IntKind.i64.wrap ((k : Int) + 1) = (k + 1 : Nat) := by rw [IntWalk.i64_in] <;> omega
      by_cases hkd : (k : Int) ∈ done
      · rw [decide_eq_true ((hmem _).2 hkd)] at e1
        simp [g558_2, hM2, hM, g19, g4, hkl, e1, w1, -Int.natCast_add]
        refine hJ2 _ hkl ⟨by simp, by simp [g3], by simp [g4], kt, lt, fun j hj hjl => ?_⟩
        rcases Nat.lt_or_eq_of_le (Nat.le_of_lt_succ hj) with h | rfl
        · exact hall j h hjl
        · exact .inl hkd
      · rw [decide_eq_false (fun h => hkd ((hmem _).1 h))] at e1
        have hst := (hs.keep hk).keep kt
        obtain ⟨x, h2, e2, o2, k2, l2⟩ := l9Group_ok hst hg (k : Int) hin
        obtain ⟨y, h3, e3, G3, s3, k3, l3⟩ := l9Reach_ok (hst.keep k2) hg (k : Int) hin
        simp [g558_2, hM2, hM, g19, g4, hkl, e1, e2, e3, s3.len]
        -- is it ready?
        refine Wc_upM (M := [7, 9, 32, 33, 34, 35, 36, 37, 38, 39, 40, 41, 42, 43, 44, 45, 46, 47]) rfl (reachL l (k : Int)).length
          (fun i u => u.σ 32 = .v (vi i) ∧ u.h = h3 ∧ u.σ 7 = .v (.bool (((reachL l (k : Int)).take i).all fun x => decide (x ∈ ds) || decide (x ∈ groupL l k)))) 0 (by simp) fun i u ⟨g32, gh, g7⟩ hM3 J3 hJ3 => ?_
        have hsd3 := (hsdt.keep k2).keep k3
        have o3 := o2.keeps (k3.p fun _ => True) (fun _ _ => trivial) l3
        by_cases hi : i < (reachL l (k : Int)).length
        · have a1 := l1Has_eq hsd3.sl (reachL l (k : Int))[i]
          have a2 := l1Has_eq o3.sl (reachL l (k : Int))[i]
          have ix := s3.idx 1 .i64 i hi
          simp only [Nat.mul_one] at ix
          have ex := s3.sl.loadI i hi
          have ht : (((reachL l (k : Int)).take (i + 1)).all fun x => decide (x ∈ ds) || decide (x ∈ groupL l k)) = ((((reachL l (k : Int)).take i).all fun x => decide (x ∈ ds) || decide (x ∈ groupL l k)) && (decide ((reachL l (k : Int))[i] ∈ ds) || decide ((reachL l (k : Int))[i] ∈ groupL l k))) := by
            rw [List.take_succ_eq_append_getElem hi]; simp only [List.all_append, List.all_cons, List.all_nil, Bool.and_true]
          generalize decide ((reachL l (k : Int))[i] ∈ ds) = q2 at a1 ht
          generalize decide ((reachL l (k : Int))[i] ∈ groupL l k) = q3 at a2 ht
          generalize (((reachL l (k : Int)).take i).all fun x => decide (x ∈ ds) || decide (x ∈ groupL l k)) = q1 at g7 ht
          cases q1 <;> cases q2 <;> cases q3 <;>
          · simp [g558_0, hM3, hM2, hM, g32, gh, g7, g4, hi, ix, ex, a1, a2, s3.step hi]
            exact hJ3 _ hi ⟨by simp, rfl, by rw [ht]; simp⟩
        · rw [List.take_of_length_le (by omega), readyB_iff l ds done hmem] at g7
          by_cases hr : readyB l done (k : Int)
          · rw [decide_eq_true hr] at g7
            have hnext := next_first hkl hkd hr fun j hj => hall j hj (by omega)
            cases f with
            | zero => omega
            | succ f =>
            have hgl2 : groupsL l = (outs ++ [groupL l (k : Int)]) ++ groupsF l f (done ++ groupL l (k : Int)) := by
              rw [hgl]; simp [groupsF, hnext]
            have hkg : 0 < (groupL l (k : Int)).length := List.length_pos_of_mem (self_groupL hg hin)
            have hkln := groupL_len hg hin
            have kk3 : Keeps s.h h3 := (kt.trans k2).trans k3
            have kl : Keeps h3 (h3 ++ [⟨.own, [x]⟩]) := Keeps.append _ _
            obtain ⟨Gx, sx, fx⟩ := o3.fr
            have no3 : ∀ b ∈ Gx, ¬ vB v3 b := fun b hb hv => by have := (hoo.ge hv).2; have := fx.ge b hb; omega
            have hoo3 : Od h.length (h3 ++ [⟨.own, [x]⟩]) v3 outs Go := hoo.keeps ((kk3.trans kl).p fun _ => True) (fun _ _ => trivial) (fun _ _ => trivial) (by simp; omega)
            obtain ⟨v3', h4, e4, o4, k4, l4, b4⟩ := hoo3.app (zs := [groupL l (k : Int)]) (ys := [x]) (G := Gx) (by simp) (.one (show Data.rep _ (groupL l (k : Int)) [x] Gx from ⟨x, rfl, sx.keep kl⟩)) no3 (bytes := 24) (by decide) (by simp; omega) (k := 1) rfl (n := 1) rfl
            have sx4 : SdF h4 x (groupL l (k : Int)) Gx := (sx.keep kl).keeps (k4.mono no3)
            have hsd4 : SdF h4 v4 ds Gd := (hsd3.keep kl).keeps (k4.mono hsep)
            simp only [List.length_append, List.length_singleton] at l4 b4
            have kk4 : Keeps h h4 := Keeps.far (n := h.length) (hk.trans (kk3.trans kl)) k4 (Nat.le_refl _) fun b hb hv => by have := (hoo.ge hv).1; omega
            have hc1 := sx.cells
            have hc2 := sx.cell
            have w1' := w1
            simp [g558_0, hM3, hM2, hM, g32, gh, g7, hi, g3, hc1, hc2, fillL, rdS_last, e4, sx4.len]
            refine Wc_upM (M := [4, 11, 55, 56, 57, 58, 59, 60, 61, 62]) rfl (groupL l (k : Int)).length
              (fun j u => j ≤ (groupL l (k : Int)).length ∧ u.σ 55 = .v (vi j) ∧ ∃ (ds2 : List Int) (v5 : V) (G5 : List Nat), u.σ 4 = .v v5 ∧ SdF u.h v5 ds2 G5 ∧ (∀ b ∈ G5, ¬ vB v3' b) ∧ ds2.Pairwise (· < ·) ∧ (∀ y, y ∈ ds2 ↔ y ∈ ds ∨ y ∈ (groupL l (k : Int)).take j) ∧ ds2.length ≤ ds.length + j ∧ Keeps h4 u.h ∧ h4.length ≤ u.h.length) 0
              ⟨by omega, by simp, ds, v4, Gd, by simp [hM3, g4], hsd4, fun b hb hv => ?_, hri, by simp, by simp, Keeps.refl _, Nat.le_refl _⟩ fun j u ⟨gj, g55, ds2, v5, G5, g4', s5, sep5, r5, m5, n5, k5, l5⟩ hM4 J4 hJ4 => ?_
            · have e := b4 b hv
              obtain ⟨blk, hb1, _⟩ := hsd3.lt hb
              have := get_lt hb1; omega
            · by_cases hj : j < (groupL l (k : Int)).length
              · have sxu := sx4.keep k5
                have ij := sxu.idx 1 .i64 j hj
                simp only [Nat.mul_one] at ij
                have ej := sxu.sl.loadI j hj
                obtain ⟨v7, h7, e7, ds3, G7, s7, r7, m7, n7, G7s, k7, l7⟩ := l1Put_ok s5 r5 (by omega) (groupL l (k : Int))[j]
                simp [g558_1, hM4, hM3, hM2, hM, g55, g4', hj, ij, ej, e7, sx4.step hj]
                refine hJ4 _ hj ⟨hj, by simp, ds3, v7, G7, by simp, s7, fun b hb hv => ?_, r7, fun y => ?_, by omega, k5.trans k7, by show h4.length ≤ h7.length; omega⟩
                · rcases G7s b hb with h | h
                  · exact sep5 b h hv
                  · have e := b4 b hv; omega
                · rw [m7, m5, mem_take_succ hj, or_assoc]
              · have hjl : j = (groupL l (k : Int)).length := by omega
                subst hjl
                simp only [List.take_length] at m5
                have hnd2 := nodup_next hg hcl hnd hin hkd
                have hmem2 : ∀ y, y ∈ ds2 ↔ y ∈ done ++ groupL l (k : Int) := fun y => by rw [m5, List.mem_append, hmem]
                have hlen2 : ds2.length = (done ++ groupL l (k : Int)).length := by
                  have nd5 : ds2.Nodup := r5.imp fun h => by omega
                  have a := nd5.length_le_of_subset (l₂ := done ++ groupL l (k : Int)) fun y hy => (hmem2 y).1 hy
                  have b := hnd2.length_le_of_subset (l₂ := ds2) fun y hy => (hmem2 y).2 hy
                  omega
                simp [g558_1, hM4, hM3, hM2, hM, g55]
                refine hJ (l.length - (done ++ groupL l (k : Int)).length) _ (by simp; omega) ⟨done ++ groupL l (k : Int), ds2, outs ++ [groupL l (k : Int)], v3', v5, Go ++ Gx, G5, f, by simp [hM4], by simp [g4'], ?_, s5, sep5, r5, hmem2, hlen2, kk4.trans k5, by show h.length ≤ u.h.length; omega, by simp; omega, hgl2, hcl.next hg hin hr, hnd2, by simp; omega, rfl⟩
                exact o4.keeps (k5.p fun _ => True) (fun _ _ => trivial) (fun _ _ => trivial) l5
          · rw [decide_eq_false hr] at g7
            simp [g558_0, hM3, hM2, hM, g32, gh, g7, hi, g19, w1, -Int.natCast_add]
            refine hJ2 _ hkl ⟨by simp, by simp [hM3, g3], by simp [hM3, g4], (kt.trans k2).trans k3, by show s.h.length ≤ h3.length; omega, fun j hj hjl => ?_⟩
            rcases Nat.lt_or_eq_of_le (Nat.le_of_lt_succ hj) with h | rfl
            · exact hall j h hjl
            · exact .inr hr
    · exfalso
      obtain ⟨k', hk'⟩ := hex
      obtain ⟨a1, a2, a3, _⟩ := next_some hg hk'
      have e : ((k'.toNat : Nat) : Int) = k' := by have := a1.1; omega
      rcases hall k'.toNat (by have := a1.2; omega) (by have := a1.2; omega) with h | h
      · rw [e] at h; exact a2 h
      · rw [e] at h; exact h a3
  · have hfin : groupsL l = outs := by
      have : groupsF l f done = [] := by
        cases f with
        | zero => rfl
        | succ f =>
          cases hn : nextK l done with
          | none => simp [groupsF, hn]
          | some k =>
            obtain ⟨a1, a2, _⟩ := next_some hg hn
            have hnd2 : (k :: done).Nodup := List.nodup_cons.2 ⟨a2, hnd⟩
            have := nodup_len (n := l.length) hnd2 fun y hy => by
              rcases List.mem_cons.1 hy with rfl | hy
              · exact a1
              · exact hcl.lt y hy
            simp at this; omega
      rw [hgl, this, List.append_nil]
    obtain ⟨F', hF', _⟩ := hoo.sd
    have hlt2 : ¬ (ds.length : Int) < l.length := by omega
    simp [g558_3, hM, g4, g3, hsd.len, hs.len, hlt2]
    exact hR _ _ ⟨F', by rw [hfin]; exact hF', hk, hl⟩
end GL

namespace GL
open Go

theorem sameRows_same {h : Heap} {v w : V} {l : List (List Int)} {F G : List Nat} (hs : SdF h v l F) (ht : SdF h w l G) : call p 383 [v, w] h = some (.bool true, h) := by
  refine go_eq (fn := g383) rfl rfl fun R hR => ?_
  simp [g383, hs.len, ht.len]
  refine Wc_upM (M := [4, 5, 13, 14, 15, 16, 17, 18, 19, 20, 21, 22, 23, 24, 25, 26]) rfl l.length (fun i s => s.σ 13 = .v (vi i) ∧ s.h = h) 0 (by simp) fun i s ⟨g13, gh⟩ hM J hJ => ?_
  by_cases hn : i < l.length
  · obtain ⟨x, F2, ex, hx, _⟩ := hs.loadL i hn
    obtain ⟨y, F3, ey, hy, _⟩ := ht.loadL i hn
    have e := sameInts_eq hx.sl hy.sl
    rw [decide_eq_true rfl] at e
    simp [g383_0, hM, g13, gh, hn, hs.idx 1 .i64 i hn, ht.idx 1 .i64 i hn, ex, ey, e, hs.step hn]
    exact hJ _ hn ⟨by simp, rfl⟩
  · simp [g383_0, hM, g13, gh, hn]
    exact hR

/-- where a number stands, or -1 -/
def placeL (xs : List Int) (n : Int) : Int := if n ∈ xs then (xs.idxOf n : Int) else -1
end GL

namespace GL
open Go

/-- what one leads to, and that does not lead back, stands ahead of it -/
theorem place_le {l : List (List Int)} (hg : linksB l = true) {a b : Int} (ha : InR l a) (r : Rch l a b) (nr : ¬ Rch l b a) : placeL (groupsL l).flatten b ≤ placeL (groupsL l).flatten a := by
  obtain ⟨h1, h2, h3⟩ := groupsL_facts hg
  have ma := (h2 a).1 ha
  obtain ⟨g, hgm, hag⟩ := List.mem_flatten.1 ma
  obtain ⟨i, hi, rfl⟩ := List.getElem_of_mem hgm
  obtain ⟨k, hk, e, hr⟩ := h3 i hi
  rw [e] at hag
  have ⟨r1, r2⟩ := (mem_groupL hg hk).1 hag
  have hb := hr b (r1.trans r)
  rw [flat_take hi, e] at hb
  have hbP : b ∈ ((groupsL l).take i).flatten := by
    rcases List.mem_append.1 hb with h | h
    · exact h
    · exact absurd (((mem_groupL hg hk).1 h).2.trans r1) nr
  have hsplit : (groupsL l).flatten = ((groupsL l).take i).flatten ++ ((groupsL l).drop i).flatten := by
    rw [← List.flatten_append, List.take_append_drop]
  have haQ : a ∈ ((groupsL l).drop i).flatten := by
    rw [List.drop_eq_getElem_cons hi, List.flatten_cons, e]
    exact List.mem_append_left _ hag
  have haP : a ∉ ((groupsL l).take i).flatten := fun h => by
    rw [hsplit, List.nodup_append] at h1
    exact h1.2.2 a h a haQ rfl
  have hb2 : b ∈ (groupsL l).flatten := by rw [hsplit]; exact List.mem_append_left _ hbP
  rw [placeL, placeL, if_pos hb2, if_pos ma, hsplit, List.idxOf_append, List.idxOf_append, if_pos hbP, if_neg haP]
  have := List.idxOf_lt_length_of_mem hbP
  omega

end GL

namespace GL
open Go

theorem getD_in {α : Type} {xs : List α} {i : Nat} (hi : i < xs.length) (d : α) : xs.getD i d = xs[i] := by simp [hi]
section
variable {l : List (List Int)} (hg : linksB l = true)
include hg
end

open Classical in
/-- nothing leads to itself -/
noncomputable def roundB (l : List (List Int)) : Bool := decide (∀ i (hi : i < l.length), (groupL l (i : Int)).length ≤ 1 ∧ (i : Int) ∉ l[i])
theorem IsRoundless_ok {h : Heap} {v : V} {l : List (List Int)} {F : List Nat} (hs : SdF h v l F) :
    ∃ r h', call p 511 [v] h = some (r, h') ∧ r = .tup [.bool (linksB l && roundB l), .bool (linksB l)] ∧ Keeps h h' ∧ h.length ≤ h'.length := by
  obtain ⟨_, h1, e1, rfl, k1, l1⟩ := GoodLinks_ok hs
  refine go (fn := g511) rfl rfl fun R hR => ?_
  cases hg : linksB l with
  | false =>
    rw [hg] at e1; simp [g511, e1]
    exact hR _ _ ⟨by simp [hg], k1, l1⟩
  | true =>
    rw [hg] at e1
    have bad : ∀ {i : Nat} (hi : i < l.length), ¬ ((groupL l (i : Int)).length ≤ 1 ∧ (i : Int) ∉ l[i]) → roundB l = false := fun hi hn => by
      simp only [roundB, decide_eq_false_iff_not]; exact fun h => hn (h _ hi)
    simp [g511, e1, hs.len]
    refine Wc_upM (M := [2, 3, 4, 5, 11, 12, 13, 14, 15, 16, 17, 18, 19, 20, 21, 22, 23, 24, 25, 26]) rfl l.length (fun i s => s.σ 11 = .v (vi i) ∧ Keeps h s.h ∧ h.length ≤ s.h.length ∧ ∀ j, j < i → ∀ (hj : j < l.length), (groupL l (j : Int)).length ≤ 1 ∧ (j : Int) ∉ l[j]) 0
      ⟨by simp, k1, l1, by simp⟩ fun i s ⟨g11, hk, hl, hall⟩ hM J hJ => ?_
    by_cases hi : i < l.length
    · have hs' := hs.keep hk
      have hin : InR l (i : Int) := ⟨by omega, by omega⟩
      obtain ⟨x, F2, ex, hx, _⟩ := hs'.loadL i hi
      obtain ⟨r, h2, e2, G, s2, f2, k2, l2⟩ := group_ok hs' hg (i : Int) hin
      have hx2 := hx.keep k2
      have e3 := containsI_eq hx2.sl (i : Int)
      by_cases hgl : 1 < (groupL l (i : Int)).length
      · have hgl2 : (1 : Int) < (groupL l (i : Int)).length := by omega
        simp [g511_0, hM, g11, hi, hs'.idx 1 .i64 i hi, ex, e2, s2.len, hgl2, hgl]
        exact hR _ _ ⟨by simp [bad hi fun h => absurd h.1 (by omega), hg], hk.trans k2, by omega⟩
      · have hgl2 : ¬ (1 : Int) < (groupL l (i : Int)).length := by omega
        by_cases hm : (i : Int) ∈ l[i]
        · rw [decide_eq_true hm] at e3
          simp [g511_0, hM, g11, hi, hs'.idx 1 .i64 i hi, ex, e2, s2.len, hgl, hgl2, e3]
          exact hR _ _ ⟨by simp [bad hi fun h => h.2 hm, hg], hk.trans k2, by omega⟩
        · rw [decide_eq_false hm] at e3
          simp [g511_0, hM, g11, hi, hs'.idx 1 .i64 i hi, ex, e2, s2.len, hgl, hgl2, e3, hs.step hi]
          refine hJ _ hi ⟨by simp, hk.trans k2, by show h.length ≤ h2.length; omega, fun j hj hjl => ?_⟩
          rcases Nat.lt_or_eq_of_le (Nat.le_of_lt_succ hj) with h | rfl
          · exact hall j h hjl
          · exact ⟨by omega, hm⟩
    · have hr : roundB l = true := by simp only [roundB, decide_eq_true_eq]; exact fun j hj => hall j (by omega) hj
      simp [g511_0, hM, g11, hi]
      exact hR _ _ ⟨by simp [hr, hg], hk, hl⟩
theorem IsRoundlessS_ok {h : Heap} {v : V} {l : List (List Int)} {F : List Nat} (hs : SdF h v l F) :
    ∃ r h', call p 513 [v] h = some (r, h') ∧ r = .tup [.bool (linksB l && roundB l), .bool (linksB l)] ∧ Keeps h h' ∧ h.length ≤ h'.length := by
  have e1 := GoodLinksS_eq hs
  refine go (fn := g513) rfl rfl fun R hR => ?_
  cases hg : linksB l with
  | false =>
    rw [hg] at e1; simp [g513, e1]
    exact hR _ _ ⟨by simp [hg], Keeps.refl _, Nat.le_refl _⟩
  | true =>
    rw [hg] at e1
    have bad : ∀ {i : Nat} (hi : i < l.length), ¬ ((groupL l (i : Int)).length ≤ 1 ∧ (i : Int) ∉ l[i]) → roundB l = false := fun hi hn => by
      simp only [roundB, decide_eq_false_iff_not]; exact fun h => hn (h _ hi)
    simp [g513, e1, hs.len]
    refine Wc_upM (M := [2, 3, 4, 5, 11, 12, 13, 14, 15, 16, 17, 18, 19, 20, 21, 22, 23, 24, 25, 26]) rfl l.length (fun i s => s.σ 11 = .v (vi i) ∧ Keeps h s.h ∧ h.length ≤ s.h.length ∧ ∀ j, j < i → ∀ (hj : j < l.length), (groupL l (j : Int)).length ≤ 1 ∧ (j : Int) ∉ l[j]) 0
      ⟨by simp, Keeps.refl _, Nat.le_refl _, by simp⟩ fun i s ⟨g11, hk, hl, hall⟩ hM J hJ => ?_
    by_cases hi : i < l.length
    · have hs' := hs.keep hk
      have hin : InR l (i : Int) := ⟨by omega, by omega⟩
      obtain ⟨x, F2, ex, hx, _⟩ := hs'.loadL i hi
      have e3 := l1Has_eq hx.sl (i : Int)
      by_cases hm : (i : Int) ∈ l[i]
      · rw [decide_eq_true hm] at e3
        simp [g513_0, hM, g11, hi, hs'.idx 1 .i64 i hi, ex, e3]
        exact hR _ _ ⟨by simp [bad hi fun h => h.2 hm, hg], hk, hl⟩
      · rw [decide_eq_false hm] at e3
        obtain ⟨r, h2, e2, o2, k2, l2⟩ := l9Group_ok hs' hg (i : Int) hin
        by_cases hgl : 1 < (groupL l (i : Int)).length
        · have hgl2 : (1 : Int) < (groupL l (i : Int)).length := by omega
          simp [g513_0, hM, g11, hi, hs'.idx 1 .i64 i hi, ex, e2, o2.sl.len, hgl2, hgl, e3]
          exact hR _ _ ⟨by simp [bad hi fun h => absurd h.1 (by omega), hg], hk.trans k2, by omega⟩
        · have hgl2 : ¬ (1 : Int) < (groupL l (i : Int)).length := by omega
          simp [g513_0, hM, g11, hi, hs'.idx 1 .i64 i hi, ex, e2, o2.sl.len, hgl, hgl2, e3, hs.step hi]
          refine hJ _ hi ⟨by simp, hk.trans k2, by show h.length ≤ h2.length; omega, fun j hj hjl => ?_⟩
          rcases Nat.lt_or_eq_of_le (Nat.le_of_lt_succ hj) with h | rfl
          · exact hall j h hjl
          · exact ⟨by omega, hm⟩
    · have hr : roundB l = true := by simp only [roundB, decide_eq_true_eq]; exact fun j hj => hall j (by omega) hj
      simp [g513_0, hM, g11, hi]
      exact hR _ _ ⟨by simp [hr, hg], hk, hl⟩
end GL

namespace GL
open Go

theorem KeepsP.low {h h1 h2 : Heap} {n : Nat} (hk : Keeps h h1) (hp : KeepsP (fun b => b < n) h1 h2) (hn : h.length ≤ n) : Keeps h h2 := Keeps.far (n := h.length) hk hp (Nat.le_refl _) fun i hi => by omega

end GL

namespace GL
open Go

end GL

namespace GL
open Go

end GL

namespace GL
open Go

theorem srtI_ris (xs : List Int) (lo hi : Int) : risB lo hi (srtI xs) = decide ((∀ x ∈ xs, lo ≤ x ∧ x ≤ hi) ∧ xs.Nodup) := by
  unfold risB
  have hp := srtI_perm xs
  congr 1
  refine propext ⟨fun ⟨h1, h2⟩ => ⟨fun x hx => h1 x (hp.mem_iff.2 hx), hp.nodup_iff.1 (h2.imp fun h => by omega)⟩, fun ⟨h1, h2⟩ => ⟨fun x hx => h1 x (hp.mem_iff.1 hx), sorted_nodup (srtI_le xs) (hp.nodup_iff.2 h2)⟩⟩
/-- slices.Sorted(slices.Values(v)) -/
theorem sorted_call {h : Heap} {v : V} {xs : List Int} (hs : Sl h v xs) (hl : xs.length ≤ 2 ^ 20) :
    ∃ c h1 r h', call p 406 [v] h = some (c, h1) ∧ call p 407 [c] h1 = some (r, h') ∧ Sl h' r (srtI xs) ∧ Keeps h h' ∧ h.length ≤ h'.length := by
  have hv : v = .nils ∨ ∃ b o n c, v = .slice b o n c := by
    rcases hs.2 with ⟨rfl, _⟩ | ⟨b, o, c, rfl, _⟩
    · exact .inl rfl
    · exact .inr ⟨_, _, _, _, rfl⟩
  have k0 : Keeps h (h ++ [⟨.own, [v]⟩]) := Keeps.append _ _
  have hb : (h ++ [⟨.own, [v]⟩])[h.length]? = some ⟨.own, [v]⟩ := get_last _ _
  have r0 : rdH (h ++ [⟨.own, [v]⟩]) h.length 0 1 = some [v] := by rw [rdH_at hb (by simp)]; rfl
  have hr := (hs.keeps k0).rdS xs.length (Nat.le_refl _)
  rw [List.take_length, flats_ints] at hr
  have e2 := sortedE_eq r0 hs.len (by omega) hr
  refine ⟨_, _, (sortedR xs (h ++ [⟨.own, [v]⟩])).1, (sortedR xs (h ++ [⟨.own, [v]⟩])).2, by rw [call_ext (e := valuesE) rfl]; exact valuesE_eq h hv, by rw [call_ext (e := sortedE) rfl]; exact e2, ?_⟩
  unfold sortedR
  by_cases h0 : xs = []
  · rw [if_pos h0]; subst h0
    exact ⟨by simpa [srtI] using Sl.nil, k0, by simp⟩
  · rw [if_neg h0]
    refine ⟨?_, k0.trans (Keeps.append _ _), by simp⟩
    exact Sl.lit (srtI xs) xs.length (srtI_length xs).symm _ (flats_ints _).symm _ (by rw [srtI_length]; omega)
theorem cut_take {cs xs : List V} {off n m : Nat} (e : cut cs off n = some xs) (hm : m ≤ n) : cut cs off m = some (xs.take m) := by
  unfold cut at e ⊢
  split at e
  case isFalse => cases e
  injection e with e
  subst e
  rw [if_pos (by omega), List.take_take, Nat.min_eq_left hm]
theorem SdF.pre {h : Heap} {v : V} {xs : List Int} {F : List Nat} (hs : SdF h v xs F) {i : Nat} (hi : i ≤ xs.length) : ∃ u F', slcV 1 v none (some i) none = some u ∧ SdF h u (xs.take i) F' ∧ ∀ b ∈ F', b ∈ F := by
  have hbd := hs.bd
  rcases hs with ⟨hb, ⟨rfl, rfl, rfl⟩ | ⟨b, off, cap, rfl, hc, hs⟩⟩
  · simp at hi; subst hi
    exact ⟨.nils, [], rfl, .nil, by simp⟩
  · have s2 : ∃ cap2, slcV 1 (.slice b off xs.length cap) none (some i) none = some (.slice b off i cap2) ∧ capW 1 i cap2 := by
      cases cap with
      | k c =>
        have hc' : xs.length ≤ c := hc
        refine ⟨.k c, ?_, Nat.le_trans hi hc'⟩
        simp only [slcV, Option.getD_none, Option.getD_some]
        rw [if_pos ⟨by omega, by omega, by omega⟩]
        simp
      | o k =>
        have hc' : k = 1 := hc
        subst hc'
        refine ⟨.o 1, ?_, rfl⟩
        simp only [slcV, Option.getD_none, Option.getD_some]
        rw [if_pos ⟨trivial, by omega, by omega⟩]
        simp
    obtain ⟨cap2, e, c2⟩ := s2
    have hl : (xs.take i).length = i := by simp; omega
    rcases hs with ⟨rfl, rfl⟩ | ⟨blk, cs, G, rfl, h1, h2, h3, h4⟩
    · simp at hi; subst hi
      exact ⟨_, [], e, ⟨by simp, .inr ⟨b, off, cap2, rfl, c2, .inl ⟨rfl, rfl⟩⟩⟩, by simp⟩
    · obtain ⟨rfl, rfl⟩ := Reps.flat.1 h4
      have h3' : cut blk.cells off (i * 1) = some (flats (xs.take i)) := by
        rw [← flats_take]
        exact cut_take h3 (show i * 1 ≤ xs.length * 1 by omega)
      refine ⟨_, [b], e, ⟨by omega, .inr ⟨b, off, cap2, by rw [hl], by rw [hl]; exact c2, .inr ⟨blk, flats (xs.take i), [], rfl, h1, h2, by rw [hl]; exact h3', Reps.flat.2 ⟨rfl, rfl⟩⟩⟩⟩, by simp⟩
def onceB (n : Int) (xs : List Int) : Bool := decide ((∀ x ∈ xs, 0 ≤ x ∧ x ≤ n - 1) ∧ xs.Nodup)
theorem areOnce_ok {h : Heap} {v : V} {xs : List Int} (hs : Sl h v xs) (hl : xs.length ≤ 2 ^ 20) (n : Int) (hn : 0 ≤ n ∧ n < 2 ^ 60) :
    ∃ r h', call p 541 [v, vi n] h = some (r, h') ∧ r = .bool (onceB n xs) ∧ Keeps h h' ∧ h.length ≤ h'.length := by
  obtain ⟨c, h1, r, h2, e1, e2, s2, k2, l2⟩ := sorted_call hs hl
  have w : IntKind.i64.wrap (n - 1) = n - 1 := by rw [IntWalk.i64_in] <;> omega
  refine go (fn := g541) rfl rfl fun R hR => ?_
  simp [g541, e1, e2, w, isRising_eq s2, srtI_ris, -Bool.decide_and]
  exact hR _ _ ⟨rfl, k2, l2⟩
theorem l14Once_eq {h : Heap} {v : V} {xs : List Int} {F : List Nat} (hd : SdF h v xs F) (n : Int) (hn : 0 ≤ n ∧ n < 2 ^ 60) : call p 539 [vi n, v] h = some (.bool (onceB n xs), h) := by
  have hs := hd.sl
  have w : IntKind.i64.wrap (n - 1) = n - 1 := by rw [IntWalk.i64_in] <;> omega
  refine go_eq (fn := g539) rfl rfl fun R hR => ?_
  simp [g539, hs.len]
  refine Wc_upM (M := [4, 5, 6, 9, 10, 11, 12, 13, 14, 15, 16, 17, 18, 19, 20, 21, 22, 23, 24, 25, 26]) rfl xs.length (fun i s => s.σ 9 = .v (vi i) ∧ s.h = h ∧ onceB n (xs.take i) = true) 0 (by simp [onceB]) fun i s ⟨g9, gh, hall⟩ hM J hJ => ?_
  by_cases hi : i < xs.length
  · have ix := hs.idx 1 .i64 i hi
    simp only [Nat.mul_one] at ix
    have ht := List.take_succ_eq_append_getElem hi
    obtain ⟨u, _, eu, su', _⟩ := hd.pre (i := i) (by omega)
    have su := su'.sl
    have eh := l1Has_eq su xs[i]
    simp only [onceB, decide_eq_true_eq] at hall
    by_cases hin : 0 ≤ xs[i] ∧ xs[i] ≤ n - 1
    · by_cases hm : xs[i] ∈ xs.take i
      · rw [decide_eq_true hm] at eh
        simp [g539_0, hM, g9, gh, hi, ix, hs.loadI, w, hin, bounds, takeB, eu, eh, -Bool.decide_and]
        have : onceB n xs = false := by
          simp only [onceB, decide_eq_false_iff_not]
          rintro ⟨_, h2⟩
          have h3 : (xs.take (i + 1)).Nodup := List.Sublist.nodup (List.take_sublist ..) h2
          rw [ht, List.nodup_append] at h3
          exact h3.2.2 _ hm _ (by simp) rfl
        rw [this] at hR; exact hR
      · rw [decide_eq_false hm] at eh
        simp [g539_0, hM, g9, gh, hi, ix, hs.loadI, w, hin, bounds, takeB, eu, eh, hs.step hi, -Bool.decide_and]
        refine hJ _ hi ⟨by simp, rfl, ?_⟩
        simp only [onceB, decide_eq_true_eq, ht]
        refine ⟨fun x hx => ?_, ?_⟩
        · rcases List.mem_append.1 hx with hx | hx
          · exact hall.1 x hx
          · simp at hx; subst hx; exact hin
        · rw [List.nodup_append]
          exact ⟨hall.2, by simp, fun a ha b hb e => by simp at hb; subst hb; subst e; exact hm ha⟩
    · simp [g539_0, hM, g9, gh, hi, ix, hs.loadI, w, hin, -Bool.decide_and]
      have : onceB n xs = false := by
        simp only [onceB, decide_eq_false_iff_not]
        exact fun h2 => hin (h2.1 _ (List.getElem_mem hi))
      rw [this] at hR; exact hR
  · rw [List.take_of_length_le (by omega)] at hall
    simp [g539_0, hM, g9, gh, hi]
    rw [hall] at hR; exact hR
end GL

namespace GL
open Go

theorem l5Sub_eq {h : Heap} {v w : V} {as bs : List Int} (ha : Sl h v as) (hb : Sl h w bs) : call p 554 [v, w] h = some (.bool (as.all fun x => decide (x ∈ bs)), h) := by
  refine go_eq (fn := g554) rfl rfl fun R hR => ?_
  simp [g554, ha.len]
  refine Wc_upM (M := [4, 6, 9, 10, 11, 12, 13, 14, 15, 16, 17]) rfl as.length (fun i s => s.σ 9 = .v (vi i) ∧ s.h = h ∧ ∀ x ∈ as.take i, decide (x ∈ bs) = true) 0 (by simp) fun i s ⟨g9, gh, hall⟩ hM J hJ => ?_
  by_cases hi : i < as.length
  · have ix := ha.idx 1 .i64 i hi
    simp only [Nat.mul_one] at ix
    have e := l1Has_eq hb as[i]
    by_cases hm : as[i] ∈ bs
    · rw [decide_eq_true hm] at e
      simp [g554_0, hM, g9, gh, hi, ix, ha.loadI, e, ha.step hi]
      exact hJ _ hi ⟨by simp, rfl, (all_take_succ (P := fun x => decide (x ∈ bs) = true) hi).2 ⟨hall, decide_eq_true hm⟩⟩
    · rw [decide_eq_false hm] at e
      simp [g554_0, hM, g9, gh, hi, ix, ha.loadI, e]
      have : (as.all fun x => decide (x ∈ bs)) = false := List.all_eq_false.2 ⟨_, List.getElem_mem hi, by simp [hm]⟩
      rw [this] at hR; exact hR
  · rw [List.take_of_length_le (by omega)] at hall
    have : (as.all fun x => decide (x ∈ bs)) = true := List.all_eq_true.2 hall
    rw [this] at hR
    simp [g554_0, hM, g9, gh, hi]; exact hR
end GL

namespace GL
open Go

end GL

namespace GL
open Go

end GL

namespace GL
open Go

/-! deeds -/
structure Dd where
  key : Int
  wr : Bool
instance : Flat Dd := ⟨2, fun d => [vi d.key, .bool d.wr], fun _ => rfl, fun _ => rfl, by decide⟩
end GL

namespace GL
open Go

end GL

namespace GL
open Go

/-! a log that was heard: the places, the deeds, and what each place heard, in order -/
structure Hd where
  no : Int
  deeds : List Dd
  rows : List (List Int)
instance hdData : Data Hd where
  sz := 3
  pos := by decide
  rep := fun h c cs F => ∃ x y F1 F2, cs = [vi c.no, x, y] ∧ F = F1 ++ F2 ∧ SdF h x c.deeds F1 ∧ SdF h y c.rows F2
  len := by rintro h a cs F ⟨x, y, F1, F2, rfl, _⟩; rfl
  ok := by rintro h a cs F ⟨x, y, F1, F2, rfl, _, h1, h2⟩; simp [allCell, h1.cell, h2.cell, cell_int]
  keeps := by
    rintro h h' a cs F ⟨x, y, F1, F2, rfl, rfl, h1, h2⟩ hk
    exact ⟨x, y, F1, F2, rfl, rfl, h1.keeps (hk.mono fun b hb => List.mem_append_left _ hb), h2.keeps (hk.mono fun b hb => List.mem_append_right _ hb)⟩
  lt := by
    rintro h a cs F b ⟨x, y, F1, F2, rfl, rfl, h1, h2⟩ hb
    rcases List.mem_append.1 hb with hb | hb
    · exact h1.lt hb
    · exact h2.lt hb
def HdV (h : Heap) (v : V) (c : Hd) (F : List Nat) : Prop := ∃ x y F1 F2, v = .agg [vi c.no, x, y] ∧ F = F1 ++ F2 ∧ SdF h x c.deeds F1 ∧ SdF h y c.rows F2
section
variable {h h' : Heap} {v w : V} {c : Hd} {F G : List Nat}
theorem HdV.keeps (hc : HdV h v c F) (hk : KeepsP (fun b => b ∈ F) h h') : HdV h' v c F := by
  obtain ⟨x, y, F1, F2, rfl, rfl, h1, h2⟩ := hc
  exact ⟨x, y, F1, F2, rfl, rfl, h1.keeps (hk.mono fun b hb => List.mem_append_left _ hb), h2.keeps (hk.mono fun b hb => List.mem_append_right _ hb)⟩
theorem HdV.keep (hc : HdV h v c F) (hk : Keeps h h') : HdV h' v c F := hc.keeps (hk.p _)
theorem HdV.lt (hc : HdV h v c F) {b : Nat} (hb : b ∈ F) : b < h.length := by
  obtain ⟨x, y, F1, F2, rfl, rfl, h1, h2⟩ := hc
  rcases List.mem_append.1 hb with hb | hb
  · obtain ⟨_, h3, _⟩ := h1.lt hb; exact get_lt h3
  · obtain ⟨_, h3, _⟩ := h2.lt hb; exact get_lt h3
end

theorem sub_len : ∀ {l m : List Int}, l.Nodup → (∀ x ∈ l, x ∈ m) → l.length ≤ m.length
  | [], m, _, _ => by simp
  | a :: l, m, hn, hs => by
    have h1 := List.nodup_cons.1 hn
    have ham := hs a (by simp)
    have := sub_len (l := l) (m := m.erase a) h1.2 fun x hx => (List.mem_erase_of_ne (fun e => h1.1 (by rw [← e]; exact hx))).2 (hs x (by simp [hx]))
    rw [List.length_erase_of_mem ham] at this
    have : 0 < m.length := List.length_pos_of_mem ham
    simp; omega
theorem twice : ∀ {r : List Int}, ¬ r.Nodup → ∃ a b x, r = a ++ x :: b ∧ x ∈ b
  | [], hd => absurd List.nodup_nil hd
  | y :: r, hd => by
    by_cases hy : y ∈ r
    · exact ⟨[], r, y, rfl, hy⟩
    · obtain ⟨a, b, x, e, hx⟩ := twice (r := r) fun h => hd (List.nodup_cons.2 ⟨hy, h⟩)
      exact ⟨y :: a, b, x, by rw [e]; rfl, hx⟩
theorem onceB_iff {n : Nat} {r : List Int} (hl : r.length = n) : onceB n r = decide ((∀ x ∈ r, 0 ≤ x ∧ x ≤ (n : Int) - 1) ∧ ∀ j : Nat, j < n → (j : Int) ∈ r) := by
  unfold onceB
  congr 1
  refine propext ⟨fun ⟨h1, h2⟩ => ⟨h1, fun j hj => ?_⟩, fun ⟨h1, h2⟩ => ⟨h1, ?_⟩⟩
  · refine Decidable.byContradiction fun hm => ?_
    have := nodup_len (n := n) (xs := (j : Int) :: r) (List.nodup_cons.2 ⟨hm, h2⟩) fun x hx => by
      rcases List.mem_cons.1 hx with rfl | hx
      · omega
      · have := h1 x hx; omega
    simp at this; omega
  · refine Decidable.byContradiction fun hd => ?_
    -- one of them stands twice: without it the rest still holds all
    have := twice hd
    obtain ⟨a, b, x, rfl, hx⟩ := this
    have hnd : ((List.range n).map fun (i : Nat) => (i : Int)).Nodup := (range_rising n).imp fun h => by omega
    have := sub_len hnd (m := a ++ b) fun y hy => by
      obtain ⟨j, hj, rfl⟩ := List.mem_map.1 hy
      have := h2 j (List.mem_range.1 hj)
      rcases List.mem_append.1 this with h | h
      · exact List.mem_append_left _ h
      · rcases List.mem_cons.1 h with e | h
        · rw [e]; exact List.mem_append_right _ hx
        · exact List.mem_append_right _ h
    simp at this hl; omega
end GL

namespace GL
open Go

end GL

namespace GL
open Go

end GL

namespace GL
open Go

end GL

namespace GL
open Go

def Dd.of (p : Int × Bool) : Dd := ⟨p.1, p.2⟩
def Hd.of (p : Int × List Dd × List (List Int)) : Hd := ⟨p.1, p.2.1, p.2.2⟩
end GL

namespace GL
open Go

end GL

namespace GL
open Go

end GL

namespace GL
open Go

end GL

namespace GL
open Go

end GL

namespace GL
open Go

theorem Od.one {α : Type} [Data α] {lo : Nat} {h h1 : Heap} {v : V} {xs : List α} {G G' : List Nat} (od : Od lo h v xs G) (k1 : Keeps h h1) (l1 : h.length ≤ h1.length) (hG : ∀ b ∈ G', h.length ≤ b) {x : α} {cs : List V} (hr : Data.rep h1 x cs G') (hx : xs.length ≤ 2 ^ 20) {k bytes : Nat} (hk : k = Data.sz α) (hb : bytes ≤ 2 ^ 8) :
    ∃ v' h2, appH k bytes v 1 cs (h1 ++ [⟨.own, cs⟩]) = some (v', h2) ∧ Od lo h2 v' (xs ++ [x]) (G ++ G') ∧ (∀ h0 : Heap, Keeps h0 h → h0.length ≤ lo → Keeps h0 h2) ∧ h1.length < h2.length := by
  have hge := fun i (hi : vB v i) => od.ge hi
  have kl : Keeps h1 (h1 ++ [⟨.own, cs⟩]) := Keeps.append h1 _
  have od1 : Od lo (h1 ++ [⟨.own, cs⟩]) v xs G := od.keeps ((k1.trans kl).p fun _ => True) (fun _ _ => trivial) (fun _ _ => trivial) (by simp; omega)
  have hnv : ∀ b ∈ G', ¬ vB v b := fun b hb hv => by have := (hge b hv).2; have := hG b hb; omega
  obtain ⟨v', h2, e, o2, kp, l2, b2⟩ := od1.app (zs := [x]) (G := G') (by simp) (.one (Data.keeps hr (kl.p _))) hnv hb (by simp; omega) hk rfl
  have k2 : KeepsP (fun i => ¬ vB v i) h1 h2 := fun i blk hi h3 h4 => kp i blk hi (kl i blk h3 h4) h4
  exact ⟨v', h2, e, o2, fun h0 hk0 hl0 => Keeps.far (n := lo) (hk0.trans k1) k2 hl0 fun i hi hv => by have := (hge i hv).1; omega, by simp at l2; omega⟩

/-! a house: a heard log, and a group for each of its deeds -/
structure Hs where
  heard : Hd
  groups : List (List Int)
instance hsData : Data Hs where
  sz := 4
  pos := by decide
  rep := fun h c cs F => ∃ x y z F1 F2 F3, cs = [vi c.heard.no, x, y, z] ∧ F = F1 ++ F2 ++ F3 ∧ SdF h x c.heard.deeds F1 ∧ SdF h y c.heard.rows F2 ∧ SdF h z c.groups F3
  len := by rintro h a cs F ⟨x, y, z, F1, F2, F3, rfl, _⟩; rfl
  ok := by rintro h a cs F ⟨x, y, z, F1, F2, F3, rfl, _, h1, h2, h3⟩; simp [allCell, h1.cell, h2.cell, h3.cell, cell_int]
  keeps := by
    rintro h h' a cs F ⟨x, y, z, F1, F2, F3, rfl, rfl, h1, h2, h3⟩ hk
    exact ⟨x, y, z, F1, F2, F3, rfl, rfl, h1.keeps (hk.mono fun b hb => by simp [hb]), h2.keeps (hk.mono fun b hb => by simp [hb]), h3.keeps (hk.mono fun b hb => by simp [hb])⟩
  lt := by
    rintro h a cs F b ⟨x, y, z, F1, F2, F3, rfl, rfl, h1, h2, h3⟩ hb
    rcases List.mem_append.1 hb with hb | hb
    · rcases List.mem_append.1 hb with hb | hb
      · exact h1.lt hb
      · exact h2.lt hb
    · exact h3.lt hb
def HsV (h : Heap) (v : V) (c : Hs) (F : List Nat) : Prop := ∃ x y z F1 F2 F3, v = .agg [vi c.heard.no, x, y, z] ∧ F = F1 ++ F2 ++ F3 ∧ SdF h x c.heard.deeds F1 ∧ SdF h y c.heard.rows F2 ∧ SdF h z c.groups F3
section
variable {h h' : Heap} {v w : V} {c : Hs} {F G : List Nat}
theorem HsV.keeps (hc : HsV h v c F) (hk : KeepsP (fun b => b ∈ F) h h') : HsV h' v c F := by
  obtain ⟨x, y, z, F1, F2, F3, rfl, rfl, h1, h2, h3⟩ := hc
  exact ⟨x, y, z, F1, F2, F3, rfl, rfl, h1.keeps (hk.mono fun b hb => by simp [hb]), h2.keeps (hk.mono fun b hb => by simp [hb]), h3.keeps (hk.mono fun b hb => by simp [hb])⟩
theorem HsV.keep (hc : HsV h v c F) (hk : Keeps h h') : HsV h' v c F := hc.keeps (hk.p _)
theorem HsV.lt (hc : HsV h v c F) {b : Nat} (hb : b ∈ F) : b < h.length := by
  obtain ⟨x, y, z, F1, F2, F3, rfl, rfl, h1, h2, h3⟩ := hc
  rcases List.mem_append.1 hb with hb | hb
  · rcases List.mem_append.1 hb with hb | hb
    · obtain ⟨_, h3, _⟩ := h1.lt hb; exact get_lt h3
    · obtain ⟨_, h3, _⟩ := h2.lt hb; exact get_lt h3
  · obtain ⟨_, h4, _⟩ := h3.lt hb; exact get_lt h4
end
def Hs.of (p : Hd × List (List Int)) : Hs := ⟨p.1, p.2⟩
end GL

namespace GL
open Go

theorem SdF.ltF {α : Type} [Data α] {h : Heap} {v : V} {xs : List α} {F : List Nat} (hs : SdF h v xs F) {b : Nat} (hb : b ∈ F) : b < h.length := by
  obtain ⟨_, h9, _⟩ := hs.lt hb; exact get_lt h9
end GL

namespace GL
open Go

end GL

namespace GL
open Go

/-! what comes of deeds that are done in an order -/
structure Oc where
  order : List Int
  keys : List Int
  seen : List Int
end GL

namespace GL
open Go

def OcV (h : Heap) (v : V) (c : Oc) (F : List Nat) : Prop := ∃ x y z F1 F2 F3, v = .agg [x, y, z] ∧ F = F1 ++ F2 ++ F3 ∧ SdF h x c.order F1 ∧ SdF h y c.keys F2 ∧ SdF h z c.seen F3
theorem begin_one (σ : Nat → T) (L : Nat → Nat × List V) (h : Heap) (wt : Nat → Option (ROp × List T × V)) (fl : Nat → Bool) (b : Nat) :
    S.begin ⟨σ, L, h, wt, fl, b⟩ 1 = ⟨σ, L, h ++ [deadBlk], fun _ => none, fun _ => false, h.length⟩ := by simp [S.begin]
theorem flats_rep0 (n : Nat) : flats (List.replicate n (0 : Int)) = List.replicate n (vi 0) := by rw [flats_ints]; simp
theorem mtR (n : Nat) : (List.replicate n [vi 0]).flatten = List.replicate n (vi 0) := by
  induction n with
  | zero => rfl
  | succ n ih => simp [List.replicate_succ]
end GL

namespace GL
open Go

theorem cloneI_exact {h : Heap} {v : V} {xs : List Int} (hs : Sl h v xs) (hl : xs.length ≤ 2 ^ 20) : ∃ r h', call p 389 [v] h = some (r, h') ∧ ∃ l F, h' = h ++ l ∧ SdF h' r xs F ∧ Fresh h.length h' F := by
  refine go (fn := g389) rfl rfl fun R hR => ?_
  have hs' := hs.keeps (Keeps.append h [⟨.own, []⟩])
  have e1 := hs'.rdS xs.length (Nat.le_refl _)
  rw [List.take_length] at e1
  change rdS _ 1 _ _ = _ at e1
  have hlen := hs.len
  rcases hs with ⟨_, ⟨rfl, rfl⟩ | ⟨b, off, cap, rfl, _⟩⟩
  · simp [g389]
    exact hR _ _ ⟨[], [], by simp, SdF.nil, Fresh.nil⟩
  · by_cases h0 : xs = []
    · subst h0
      have ap : ∀ b H, appH 1 8 (.slice b 0 0 (.k 0)) 0 [] H = some (.slice b 0 0 (.k 0), H) := fun _ _ => rfl
      have e1' : rdS (h ++ [⟨.own, []⟩]) 1 (.slice b off 0 cap) 0 = some [] := e1
      simp [g389, fillL, e1', ap]
      exact hR _ _ ⟨[⟨.own, []⟩], [], rfl, ⟨by simp, .inr ⟨h.length, 0, .k 0, rfl, Nat.le_refl 0, .inl ⟨rfl, rfl⟩⟩⟩, Fresh.nil⟩
    · have n0 : 0 < xs.length := List.length_pos_iff.2 h0
      have ap := appH_first (H := h ++ [⟨.own, []⟩]) (b := h.length) (k := 1) (bytes := 8) (ys := flats xs) n0 hl (by decide)
      simp at ap
      simp [g389, fillL, e1, ap]
      exact hR _ _ ⟨[⟨.own, []⟩, ⟨.own, flats xs⟩], [h.length + 1], rfl, sdF_new (by simp) (by omega) rfl, ⟨by simp, by simp, by simp; exact ⟨_, by simp; rfl⟩⟩⟩
end GL

namespace GL
open Go

section
variable {h h' : Heap} {v w : V} {c : Oc} {F G : List Nat}
theorem OcV.keeps (hc : OcV h v c F) (hk : KeepsP (fun b => b ∈ F) h h') : OcV h' v c F := by
  obtain ⟨x, y, z, F1, F2, F3, rfl, rfl, h1, h2, h3⟩ := hc
  exact ⟨x, y, z, F1, F2, F3, rfl, rfl, h1.keeps (hk.mono fun b hb => by simp [hb]), h2.keeps (hk.mono fun b hb => by simp [hb]), h3.keeps (hk.mono fun b hb => by simp [hb])⟩
theorem OcV.keep (hc : OcV h v c F) (hk : Keeps h h') : OcV h' v c F := hc.keeps (hk.p _)
theorem OcV.lt (hc : OcV h v c F) {b : Nat} (hb : b ∈ F) : b < h.length := by
  obtain ⟨x, y, z, F1, F2, F3, rfl, rfl, h1, h2, h3⟩ := hc
  rcases List.mem_append.1 hb with hb | hb
  · rcases List.mem_append.1 hb with hb | hb
    · exact h1.ltF hb
    · exact h2.ltF hb
  · exact h3.ltF hb
end
end GL

namespace GL
open Go

end GL

namespace GL
open Go

theorem cut_drop {cs xs : List V} {off n m : Nat} (e : cut cs off n = some xs) (hm : m ≤ n) : cut cs (off + m) (n - m) = some (xs.drop m) := by
  unfold cut at e ⊢
  split at e
  case isFalse => cases e
  injection e with e
  subst e
  rw [if_pos (by omega), List.drop_take, List.drop_drop]
theorem SdF.suf {h : Heap} {v : V} {xs : List Int} {F : List Nat} (hs : SdF h v xs F) {i : Nat} (hi : i ≤ xs.length) : ∃ u F', slcV 1 v (some i) none none = some u ∧ SdF h u (xs.drop i) F' ∧ ∀ b ∈ F', b ∈ F := by
  have hbd := hs.bd
  rcases hs with ⟨hb, ⟨rfl, rfl, rfl⟩ | ⟨b, off, cap, rfl, hc, hs⟩⟩
  · simp at hi; subst hi
    exact ⟨.nils, [], rfl, .nil, by simp⟩
  · have hl : (xs.drop i).length = xs.length - i := by simp
    have s2 : ∃ off2 cap2, slcV 1 (.slice b off xs.length cap) (some i) none none = some (.slice b off2 (xs.length - i) cap2) ∧ capW 1 (xs.length - i) cap2 ∧ (off2 = off + i ∨ xs.length - i = 0) := by
      cases cap with
      | k c =>
        have hc' : xs.length ≤ c := hc
        refine ⟨_, .k (c - i), by simp only [slcV, Option.getD_none, Option.getD_some]; rw [if_pos ⟨hi, hc', Nat.le_refl _⟩], ?_, ?_⟩
        · show xs.length - i ≤ c - i; omega
        · by_cases hci : c = i
          · right; omega
          · left; rw [if_neg hci, Nat.mul_one]
      | o k =>
        have hc' : k = 1 := hc
        subst hc'
        refine ⟨_, .o 1, by simp only [slcV, Option.getD_none, Option.getD_some]; rw [if_pos ⟨trivial, hi, Nat.le_refl _⟩], rfl, .inl (by omega)⟩
    obtain ⟨off2, cap2, e, c2, ho⟩ := s2
    by_cases h0 : xs.length - i = 0
    · have hnil : xs.drop i = [] := List.eq_nil_of_length_eq_zero (by rw [hl]; exact h0)
      rw [hnil]
      rw [h0] at e c2
      exact ⟨_, [], e, ⟨by simp, .inr ⟨b, off2, cap2, rfl, c2, .inl ⟨rfl, rfl⟩⟩⟩, by simp⟩
    · have ho : off2 = off + i := by
        rcases ho with h | h
        · exact h
        · exact absurd h h0
      subst ho
      rcases hs with ⟨rfl, rfl⟩ | ⟨blk, cs, G, rfl, h1, h2, h3, h4⟩
      · simp at h0
      · obtain ⟨rfl, rfl⟩ := Reps.flat.1 h4
        have h3' : cut blk.cells (off + i) ((xs.length - i) * 1) = some (flats (xs.drop i)) := by
          have := cut_drop h3 (m := i) (show i ≤ xs.length * 1 by omega)
          have e2 := flats_drop xs i
          have hsz : Flat.sz Int = 1 := rfl
          rw [hsz, Nat.mul_one] at e2
          have hsz2 : Data.sz Int = 1 := rfl
          rw [hsz2, Nat.mul_one, e2] at this
          rw [Nat.mul_one]; exact this
        exact ⟨_, [b], e, ⟨by omega, .inr ⟨b, off + i, cap2, by rw [hl], by rw [hl]; exact c2, .inr ⟨blk, flats (xs.drop i), [], rfl, h1, h2, by rw [hl]; exact h3', Reps.flat.2 ⟨rfl, rfl⟩⟩⟩⟩, by simp⟩

theorem DC.shuffled {h0 h : Heap} {N : Nat} (d : DC h0 h N) (hN : N < 2 ^ 56) (n : Nat) (hn : n ≤ 20) : ∃ v h', call p 567 [.ptr h0.length 0, vi n] h = some (v, h') ∧ ∃ (xs : List Int), Out h.length h' v xs ∧ xs.length = n ∧ DC h0 h' (N + 60) ∧ KeepsBut h0.length h h' ∧ h.length ≤ h'.length := by
  have hlt := d.lt
  refine go (fn := g567) rfl rfl fun R hR => ?_
  simp [g567]
  refine Wc_upM (M := [5, 6, 7, 8, 9, 10, 11, 12, 13, 14, 15, 16, 17, 18, 19, 20, 21, 22, 23, 24, 25, 26, 27, 28, 29, 30, 31, 32]) rfl n (fun i s => i ≤ n ∧ s.σ 6 = .v (vi i) ∧ (∃ (v : V) (xs : List Int), s.σ 5 = .v v ∧ Out h.length s.h v xs ∧ xs.length = i) ∧ DC h0 s.h (N + 2 * i) ∧ KeepsBut h0.length h s.h ∧ h.length ≤ s.h.length) 0
    ⟨by omega, by simp, ⟨.nils, [], by simp, Out.nil (Nat.le_refl _), rfl⟩, by simpa using d, KeepsBut.refl _ _, Nat.le_refl _⟩ fun i s ⟨gi, g6, ⟨v, xs, g5, ho, hxl⟩, dc, kb, hl⟩ hM J hJ => ?_
  by_cases hi : i < n
  · have w1 : IntKind.i64.wrap ((i : Int) + 1) = (i + 1 : Nat) := by rw [IntWalk.i64_in] <;> omega
    obtain ⟨a, h1, e1, ha, d1, k1, l1⟩ := dc.pick (by omega) ((i + 1 : Nat) : Int) (by omega)
    have ho1 : Out h.length h1 v xs := ho.keeps k1.P (fun j hj e => by have := (ho.ge hj).1; omega) (by omega)
    obtain ⟨F, sF, fF⟩ := ho1.fr
    obtain ⟨u1, F1, eu1, su1, _⟩ := sF.pre (i := a) (by omega)
    obtain ⟨u2, F2, eu2, su2, _⟩ := sF.suf (i := a) (by omega)
    have k2 : Keeps h1 (h1 ++ [⟨.own, []⟩]) := Keeps.append _ _
    have o2 : Out h1.length (h1 ++ [⟨.own, []⟩]) (.slice h1.length 0 0 (.k 0)) ([] : List Int) := Out.empty (Nat.le_refl _) (by simp)
    have q1l : (xs.take a).length ≤ 20 := by rw [List.length_take]; omega
    have q2l : (xs.drop a).length ≤ 20 := by rw [List.length_drop]; omega
    obtain ⟨ys, v3, h3, er3, e3, o3, k3, l3⟩ := o2.appS (su1.keep k2).sl (bytes := 8) (by decide) (by simp; omega) (k := 1) rfl (n := (xs.take a).length) rfl
    have kk3 : Keeps h1 h3 := o2.far k2 k3 (Nat.le_refl _)
    obtain ⟨v4, h4, e4, o4, k4, l4⟩ := o3.one (i : Int) (by simp; omega)
    have kk4 : Keeps h1 h4 := o3.far kk3 k4 (Nat.le_refl _)
    obtain ⟨zs, v5, h5, er5, e5, o5, k5, l5⟩ := o4.appS (su2.keep kk4).sl (bytes := 8) (by decide) (by simp; omega) (k := 1) rfl (n := (xs.drop a).length) rfl
    have kk5 : Keeps h1 h5 := o4.far kk4 k5 (Nat.le_refl _)
    have hsl := ho.sl.len
    rw [hxl] at hsl
    have su1l := su1.len
    have su2l := su2.len
    generalize hq1 : (xs.take a).length = q1 at *
    generalize hq2 : (xs.drop a).length = q2 at *
    simp at l3
    have a0 : (0 : Int) ≤ a := by omega
    simp [g567_0, hM, g6, g5, hi, hsl, w1, e1, bounds, takeB, eu1, eu2, su1l, su2l, er3, e3, rdS_last, e4, er5, e5, -Int.natCast_add]
    have hfin : ([] ++ xs.take a ++ [(i : Int)] ++ xs.drop a).length = i + 1 := by
      simp only [List.nil_append, List.length_append, List.length_cons, List.length_nil, hq1, hq2]
      have : q1 + q2 = xs.length := by rw [← hq1, ← hq2, ← List.length_append, List.take_append_drop]
      omega
    exact hJ _ hi ⟨hi, by simp, ⟨v5, _, by simp, o5.mono (by omega), hfin⟩, (d1.mono (by omega)).keeps kk5, (kb.trans k1).trans (kk5.but _), by show h.length ≤ h5.length; omega⟩
  · have : i = n := by omega
    subst this
    simp [g567_0, hM, g6, g5]
    exact hR _ _ ⟨xs, ho, hxl, dc.mono (by omega), kb, hl⟩
end GL

namespace GL
open Go

end GL

namespace GL
open Go

end GL

namespace GL
open Go

end GL

namespace GL
open Go

end GL

namespace GL
open Go

theorem Out.appT {α : Type} [Flat α] {lo : Nat} {h : Heap} {v w : V} {xs zs : List α} (ho : Out lo h v xs) (hs : Sl h w zs) {bytes : Nat} (hb : bytes ≤ 2 ^ 8) (hl : xs.length + zs.length ≤ 2 ^ 30) {k n : Nat} (hk : k = Flat.sz α) (hn : n = zs.length) :
    ∃ ys v' h', GL.rdS h k w n = some ys ∧ appH k bytes v n ys h = some (v', h') ∧ Out lo h' v' (xs ++ zs) ∧ KeepsP (fun i => ¬ vB v i) h h' ∧ h.length ≤ h'.length ∧ ∀ i, vB v' i → vB v i ∨ h.length ≤ i := by
  subst hk; subst hn
  have e := hs.rdS zs.length (Nat.le_refl _)
  rw [List.take_length] at e
  by_cases h0 : zs.length = 0
  · have hz : zs = [] := List.length_eq_zero_iff.1 h0
    subst hz
    have := ho.sl.len
    exact ⟨_, v, h, e, by simp [appH, this], by simpa using ho, KeepsP.refl _ _, Nat.le_refl _, fun i hi => .inl hi⟩
  · obtain ⟨v', h', e1, o', k', l', b'⟩ := ho.app zs (by omega) hb hl rfl rfl rfl
    exact ⟨_, v', h', e, e1, o', k', by omega, fun i hi => .inr (by have := b' i hi; omega)⟩
end GL

namespace GL
open Go

end GL

namespace GL
open Go

end GL

namespace GL
open Go

end GL

namespace GL
open Go

end GL

namespace GL
open Go

end GL

namespace GL
open Go

theorem Od.draw {α : Type} [Data α] {h0 h h1 g : Heap} {N lo : Nat} {v : V} {xs : List α} {G G' : List Nat} (d : DC h0 h1 N) (kb : KeepsBut h0.length g h1) (od : Od lo h v xs G) (k1 : KeepsBut h0.length h h1) (l1 : h.length ≤ h1.length) (hlo : g.length ≤ lo) (hc : h0.length < lo) (gG : ∀ b ∈ G, lo ≤ b)
    (hG : ∀ b ∈ G', h.length ≤ b) {x : α} {cs : List V} (hr : Data.rep h1 x cs G') (hx : xs.length ≤ 2 ^ 20) {k bytes : Nat} (hk : k = Data.sz α) (hb : bytes ≤ 2 ^ 8) :
    ∃ v' h2, appH k bytes v 1 cs (h1 ++ [⟨.own, cs⟩]) = some (v', h2) ∧ Od lo h2 v' (xs ++ [x]) (G ++ G') ∧ DC h0 h2 N ∧ KeepsBut h0.length g h2 ∧ h1.length < h2.length := by
  have hge := fun i (hi : vB v i) => od.ge hi
  have kl : Keeps h1 (h1 ++ [⟨.own, cs⟩]) := Keeps.append h1 _
  have kp1 : KeepsP (fun b => b ≠ h0.length) h (h1 ++ [⟨.own, cs⟩]) := k1.P.trans (kl.p _)
  have nG : ∀ b ∈ G, b ≠ h0.length := fun b hb => by have := gG b hb; omega
  have od1 : Od lo (h1 ++ [⟨.own, cs⟩]) v xs G := od.keeps kp1 (fun i hi => by have := (hge i hi).1; omega) nG (by simp; omega)
  have hnv : ∀ b ∈ G', ¬ vB v b := fun b hb hv => by have := (hge b hv).2; have := hG b hb; omega
  obtain ⟨v', h2, e, o2, kp, l2, b2⟩ := od1.app (zs := [x]) (G := G') (by simp) (.one (Data.keeps hr (kl.p _))) hnv hb (by simp; omega) hk rfl
  have k2 : KeepsP (fun i => ¬ vB v i) h1 h2 := fun i blk hi h3 h4 => kp i blk hi (kl i blk h3 h4) h4
  exact ⟨v', h2, e, o2, d.far k2 fun i hi hv => by have := (hge i hv).1; omega, kb.far k2 fun i hi _ hv => by have := (hge i hv).1; omega, by simp at l2; omega⟩
end GL

namespace GL
open Go

end GL

namespace GL
open Go

end GL

namespace GL
open Go

end GL

namespace GL
open Go

end GL

namespace GL
open Go

end GL

namespace GL
open Go

end GL

namespace GL
open Go

end GL

namespace GL
open Go

theorem common {n : Nat} {as bs : List Int} (ha : as.Nodup) (hb : bs.Nodup) (hin : ∀ x ∈ as ++ bs, 0 ≤ x ∧ x < (n : Int)) (hl : n < as.length + bs.length) : ∃ x, x ∈ as ∧ x ∈ bs := by
  refine Decidable.byContradiction fun hno => ?_
  have hnd : (as ++ bs).Nodup := List.nodup_append.2 ⟨ha, hb, fun x hx y hy e => by subst e; exact hno ⟨x, hx, hy⟩⟩
  have := nodup_len hnd hin
  rw [List.length_append] at this; omega
end GL

namespace GL
open Go

end GL

namespace GL
open Go

end GL

namespace GL
open Go

end GL

namespace GL
open Go

end GL

namespace GL
open Go

def agH (a b : List Int) (p : Int) : Prop := p.tdiv 12 ∈ a ∧ p.tmod 12 ∈ a ∧ p.tdiv 12 ∈ b ∧ p.tmod 12 ∈ b
instance (a b : List Int) (p : Int) : Decidable (agH a b p) := by unfold agH; infer_instance
end GL

namespace GL
open Go

end GL

namespace GL
open Go

end GL

namespace GL
open Go

/-! what is done stands in the order of the whole -/
theorem idx_ne {x a : Int} (w : List Int) (h : x ≠ a) : (x :: w).idxOf a = w.idxOf a + 1 := by
  rw [List.idxOf_cons, beq_eq_false_iff_ne.2 h]; rfl
theorem place_idx {xs : List Int} {a : Int} (h : a ∈ xs) : placeL xs a = xs.idxOf a := by rw [placeL, if_pos h]
end GL

namespace GL
open Go

end GL

namespace GL
open Go

theorem oneB {lo : Nat} {h : Heap} {v : V} {xs : List Int} (ho : Out lo h v xs) (x : Int) (hx : xs.length ≤ 2 ^ 20) :
    ∃ v' h', appH 1 8 v 1 [vi x] (h ++ [⟨.own, [vi x]⟩]) = some (v', h') ∧ Out lo h' v' (xs ++ [x]) ∧ KeepsP (fun i => ¬ vB v i) h h' ∧ h.length < h'.length ∧ ∀ i, vB v' i → h.length ≤ i := by
  have o3 : Out lo (h ++ [⟨.own, [vi x]⟩]) v xs := (Keeps.append h _).out ho (by simp)
  obtain ⟨v', h', e4, o4, k4, l4, b4⟩ := o3.app [x] (by simp) (bytes := 8) (by decide) (by simp; omega) (k := 1) rfl (n := 1) rfl (ys := [vi x]) rfl
  exact ⟨v', h', e4, o4, fun i blk hi h1 h2 => k4 i blk hi (Keeps.append h _ i blk h1 h2) h2, by simp at l4; omega, fun i hi => by have := b4 i hi; simp at this; omega⟩
end GL

namespace GL
open Go

/-! two orders in which clashing deeds stand alike come to the same -/
theorem sub_idx : ∀ {l : List Int} {a b : Int}, l.Nodup → ([a, b] : List Int).Sublist l → l.idxOf a < l.idxOf b
  | [], a, b, _, h => by simp at h
  | y :: l, a, b, hn, h => by
    have hn' := List.nodup_cons.1 hn
    cases h with
    | cons _ h1 =>
      have ha : a ∈ l := h1.subset (by simp)
      have hb : b ∈ l := h1.subset (by simp)
      have na : y ≠ a := fun e => hn'.1 (by rw [e]; exact ha)
      have nb : y ≠ b := fun e => hn'.1 (by rw [e]; exact hb)
      rw [idx_ne _ na, idx_ne _ nb]
      have := sub_idx hn'.2 h1
      omega
    | cons_cons _ h1 =>
      have hb : b ∈ l := h1.subset (by simp)
      have nb : y ≠ b := fun e => hn'.1 (by rw [e]; exact hb)
      rw [idx_ne _ nb]
      simp
end GL

namespace GL
open Go

end GL

namespace GL
open Go

end GL

namespace GL
open Go

structure Sp where
  kind : Int
  shard : Int
  key : Int
  src : Int
  n : Int
deriving DecidableEq
abbrev spv (x : Sp) : V := .agg [vi x.kind, vi x.shard, vi x.key, vi x.src, vi x.n]
instance : Flat Sp := ⟨5, fun x => [vi x.kind, vi x.shard, vi x.key, vi x.src, vi x.n], fun _ => rfl, fun _ => rfl, by decide⟩
def zS : Sp := ⟨0, 0, 0, 0, 0⟩
theorem Sl.loadS {h : Heap} {v : V} {xs : List Sp} (hs : Sl h v xs) (i : Nat) (hi : i < xs.length) : rdH h (bOf v) (oOf v + i * 5) 5 = some [vi xs[i].kind, vi xs[i].shard, vi xs[i].key, vi xs[i].src, vi xs[i].n] := hs.load i hi
theorem Sl.loadS1 {h : Heap} {v : V} {xs : List Sp} (hs : Sl h v xs) (i : Nat) (hi : i < xs.length) : rdH h (bOf v) (oOf v + i * 5 + 1) 1 = some [vi xs[i].shard] := by simpa using rdH_sub (hs.loadS i hi) 1 1 (by decide)

def okS (s : Sp) (at' : Int) : Prop :=
  (0 ≤ s.shard ∧ s.shard ≤ 2) ∧ (0 ≤ s.key ∧ s.key ≤ 3) ∧ ((s.kind = 1 ∧ s.src = 0 ∧ s.n = 0) ∨ (s.kind = 2 ∧ s.key = 0 ∧ (0 ≤ s.src ∧ s.src ≤ at' - 1) ∧ (-99 ≤ s.n ∧ s.n ≤ 99)) ∨ (s.kind = 3 ∧ (0 ≤ s.src ∧ s.src ≤ at' - 1) ∧ s.n = 0))
instance (s : Sp) (a : Int) : Decidable (okS s a) := by unfold okS; infer_instance
def cellS (s : Sp) : Int := 4 * s.shard + s.key

theorem isStep_eq (s : Sp) (a : Nat) (ha : a ≤ 2 ^ 40) (h : Heap) : call p 608 [spv s, vi a] h = some (.bool (decide (okS s a)), h) := by
  have w1 : IntKind.i64.wrap ((a : Int) - 1) = (a : Int) - 1 := by rw [IntWalk.i64_in] <;> omega
  refine go_eq (fn := g608) rfl rfl fun R hR => ?_
  by_cases h1 : 0 ≤ s.shard ∧ s.shard ≤ 2
  · by_cases h2 : 0 ≤ s.key ∧ s.key ≤ 3
    · by_cases k1 : s.kind = 1
      · by_cases h3 : s.src = 0
        · by_cases h4 : s.n = 0
          · rw [decide_eq_true (show okS s a from ⟨h1, h2, .inl ⟨k1, h3, h4⟩⟩)] at hR
            simp [g608, upd, h1, h2, k1, h3, h4, -Bool.decide_and]; exact hR
          · rw [decide_eq_false (show ¬ okS s a from fun ⟨_, _, h⟩ => by omega)] at hR
            simp [g608, upd, h1, h2, k1, h3, h4, -Bool.decide_and]; exact hR
        · rw [decide_eq_false (show ¬ okS s a from fun ⟨_, _, h⟩ => by omega)] at hR
          simp [g608, upd, h1, h2, k1, h3, -Bool.decide_and]; exact hR
      · by_cases k2 : s.kind = 2
        · by_cases h3 : s.key = 0
          · by_cases h4 : 0 ≤ s.src ∧ s.src ≤ (a : Int) - 1
            · by_cases h5 : -99 ≤ s.n ∧ s.n ≤ 99
              · rw [decide_eq_true (show okS s a from ⟨h1, h2, .inr (.inl ⟨k2, h3, h4, h5⟩)⟩)] at hR
                simp [g608, upd, h1, k1, k2, h3, h4, h5, w1, -Bool.decide_and]; exact hR
              · rw [decide_eq_false (show ¬ okS s a from fun ⟨_, _, h⟩ => by omega)] at hR
                simp [g608, upd, h1, k1, k2, h3, h4, h5, w1, -Bool.decide_and]; exact hR
            · rw [decide_eq_false (show ¬ okS s a from fun ⟨_, _, h⟩ => by omega)] at hR
              simp [g608, upd, h1, k1, k2, h3, h4, w1, -Bool.decide_and]; exact hR
          · rw [decide_eq_false (show ¬ okS s a from fun ⟨_, _, h⟩ => by omega)] at hR
            simp [g608, upd, h1, h2, k1, k2, h3, w1, -Bool.decide_and]; exact hR
        · by_cases k3 : s.kind = 3
          · by_cases h4 : 0 ≤ s.src ∧ s.src ≤ (a : Int) - 1
            · by_cases h5 : s.n = 0
              · rw [decide_eq_true (show okS s a from ⟨h1, h2, .inr (.inr ⟨k3, h4, h5⟩)⟩)] at hR
                simp [g608, upd, h1, h2, k1, k2, k3, h4, h5, w1, -Bool.decide_and]; exact hR
              · rw [decide_eq_false (show ¬ okS s a from fun ⟨_, _, h⟩ => by omega)] at hR
                simp [g608, upd, h1, h2, k1, k2, k3, h4, h5, w1, -Bool.decide_and]; exact hR
            · rw [decide_eq_false (show ¬ okS s a from fun ⟨_, _, h⟩ => by omega)] at hR
              simp [g608, upd, h1, h2, k1, k2, k3, h4, w1, -Bool.decide_and]; exact hR
          · rw [decide_eq_false (show ¬ okS s a from fun ⟨_, _, h⟩ => by omega)] at hR
            simp [g608, upd, h1, h2, k1, k2, k3, -Bool.decide_and]; exact hR
    · rw [decide_eq_false (show ¬ okS s a from fun ⟨_, h, _⟩ => h2 h)] at hR
      simp [g608, upd, h1, h2, -Bool.decide_and]; exact hR
  · rw [decide_eq_false (show ¬ okS s a from fun ⟨h, _⟩ => h1 h)] at hR
    simp [g608, upd, h1, -Bool.decide_and]; exact hR

def stepsP (l : List Sp) (i : Nat) : Bool := (List.range i).all fun j => decide (okS (l.getD j zS) j)
def stepsB (l : List Sp) : Bool := stepsP l l.length && decide (l.length ≤ 10)
theorem stepsP_succ (l : List Sp) {i : Nat} (hi : i < l.length) : stepsP l (i + 1) = (stepsP l i && decide (okS l[i] i)) := by
  simp [stepsP, List.range_succ, hi]
theorem stepsP_false {l : List Sp} {i : Nat} (hi : i < l.length) (h : ¬ okS l[i] i) : stepsP l l.length = false := by
  rw [stepsP, List.all_eq_false]
  exact ⟨i, List.mem_range.2 hi, by rw [getD_in hi]; simpa using h⟩
theorem stepsP_at {l : List Sp} (h : stepsP l l.length = true) {i : Nat} (hi : i < l.length) : okS l[i] i := by
  have := List.all_eq_true.1 h i (List.mem_range.2 hi)
  rw [getD_in hi] at this
  simpa using this

theorem GoodSteps_eq {h : Heap} {v : V} {l : List Sp} (hs : Sl h v l) (hl : l.length ≤ 2 ^ 40) : call p 597 [v] h = some (.bool (stepsB l), h) := by
  refine go_eq (fn := g597) rfl rfl fun R hR => ?_
  simp [g597, hs.len]
  refine Wc_upM (M := [2, 3, 4, 7, 8, 9, 10, 11, 12, 13, 14, 15, 16]) rfl l.length (fun i s => i ≤ l.length ∧ s.σ 7 = .v (vi i) ∧ s.h = h ∧ stepsP l i = true) 0 ⟨by omega, by simp, by simp, rfl⟩ fun i s ⟨gi, g7, gh, hp⟩ hM J hJ => ?_
  by_cases hi : i < l.length
  · have ix := hs.idx 5 .i64 i hi
    have ld := hs.loadS i hi
    have st := hs.step hi
    have e1 := isStep_eq l[i] i (by omega) h
    have hS := stepsP_succ l hi
    have hf := stepsP_false (l := l) hi
    generalize l[i] = x at *
    by_cases hok : okS x i
    · simp only [decide_eq_true hok] at e1 hS
      simp [g597_0, hM, g7, gh, hi, ix, ld, upd, e1, st]
      exact hJ _ hi ⟨hi, by simp, rfl, by rw [hS, hp]; rfl⟩
    · simp only [decide_eq_false hok] at e1
      rw [stepsB, hf hok] at hR
      simp [g597_0, hM, g7, gh, hi, ix, ld, upd, e1, st]
      exact hR
  · have : i = l.length := by omega
    subst this
    rw [stepsB, hp, Bool.true_and] at hR
    have e : (decide (l.length ≤ 10)) = decide ((l.length : Int) ≤ 10) := by simp; omega
    rw [e] at hR
    simp [g597_0, hM, g7, gh, hs.len]
    simpa using hR
theorem GoodStepsS_eq {h : Heap} {v : V} {l : List Sp} (hs : Sl h v l) (hl : l.length ≤ 2 ^ 40) : call p 601 [v] h = some (.bool (stepsB l), h) := by
  refine go_eq (fn := g601) rfl rfl fun R hR => ?_
  simp [g601, hs.len]
  refine Wc_upM (M := [2, 3, 4, 5, 8, 9, 10, 11, 12, 13, 14, 15, 16, 17, 18, 19, 20, 21, 22, 23, 24, 25, 26, 27, 28, 29, 30, 31, 32, 33, 34, 35, 36, 37, 38, 39, 40, 41, 42, 43, 44, 45, 46, 47, 48, 49, 50, 51, 52, 53, 54, 55, 56, 57, 58, 59, 60, 61, 62, 63, 64]) rfl l.length (fun i s => i ≤ l.length ∧ s.σ 8 = .v (vi i) ∧ s.h = h ∧ stepsP l i = true) 0 ⟨by omega, by simp, by simp, rfl⟩ fun i s ⟨gi, g7, gh, hp⟩ hM J hJ => ?_
  by_cases hi : i < l.length
  · have ix := hs.idx 5 .i64 i hi
    have ld := hs.loadS i hi
    have st := hs.step hi
    have w1 : IntKind.i64.wrap ((i : Int) - 1) = (i : Int) - 1 := by rw [IntWalk.i64_in] <;> omega
    have hS := stepsP_succ l hi
    have hf := stepsP_false (l := l) hi
    generalize l[i] = x at *
    have good : okS x i → J ⟨s.σ, s.L, s.h, s.wt, s.fl, s.base⟩ → True := fun _ _ => trivial
    by_cases hok : okS x i
    · simp only [decide_eq_true hok] at hS
      have hS' : stepsP l (i + 1) = true := by rw [hS, hp]; rfl
      obtain ⟨h1, h2, ⟨k1, h3, h4⟩ | ⟨k2, h3, h4, h5⟩ | ⟨k3, h4, h5⟩⟩ := hok
      · have h5 : (-99 : Int) ≤ x.n ∧ x.n ≤ 99 := by omega
        simp [g601_0, hM, g7, gh, hi, ix, ld, upd, st, h1, h2, k1, h3, h4, h5, w1, l1In_eq, -Bool.decide_and]
        exact hJ _ hi ⟨hi, by simp, rfl, hS'⟩
      · simp [g601_0, hM, g7, gh, hi, ix, ld, upd, st, h1, h2, k2, h3, h4, h5, w1, l1In_eq, -Bool.decide_and]
        exact hJ _ hi ⟨hi, by simp, rfl, hS'⟩
      · have h6 : (-99 : Int) ≤ x.n ∧ x.n ≤ 99 := by omega
        simp [g601_0, hM, g7, gh, hi, ix, ld, upd, st, h1, h2, k3, h4, h5, h6, w1, l1In_eq, -Bool.decide_and]
        exact hJ _ hi ⟨hi, by simp, rfl, hS'⟩
    · rw [stepsB, hf hok] at hR
      by_cases h1 : 0 ≤ x.shard ∧ x.shard ≤ 2
      · by_cases h2 : 0 ≤ x.key ∧ x.key ≤ 3
        · by_cases h5 : (-99 : Int) ≤ x.n ∧ x.n ≤ 99
          · by_cases k1 : x.kind = 1
            · by_cases h3 : x.src = 0
              · by_cases h4 : x.n = 0
                · exact absurd ⟨h1, h2, .inl ⟨k1, h3, h4⟩⟩ hok
                · simp [g601_0, hM, g7, gh, hi, ix, ld, upd, h1, h2, k1, h3, h4, h5, w1, l1In_eq, -Bool.decide_and]; exact hR
              · simp [g601_0, hM, g7, gh, hi, ix, ld, upd, h1, h2, k1, h3, h5, w1, l1In_eq, -Bool.decide_and]; exact hR
            · by_cases h4 : 0 ≤ x.src ∧ x.src ≤ (i : Int) - 1
              · by_cases k2 : x.kind = 2
                · by_cases h3 : x.key = 0
                  · exact absurd ⟨h1, h2, .inr (.inl ⟨k2, h3, h4, h5⟩)⟩ hok
                  · simp [g601_0, hM, g7, gh, hi, ix, ld, upd, h1, h2, k2, h3, h4, h5, w1, l1In_eq, -Bool.decide_and]; exact hR
                · by_cases k3 : x.kind = 3
                  · by_cases h3 : x.n = 0
                    · exact absurd ⟨h1, h2, .inr (.inr ⟨k3, h4, h3⟩)⟩ hok
                    · simp [g601_0, hM, g7, gh, hi, ix, ld, upd, h1, h2, k3, h3, h4, h5, w1, l1In_eq, -Bool.decide_and]; exact hR
                  · simp [g601_0, hM, g7, gh, hi, ix, ld, upd, h1, h2, k1, k2, k3, h4, h5, w1, l1In_eq, -Bool.decide_and]; exact hR
              · by_cases k2 : x.kind = 2
                · by_cases h3 : x.key = 0
                  · simp [g601_0, hM, g7, gh, hi, ix, ld, upd, h1, k2, h3, h4, h5, w1, l1In_eq, -Bool.decide_and]; exact hR
                  · simp [g601_0, hM, g7, gh, hi, ix, ld, upd, h1, h2, k2, h3, h4, h5, w1, l1In_eq, -Bool.decide_and]; exact hR
                · by_cases k3 : x.kind = 3
                  · simp [g601_0, hM, g7, gh, hi, ix, ld, upd, h1, h2, k3, h4, h5, w1, l1In_eq, -Bool.decide_and]; exact hR
                  · simp [g601_0, hM, g7, gh, hi, ix, ld, upd, h1, h2, k1, k2, k3, h4, h5, w1, l1In_eq, -Bool.decide_and]; exact hR
          · simp [g601_0, hM, g7, gh, hi, ix, ld, upd, h1, h2, h5, l1In_eq, -Bool.decide_and]; exact hR
        · simp [g601_0, hM, g7, gh, hi, ix, ld, upd, h1, h2, l1In_eq, -Bool.decide_and]; exact hR
      · simp [g601_0, hM, g7, gh, hi, ix, ld, upd, h1, l1In_eq, -Bool.decide_and]; exact hR
  · have : i = l.length := by omega
    subst this
    rw [stepsB, hp, Bool.true_and] at hR
    have e : (decide (l.length ≤ 10)) = decide ((l.length : Int) ≤ 10) := by simp; omega
    rw [e] at hR
    simp [g601_0, hM, g7, gh, hs.len]
    simpa using hR
end GL

namespace GL
open Go

def stepR (l : List Sp) (p : List Int × List Int) (i : Int) : List Int × List Int :=
  if (l.getD i.toNat zS).kind = 1 then (p.1, p.2.set i.toNat (p.1.getD (cellS (l.getD i.toNat zS)).toNat 0))
  else if (l.getD i.toNat zS).kind = 2 then (p.1, p.2.set i.toNat ((p.2.getD (l.getD i.toNat zS).src.toNat 0 + (l.getD i.toNat zS).n).tmod 1000))
  else (p.1.set (cellS (l.getD i.toNat zS)).toNat (p.2.getD (l.getD i.toNat zS).src.toNat 0), p.2.set i.toNat (p.2.getD (l.getD i.toNat zS).src.toNat 0))
/-- numbers that are not too large -/
def smI (xs : List Int) : Prop := ∀ x ∈ xs, -1000000 ≤ x ∧ x ≤ 1000000
def OkR (n : Nat) (p : List Int × List Int) : Prop := p.1.length = 12 ∧ p.2.length = n ∧ smI p.1 ∧ smI p.2
theorem smI.getD {xs : List Int} (h : smI xs) (i : Nat) : -1000000 ≤ xs.getD i 0 ∧ xs.getD i 0 ≤ 1000000 := by
  by_cases hi : i < xs.length
  · rw [getD_at hi]; exact h _ (List.getElem_mem hi)
  · rw [List.getD_eq_getElem?_getD, List.getElem?_eq_none (by omega)]; simp
theorem smI.set {xs : List Int} (h : smI xs) (i : Nat) {x : Int} (hx : -1000000 ≤ x ∧ x ≤ 1000000) : smI (xs.set i x) := fun y hy => by
  rcases List.mem_or_eq_of_mem_set hy with h1 | h1
  · exact h y h1
  · rw [h1]; exact hx
theorem tmod_sm (x : Int) : -1000000 ≤ x.tmod 1000 ∧ x.tmod 1000 ≤ 1000000 := by
  have h1 := Int.tmod_lt_of_pos x (b := 1000) (by decide)
  have h2 := Int.lt_tmod_of_pos x (b := 1000) (by decide)
  omega
theorem stepR_ok {l : List Sp} {p : List Int × List Int} {n : Nat} (h : OkR n p) (i : Int) : OkR n (stepR l p i) := by
  obtain ⟨h1, h2, h3, h4⟩ := h
  unfold stepR
  split
  · exact ⟨h1, by simpa using h2, h3, h4.set _ (h3.getD _)⟩
  · split
    · exact ⟨h1, by simpa using h2, h3, h4.set _ (tmod_sm _)⟩
    · exact ⟨by simpa using h1, by simpa using h2, h3.set _ (h4.getD _), h4.set _ (h4.getD _)⟩
theorem foldR_ok {l : List Sp} {n : Nat} : ∀ (os : List Int) {p : List Int × List Int}, OkR n p → OkR n (os.foldl (stepR l) p)
  | [], _, h => h
  | _ :: os, _, h => foldR_ok os (stepR_ok h _)

theorem cell_eq (s : Sp) (h1 : 0 ≤ s.shard ∧ s.shard ≤ 2) (h2 : 0 ≤ s.key ∧ s.key ≤ 3) (h : Heap) : call p 600 [spv s] h = some (vi (cellS s), h) := by
  have w1 : IntKind.i64.wrap (4 * s.shard) = 4 * s.shard := by rw [IntWalk.i64_in] <;> omega
  have w2 : IntKind.i64.wrap (4 * s.shard + s.key) = 4 * s.shard + s.key := by rw [IntWalk.i64_in] <;> omega
  refine go_eq (fn := g600) rfl rfl fun R hR => ?_
  simp [g600, upd, w1, w2]; exact hR

theorem idxI {h : Heap} {v : V} {xs : List Int} {F : List Nat} (hs : SdF h v xs F) {k : Int} (hk : 0 ≤ k ∧ k < xs.length) : idxV 1 v (vi k) = some (.ptr (bOf v) (oOf v + k.toNat)) ∧ rdH h (bOf v) (oOf v + k.toNat) 1 = some [vi (xs.getD k.toNat 0)] := by
  obtain ⟨n, rfl⟩ : ∃ n : Nat, k = n := ⟨k.toNat, by omega⟩
  have hn : n < xs.length := by omega
  have ix := hs.idx 1 .i64 n hn
  have ld := hs.sl.loadI n hn
  simp only [Nat.mul_one] at ix
  rw [← getD_at hn 0] at ld
  exact ⟨by simpa using ix, by simpa using ld⟩
theorem stepAt {h : Heap} {v : V} {l : List Sp} (hs : Sl h v l) {k : Int} (hk : 0 ≤ k ∧ k < l.length) : idxV 5 v (vi k) = some (.ptr (bOf v) (oOf v + k.toNat * 5)) ∧ rdH h (bOf v) (oOf v + k.toNat * 5) 5 = some [vi (l.getD k.toNat zS).kind, vi (l.getD k.toNat zS).shard, vi (l.getD k.toNat zS).key, vi (l.getD k.toNat zS).src, vi (l.getD k.toNat zS).n] := by
  obtain ⟨n, rfl⟩ : ∃ n : Nat, k = n := ⟨k.toNat, by omega⟩
  have hn : n < l.length := by omega
  have ix := hs.idx 5 .i64 n hn
  have ld := hs.loadS n hn
  rw [← getD_in hn zS] at ld
  exact ⟨by simpa using ix, by simpa using ld⟩

/-- one step: what is told, and the store -/
def runV (s : Sp) (p : List Int × List Int) : Int × List Int :=
  if s.kind = 1 then (p.1.getD (cellS s).toNat 0, p.1)
  else if s.kind = 2 then ((p.2.getD s.src.toNat 0 + s.n).tmod 1000, p.1)
  else (p.2.getD s.src.toNat 0, p.1.set (cellS s).toNat (p.2.getD s.src.toNat 0))
theorem stepR_run (l : List Sp) (p : List Int × List Int) (i : Int) : stepR l p i = ((runV (l.getD i.toNat zS) p).2, p.2.set i.toNat (runV (l.getD i.toNat zS) p).1) := by
  unfold stepR runV
  split
  · rfl
  · split <;> rfl

theorem run_ok {h : Heap} {a b : V} {st td : List Int} {Fa Fb : List Nat} (ha : SdF h a st Fa) (hb : SdF h b td Fb) (ho : ∀ i ∈ Fa, OwnB h i) (hne : ∀ i ∈ Fa, i ∉ Fb) {n : Nat} (ok : OkR n (st, td)) {s : Sp} {i : Int} (hs : okS s i) (hi : i ≤ n) :
    ∃ r h', call p 609 [spv s, a, b] h = some (r, h') ∧ r = vi (runV s (st, td)).1 ∧ SdF h' a (runV s (st, td)).2 Fa ∧ SdF h' b td Fb ∧ KeepsP (fun i => i ∉ Fa) h h' ∧ h'.length = h.length ∧ ∀ i, OwnB h i → OwnB h' i := by
  obtain ⟨o1, o2, o3, o4⟩ := ok
  simp only at o1 o2 o3 o4
  obtain ⟨s1, s2, s3⟩ := hs
  have ec := cell_eq s s1 s2 h
  have hc : 0 ≤ cellS s ∧ cellS s < (st.length : Int) := by unfold cellS; omega
  obtain ⟨ix, ld⟩ := idxI ha hc
  refine go (fn := g609) rfl rfl fun R hR => ?_
  rcases s3 with ⟨k1, h3, h4⟩ | ⟨k2, h3, h4, h5⟩ | ⟨k3, h4, h5⟩
  · simp only [runV, k1, if_true] at hR
    rw [spv] at ec
    simp only [k1] at ec
    simp [g609, upd, k1, ec, ix, ld]
    exact hR _ _ ⟨rfl, ha, hb, KeepsP.refl _ _, rfl, fun _ h => h⟩
  · obtain ⟨iy, le⟩ := idxI hb (k := s.src) (by omega)
    simp only [runV, k2, show ¬ ((2 : Int) = 1) by decide, if_false, if_true] at hR
    have g := o4.getD s.src.toNat
    generalize td.getD s.src.toNat 0 = x at *
    have w1 : IntKind.i64.wrap (x + s.n) = x + s.n := by rw [IntWalk.i64_in] <;> omega
    have t := tmod_sm (x + s.n)
    have w2 : IntKind.i64.wrap ((x + s.n).tmod 1000) = (x + s.n).tmod 1000 := by rw [IntWalk.i64_in] <;> omega
    simp [g609, upd, k2, iy, le, w1, w2]
    exact hR _ _ ⟨rfl, ha, hb, KeepsP.refl _ _, rfl, fun _ h => h⟩
  · obtain ⟨iy, le⟩ := idxI hb (k := s.src) (by omega)
    simp only [runV, k3, show ¬ ((3 : Int) = 1) by decide, show ¬ ((3 : Int) = 2) by decide, if_false] at hR
    have hcl : (cellS s).toNat < st.length := by omega
    obtain ⟨h1, e1, q1, q2, q3, q4⟩ := ha.putI ho hcl (td.getD s.src.toNat 0)
    have hbF : bOf a ∈ Fa := ha.bIn hcl
    have hb1 := hb.keeps (q2.mono fun i hi (e : i = bOf a) => hne _ hbF (e ▸ hi))
    obtain ⟨_, le1⟩ := idxI hb1 (k := s.src) (by omega)
    rw [spv] at ec
    simp only [k3] at ec
    generalize td.getD s.src.toNat 0 = x at *
    simp [g609, upd, k3, ec, ix, iy, le, stable, stab1, e1, le1]
    exact hR _ _ ⟨rfl, q1, hb1, q2.mono fun i hi (e : i = bOf a) => hi (e ▸ hbF), q3, q4⟩
end GL

namespace GL
open Go

def runF (l : List Sp) (os : List Int) (st : List Int) : List Int × List Int := os.foldl (stepR l) (st, List.replicate l.length 0)
def storeB (st : List Int) : Bool := decide (st.length = 12) && st.all fun n => decide (-1000000 ≤ n ∧ n ≤ 1000000)
theorem storeB_ok {st : List Int} (h : storeB st = true) (n : Nat) : OkR n (st, List.replicate n 0) := by
  simp only [storeB, Bool.and_eq_true, decide_eq_true_eq, List.all_eq_true] at h
  exact ⟨h.1, by simp, h.2, fun x hx => by simp only [List.mem_replicate] at hx; omega⟩
theorem store1_eq (n : Int) (h : Heap) : call p 607 [vi n] h = some (.bool (!decide (-1000000 ≤ n ∧ n ≤ 1000000)), h) := by
  refine go_eq (fn := g607) rfl rfl fun R hR => ?_
  simp [g607, -Bool.decide_and]; exact hR
theorem isStore_ok {h : Heap} {v : V} {st : List Int} (hs : Sl h v st) : ∃ r h', call p 596 [v] h = some (r, h') ∧ r = .bool (storeB st) ∧ Keeps h h' ∧ h.length ≤ h'.length := by
  obtain ⟨_, h1, e1, rfl, k1, l1⟩ := containsIg_ok hs (f := 607) (capt := []) (q := fun n => !decide (-1000000 ≤ n ∧ n ≤ 1000000)) fun h' _ n _ => ⟨h', store1_eq n h', Keeps.refl _, Nat.le_refl _⟩
  have e0 : (st.any fun n => !decide (-1000000 ≤ n ∧ n ≤ 1000000)) = !(st.all fun n => decide (-1000000 ≤ n ∧ n ≤ 1000000)) := by
    rw [List.not_all_eq_any_not]
  rw [e0] at e1
  refine go (fn := g596) rfl rfl fun R hR => ?_
  by_cases hl : st.length = 12
  · have hl' : (st.length : Int) = 12 := by omega
    simp [g596, hs.len, hl', e1]
    exact hR _ _ ⟨by simp [storeB, hl], k1, l1⟩
  · have hl' : ¬ (st.length : Int) = 12 := by omega
    simp [g596, hs.len, hl']
    exact hR _ _ ⟨by simp [storeB, hl], Keeps.refl _, Nat.le_refl _⟩
theorem l15Store_eq {h : Heap} {v : V} {st : List Int} (hs : Sl h v st) : call p 767 [v] h = some (.bool (storeB st), h) := by
  have e1 := l1All_eq hs (-1000000) 1000000
  refine go_eq (fn := g767) rfl rfl fun R hR => ?_
  by_cases hl : st.length = 12
  · have hl' : (st.length : Int) = 12 := by omega
    simp only [storeB, hl, decide_true, Bool.true_and] at hR
    simp [g767, hs.len, hl', e1, -Bool.decide_and]
    exact hR
  · have hl' : ¬ (st.length : Int) = 12 := by omega
    simp only [storeB, hl, decide_false, Bool.false_and] at hR
    simp [g767, hs.len, hl']
    exact hR

def upTo (n : Nat) : List Int := (List.range n).map fun (i : Nat) => (i : Int)
theorem upTo_succ (n : Nat) : upTo (n + 1) = upTo n ++ [(n : Int)] := by simp [upTo, List.range_succ]
theorem upTo_len (n : Nat) : (upTo n).length = n := by simp [upTo]
theorem mem_upTo {n : Nat} {x : Int} : x ∈ upTo n ↔ 0 ≤ x ∧ x < n := by
  simp only [upTo, List.mem_map, List.mem_range]
  constructor
  · rintro ⟨i, hi, rfl⟩; omega
  · intro h; exact ⟨x.toNat, by omega, by omega⟩
theorem allColumns_ok {h : Heap} (n : Nat) (hn : n ≤ 2 ^ 20) : ∃ r h', call p 598 [vi n] h = some (r, h') ∧ Out h.length h' r (upTo n) ∧ Keeps h h' ∧ h.length ≤ h'.length := by
  refine go (fn := g598) rfl rfl fun R hR => ?_
  simp [g598]
  refine Wc_upM (M := [3, 4, 7, 8, 9, 10, 11, 12, 13, 14]) rfl n (fun i s => i ≤ n ∧ s.σ 7 = .v (vi i) ∧ (∃ v, s.σ 3 = .v v ∧ Out h.length s.h v (upTo i)) ∧ Keeps h s.h ∧ h.length ≤ s.h.length) 0
    ⟨by omega, by simp, ⟨.slice h.length 0 0 (.k 0), by simp, Out.empty (Nat.le_refl _) (by simp)⟩, Keeps.append _ _, by simp⟩ fun i s ⟨gi, g7, ⟨v, g3, ho⟩, hk, hl⟩ hM J hJ => ?_
  by_cases hi : i < n
  · obtain ⟨v', h1, e1, o1, k1, l1⟩ := ho.one (i : Int) (by rw [upTo_len]; omega)
    have st : IntKind.i64.wrap ((i : Int) + 1) = (i + 1 : Nat) := by rw [IntWalk.i64_in] <;> omega
    simp [g598_0, hM, g7, g3, hi, fillL, rdS_last, e1, st, -Int.natCast_add]
    exact hJ _ hi ⟨hi, by simp, ⟨v', by simp, by rw [upTo_succ]; exact o1⟩, ho.far hk k1 (Nat.le_refl _), by show h.length ≤ h1.length; omega⟩
  · have : i = n := by omega
    subst this
    simp [g598_0, hM, g7, g3]
    exact hR _ _ ⟨ho, hk, hl⟩

theorem runAll_ok {h : Heap} {v0 vl vo : V} {st os : List Int} {l : List Sp} (hs : Sl h v0 st) (hl : Sl h vl l) (ho : Sl h vo os) (hst : storeB st = true) (hg : stepsB l = true) (hin : ∀ x ∈ os, 0 ≤ x ∧ x < (l.length : Int)) :
    ∃ r h', call p 599 [v0, vl, vo] h = some (r, h') ∧ ∃ a b Fa Fb, r = .tup [a, b] ∧ SdF h' a (runF l os st).1 Fa ∧ SdF h' b (runF l os st).2 Fb ∧ Keeps h h' ∧ h.length ≤ h'.length := by
  have hst' := hst
  simp only [storeB, Bool.and_eq_true, decide_eq_true_eq] at hst'
  have hg' := hg
  simp only [stepsB, Bool.and_eq_true, decide_eq_true_eq] at hg'
  have c4 : ((l.length : Int) * 8) ≤ (room : Int) := by unfold room; omega
  have c5 : (l.length : Int) ≤ (room : Int) := by unfold room; omega
  have c4' : l.length * 8 ≤ room := by unfold room; omega
  have c5' : l.length ≤ room := by unfold room; omega
  obtain ⟨a, h1, e1, ex, Fa, rfl, sa, fa⟩ := cloneI_exact (hs.keeps (Keeps.append h [deadBlk])) (by omega)
  refine go (fn := g599) rfl rfl fun R hR => ?_
  have hap : h ++ [deadBlk] ++ ex = h ++ deadBlk :: ex := by simp
  rw [hap] at e1 sa fa
  have d0 := isDeadA h (deadBlk :: ex) 0
  have a0 := setA h (deadBlk :: ex) 0 ⟨.own, List.replicate l.length (vi 0)⟩
  simp only [Nat.add_zero, List.set_cons_zero] at d0 a0
  have i0 : isDead (deadBlk :: ex) 0 = true := rfl
  have ad : allDead (h ++ [deadBlk]) h.length (fun _ => false) [0] = true := by simp only [allDead, List.all_cons, List.all_nil, isDeadA]; rfl
  have ad2 : allDead (h ++ deadBlk :: ex) h.length (fun _ => false) [0] = true := by simp only [allDead, List.all_cons, List.all_nil, isDeadA]; rfl
  have ne : ∀ j ∈ Fa, j ≠ h.length := fun j hj => by have := fa.ge j hj; simp at this; omega
  have kF : KeepsP (fun j => j ∈ Fa) (h ++ deadBlk :: ex) (h ++ ⟨.own, List.replicate l.length (vi 0)⟩ :: ex) := fun j bk hj hb _ => by
    rw [← a0, List.getElem?_set_ne (Ne.symm (ne j hj))]; exact hb
  have sa2 := sa.keeps kF
  have fa2 : Fresh h.length (h ++ ⟨.own, List.replicate l.length (vi 0)⟩ :: ex) Fa := (fa.keeps kF).mono (by simp)
  simp [ad, ad2, g599, fillL, upd, begin_one, xop_m, e1, d0, a0, i0, c4, c5, c4', c5', hl.len, ho.len, mtR]
  have e0 : List.replicate l.length (V.int IntKind.i64 0) = flats (List.replicate l.length (0 : Int)) := (flats_rep0 _).symm
  have slb : Sl (h ++ ⟨.own, List.replicate l.length (vi 0)⟩ :: ex) (.slice h.length 0 l.length (.k l.length)) (List.replicate l.length (0 : Int)) := by
    have := Sl.whole (h := h ++ ⟨.own, List.replicate l.length (vi 0)⟩ :: ex) (xs := List.replicate l.length (0 : Int)) (b := h.length) (blk := ⟨.own, List.replicate l.length (vi 0)⟩) (.k l.length) (by simp) (by simp) e0 (by simp; omega)
    simpa using this
  obtain ⟨Fb, sb, hFb, _⟩ := slb.sdF (α := Int) (Nat.le_refl _)
  have hFb' : ∀ i ∈ Fb, i = h.length := fun i hi => by have := (hFb i hi).1; simpa [bOf] using this
  have obb : OwnB (h ++ ⟨.own, List.replicate l.length (vi 0)⟩ :: ex) h.length := ⟨_, by simp; rfl⟩
  have hok0 := storeB_ok hst l.length
  generalize hH : h ++ ({ st := Own.own, cells := List.replicate l.length (V.int IntKind.i64 0) } : Blk) :: ex = H at *
  have kH : Keeps h H := by rw [← hH]; exact Keeps.append _ _
  have lH : h.length < H.length := by rw [← hH]; simp
  have hoH := ho.keeps kH
  have hlH := hl.keeps kH
  refine Wc_upM (M := [11, 19, 20, 21, 22, 23, 24, 25, 26, 27, 28, 29, 30, 31, 32, 33]) rfl os.length (fun i s => i ≤ os.length ∧ s.σ 19 = .v (vi i) ∧ SdF s.h a ((os.take i).foldl (stepR l) (st, List.replicate l.length 0)).1 Fa ∧ SdF s.h (.slice h.length 0 l.length (.k l.length)) ((os.take i).foldl (stepR l) (st, List.replicate l.length 0)).2 Fb ∧ (∀ i, OwnB H i → OwnB s.h i) ∧ KeepsP (fun i => i ∉ Fa ∧ i ≠ h.length) H s.h ∧ s.h.length = H.length) 0
    ⟨by omega, by simp, sa2, sb, fun _ h => h, KeepsP.refl _ _, rfl⟩ fun i s ⟨gi, g19, qa, qb, qo, qk, ql⟩ hM J hJ => ?_
  have kk : Keeps h s.h := Keeps.far (n := h.length) kH qk (Nat.le_refl _) fun j hj => ⟨fun hm => by have := fa2.ge j hm; omega, by omega⟩
  by_cases hi : i < os.length
  · have hok := foldR_ok (l := l) (os.take i) hok0
    have htk : (os.take (i + 1)).foldl (stepR l) (st, List.replicate l.length 0) = stepR l ((os.take i).foldl (stepR l) (st, List.replicate l.length 0)) os[i] := by
      rw [List.take_succ_eq_append_getElem hi, List.foldl_append]; rfl
    have ix := ho.idx 1 .i64 i hi
    simp only [Nat.mul_one] at ix
    have ld := (ho.keeps kk).loadI i hi
    have sti := ho.step hi
    have hx := hin _ (List.getElem_mem hi)
    generalize os[i] = x at *
    generalize (os.take i).foldl (stepR l) (st, List.replicate l.length 0) = pp at *
    obtain ⟨pst, ptd⟩ := pp
    have okx : okS (l.getD x.toNat zS) x := by
      have := stepsP_at hg'.1 (i := x.toNat) (by omega)
      rw [getD_in (by omega)]
      rwa [Int.toNat_of_nonneg hx.1] at this
    obtain ⟨iy, le⟩ := stepAt (hl.keeps kk) hx
    obtain ⟨_, h1, e1, rfl, r1, r2, r3, r4, r5⟩ := run_ok qa qb (fun i hi => qo i (fa2.own i hi)) (fun i hi hm => ne i hi (hFb' i hm)) hok okx (by omega)
    have hpl : ptd.length = l.length := hok.2.1
    obtain ⟨h2, e2, t1, t2, t3, t4⟩ := r2.putI (fun i hi => r5 i (qo i (by rw [hFb' i hi]; exact obb))) (i := x.toNat) (by show x.toNat < ptd.length; omega) (runV (l.getD x.toNat zS) (pst, ptd)).1
    have iz := idxV_s 1 h.length 0 l.length (.k l.length) .i64 x
    rw [if_pos hx] at iz
    simp only [Nat.zero_add, Nat.mul_one] at iz
    simp only [bOf, oOf, Nat.zero_add] at e2 t2
    rw [stepR_run] at htk
    have hx2 : x < (l.length : Int) := hx.2
    have hx1 : 0 ≤ x := hx.1
    generalize l.getD x.toNat zS = sx at *
    obtain ⟨sk, ss, sy, sr, sn⟩ := sx
    have e1' := e1
    simp only [spv] at e1'
    simp [g599_0, hM, g19, hi, ix, ld, iy, le, e1', hx1, hx2, e2, sti]
    refine hJ _ hi ⟨hi, by simp, by rw [htk]; exact r1.keeps (t2.mono fun i hi => ne i hi), by rw [htk]; exact t1, fun i hi => t4 i (r5 i (qo i hi)), (qk.trans (r3.mono fun i hi => hi.1)).trans (t2.mono fun i hi => hi.2), by show h2.length = H.length; omega⟩
  · have : i = os.length := by omega
    subst this
    rw [List.take_length] at qa qb
    simp [g599_0, hM, g19]
    exact hR _ _ ⟨_, _, Fa, Fb, rfl, qa, qb, kk, by omega⟩
end GL

namespace GL
open Go

def runB (l : List Sp) (st : List Int) : Bool := storeB st && stepsB l
def runR (l : List Sp) (st : List Int) : List Int × List Int := if runB l st = true then runF l (upTo l.length) st else ([], [])
theorem RunSteps_ok {h : Heap} {v0 vl : V} {st : List Int} {l : List Sp} (hs : Sl h v0 st) (hl : Sl h vl l) (hll : l.length ≤ 2 ^ 40) :
    ∃ r h', call p 579 [v0, vl] h = some (r, h') ∧ ∃ a b Fa Fb, r = .tup [a, b, .bool (runB l st)] ∧ SdF h' a (runR l st).1 Fa ∧ SdF h' b (runR l st).2 Fb ∧ Keeps h h' ∧ h.length ≤ h'.length := by
  obtain ⟨_, h1, e1, rfl, k1, l1⟩ := isStore_ok hs
  have e2 := GoodSteps_eq (hl.keeps k1) hll
  refine go (fn := g579) rfl rfl fun R hR => ?_
  cases c1 : storeB st with
  | false =>
    rw [c1] at e1
    have hb : runB l st = false := by simp [runB, c1]
    simp only [runR, hb] at hR
    simp [g579, e1]
    exact hR _ _ ⟨.nils, .nils, [], [], rfl, .nil, .nil, k1, l1⟩
  | true =>
    rw [c1] at e1
    cases c2 : stepsB l with
    | false =>
      rw [c2] at e2
      have hb : runB l st = false := by simp [runB, c2]
      simp only [runR, hb] at hR
      simp [g579, e1, e2]
      exact hR _ _ ⟨.nils, .nils, [], [], rfl, .nil, .nil, k1, l1⟩
    | true =>
      rw [c2] at e2
      have hb : runB l st = true := by simp [runB, c1, c2]
      simp only [runR, hb, if_true] at hR
      have c2' := c2
      simp only [stepsB, Bool.and_eq_true, decide_eq_true_eq] at c2'
      obtain ⟨r, h2, e3, o2, k2, l2⟩ := allColumns_ok (h := h1) l.length (by omega)
      obtain ⟨_, h3, e4, a, b, Fa, Fb, rfl, s1, s2, k3, l3⟩ := runAll_ok (hs.keeps (k1.trans k2)) (hl.keeps (k1.trans k2)) o2.sl c1 c2 (fun x hx => mem_upTo.1 hx)
      simp [g579, e1, e2, hl.len, e3, e4]
      exact hR _ _ ⟨a, b, Fa, Fb, rfl, s1, s2, (k1.trans k2).trans k3, by omega⟩

end GL

namespace GL
open Go

/-- a list of lists of one's own, each of which may grow -/
def Pcs (lo : Nat) (h : Heap) (b : Nat) (xs : List (List Int)) : Prop :=
  ∃ rs : List V, h[b]? = some ⟨.own, rs⟩ ∧ rs.length = xs.length ∧ lo ≤ b ∧ (∀ k (hr : k < rs.length) (hx : k < xs.length), Out (b + 1) h rs[k] xs[k]) ∧ ∀ j k (hj : j < rs.length) (hk : k < rs.length), j ≠ k → ∀ i, vB rs[j] i → ¬ vB rs[k] i
theorem Pcs.load {lo : Nat} {h : Heap} {b : Nat} {xs : List (List Int)} (hp : Pcs lo h b xs) {k : Nat} (hk : k < xs.length) : ∃ v, rdH h b k 1 = some [v] ∧ Out (b + 1) h v xs[k] := by
  obtain ⟨rs, hb, hl, h1, h2, h3⟩ := hp
  have hk' : k < rs.length := by omega
  refine ⟨rs[k], ?_, h2 k hk' hk⟩
  rw [rdH_at hb (by simp)]
  simp only [cut]
  rw [if_pos (by show k + 1 ≤ rs.length; omega), List.drop_eq_getElem_cons hk']; rfl
theorem Pcs.push {lo : Nat} {h : Heap} {b : Nat} {xs : List (List Int)} (hp : Pcs lo h b xs) {k : Nat} (hk : k < xs.length) (x : Int) (hx : xs[k].length ≤ 2 ^ 20) {v : V} (hv : rdH h b k 1 = some [v]) :
    ∃ v' h1 h2, appH 1 8 v 1 [vi x] (h ++ [⟨.own, [vi x]⟩]) = some (v', h1) ∧ v'.cells = [v'] ∧ v'.cell = true ∧ wrH h1 b k [v'] = some h2 ∧ Pcs lo h2 b (xs.set k (xs[k] ++ [x])) ∧ KeepsP (fun i => i < lo) h h2 ∧ h.length < h2.length := by
  obtain ⟨rs, hb, hl, h1, h2, h3⟩ := hp
  have hk' : k < rs.length := by omega
  have hv' : v = rs[k] := by
    rw [rdH_at hb (by simp)] at hv
    simp only [cut] at hv
    rw [if_pos (by show k + 1 ≤ rs.length; omega), List.drop_eq_getElem_cons hk'] at hv
    have := Option.some.inj hv
    exact ((List.cons.inj this).1).symm
  subst hv'
  obtain ⟨v', g1, e1, o1, k1, l1, b1⟩ := oneB (h2 k hk' hk) x hx
  have hbl := get_lt hb
  have hb1 : g1[b]? = some ⟨.own, rs⟩ := k1 b _ (fun hv => by have := ((h2 k hk' hk).ge hv).1; omega) hb (by simp)
  refine ⟨v', g1, g1.set b ⟨.own, rs.set k v'⟩, e1, o1.sl.cells, o1.sl.cell, ?_, ?_, fun i blk hi hbi hl2 => ?_, by simp; omega⟩
  · rw [wrH_at hb1 rfl]
    simp only [lay, List.length_singleton]
    have hset : rs.set k v' = rs.take k ++ [v'] ++ rs.drop (k + 1) := by rw [List.set_eq_take_append_cons_drop, if_pos hk']; simp
    rw [if_pos (by show k + 1 ≤ rs.length; omega), hset]; rfl
  · have kb : KeepsP (fun i => i ≠ b) g1 (g1.set b ⟨.own, rs.set k v'⟩) := fun i blk hi hbi _ => by rw [List.getElem?_set_ne (Ne.symm hi)]; exact hbi
    have gb : ∀ j (hj : j < rs.length) i, vB rs[j] i → i ≠ b := fun j hj i hv => by
      have := ((h2 j hj (by omega)).ge hv).1; omega
    refine ⟨rs.set k v', by rw [List.getElem?_set_self (get_lt hb1)], by simp [hl], h1, fun j hj hxj => ?_, fun j j2 hj hj2 hne i hv hv2 => ?_⟩
    · simp only [List.length_set] at hj hxj
      by_cases hjk : k = j
      · subst hjk
        simp only [List.getElem_set_self]
        exact o1.keeps kb (fun i hi => by have := (o1.ge hi).1; omega) (by simp)
      · rw [List.getElem_set_ne hjk, List.getElem_set_ne hjk]
        have hnv : ∀ i, vB rs[j] i → ¬ vB rs[k] i := h3 j k hj hk' (fun e => hjk e.symm)
        exact ((h2 j hj hxj).keeps k1 hnv (by omega)).keeps kb (fun i hi => gb j hj i hi) (by simp)
    · simp only [List.length_set] at hj hj2
      by_cases hjk : k = j
      · subst hjk
        rw [List.getElem_set_self] at hv
        rw [List.getElem_set_ne hne] at hv2
        have := b1 i hv
        have := ((h2 j2 hj2 (by omega)).ge hv2).2
        omega
      · rw [List.getElem_set_ne hjk] at hv
        by_cases hjk2 : k = j2
        · subst hjk2
          rw [List.getElem_set_self] at hv2
          have := b1 i hv2
          have := ((h2 j hj (by omega)).ge hv).2
          omega
        · rw [List.getElem_set_ne hjk2] at hv2
          exact h3 j j2 hj hj2 hne i hv hv2
  · have h5 := k1 i blk (fun hv => by have := ((h2 k hk' hk).ge hv).1; omega) hbi hl2
    rw [List.getElem?_set_ne (by omega)]; exact h5
theorem reps_rows {h : Heap} {lo : Nat} : ∀ {rs : List V} {xs : List (List Int)}, rs.length = xs.length → (∀ k (hr : k < rs.length) (hx : k < xs.length), Out lo h rs[k] xs[k]) → ∃ F, Reps h xs rs F ∧ ∀ b ∈ F, lo ≤ b
  | [], [], _, _ => ⟨[], .nil, by simp⟩
  | [], _ :: _, hl, _ => by simp at hl
  | _ :: _, [], hl, _ => by simp at hl
  | r :: rs, x :: xs, hl, ho => by
    obtain ⟨F1, s1, f1⟩ := (ho 0 (by simp) (by simp)).fr
    obtain ⟨F2, s2, f2⟩ := reps_rows (rs := rs) (xs := xs) (by simpa using hl) fun k hr hx => ho (k + 1) (by simp; omega) (by simp; omega)
    refine ⟨F1 ++ F2, ⟨[r], rs, F1, F2, rfl, rfl, ⟨r, rfl, s1⟩, s2⟩, fun b hb => ?_⟩
    rcases List.mem_append.1 hb with h | h
    · exact f1.ge b h
    · exact f2 b h
theorem Pcs.sdF {lo : Nat} {h : Heap} {b : Nat} {xs : List (List Int)} (hp : Pcs lo h b xs) (hx : xs.length < 2 ^ 63) : ∃ F, SdF h (.slice b 0 xs.length (.k xs.length)) xs F ∧ ∀ i ∈ F, lo ≤ i := by
  obtain ⟨rs, hb, hl, h1, h2, h3⟩ := hp
  obtain ⟨F, hr, hF⟩ := reps_rows hl h2
  have hsz : Data.sz (List Int) = 1 := rfl
  refine ⟨b :: F, ⟨hx, .inr ⟨b, 0, .k xs.length, rfl, Nat.le_refl _, .inr ⟨_, rs, F, rfl, hb, by simp, ?_, hr⟩⟩⟩, fun i hi => ?_⟩
  · rw [hsz, Nat.mul_one, ← hl]; simp [cut]
  · rcases List.mem_cons.1 hi with h | h
    · omega
    · have := hF i h; omega
theorem Pcs.start (h : Heap) (n : Nat) : Pcs h.length (h ++ [⟨.own, List.replicate n V.nils⟩]) h.length (List.replicate n []) :=
  ⟨List.replicate n .nils, by simp, by simp, Nat.le_refl _, fun k hr hx => by rw [List.getElem_replicate, List.getElem_replicate]; exact Out.nil (by simp), fun j k hj hk _ i hv => by rw [List.getElem_replicate] at hv; obtain ⟨_, _, _, e⟩ := hv; cases e⟩

def pcRow (l : List Sp) (n : Nat) (k : Nat) : List Int := (upTo n).filter fun i => decide ((l.getD i.toNat zS).shard = k)
def pcsL (l : List Sp) (n : Nat) : List (List Int) := (List.range 3).map (pcRow l n)
theorem pcRow_succ (l : List Sp) (n k : Nat) : pcRow l (n + 1) k = if (l.getD n zS).shard = k then pcRow l n k ++ [(n : Int)] else pcRow l n k := by
  unfold pcRow
  rw [upTo_succ, List.filter_append]
  by_cases h : (l.getD n zS).shard = k
  · rw [if_pos h]; rw [List.getD_eq_getElem?_getD] at h; simp [h]
  · rw [if_neg h]; rw [List.getD_eq_getElem?_getD] at h; simp [h]
theorem pcRow_len (l : List Sp) (n k : Nat) : (pcRow l n k).length ≤ n := Nat.le_trans (List.length_filter_le ..) (by rw [upTo_len]; omega)
theorem pcsL_len (l : List Sp) (n : Nat) : (pcsL l n).length = 3 := by simp [pcsL]
theorem pcsL_get (l : List Sp) (n : Nat) {k : Nat} (hk : k < (pcsL l n).length) : (pcsL l n)[k] = pcRow l n k := by simp [pcsL]
theorem pcsL_succ (l : List Sp) {n : Nat} (hn : n < l.length) {s : Nat} (hs : l[n].shard = s) (h3 : s < (pcsL l n).length) : pcsL l (n + 1) = (pcsL l n).set s ((pcsL l n)[s] ++ [(n : Int)]) := by
  apply List.ext_getElem
  · simp [pcsL_len]
  · intro k h1 h2
    rw [pcsL_get, pcRow_succ, getD_in hn, hs]
    by_cases hk : s = k
    · subst hk
      rw [if_pos rfl, List.getElem_set_self, pcsL_get]
    · rw [if_neg (by omega), List.getElem_set_ne hk, pcsL_get]
theorem pcsL_zero (l : List Sp) : pcsL l 0 = List.replicate 3 [] := by
  simp [pcsL, pcRow, upTo, List.range_succ, List.replicate_succ]

theorem pieces_ok {h : Heap} {vl : V} {l : List Sp} (hl : Sl h vl l) (hg : stepsB l = true) :
    ∃ r h', call p 603 [vl] h = some (r, h') ∧ ∃ F, SdF h' r (pcsL l l.length) F ∧ (∀ i ∈ F, h.length ≤ i) ∧ Keeps h h' ∧ h.length ≤ h'.length := by
  have c2' := hg
  simp only [stepsB, Bool.and_eq_true, decide_eq_true_eq] at c2'
  have c4 : (72 : Int) ≤ (room : Int) := by unfold room; omega
  have c5 : (3 : Int) ≤ (room : Int) := by unfold room; omega
  refine go (fn := g603) rfl rfl fun R hR => ?_
  simp [g603, hl.len, c4, c5]
  have st0 := Pcs.start h 3
  rw [← pcsL_zero l] at st0
  refine Wc_upM (M := [4, 5, 9, 10, 11, 12, 13, 14, 15, 16, 17, 18, 19, 20, 21, 22, 23, 24, 25, 26]) rfl l.length (fun i s => i ≤ l.length ∧ s.σ 9 = .v (vi i) ∧ Pcs h.length s.h h.length (pcsL l i) ∧ Keeps h s.h ∧ h.length ≤ s.h.length) 0
    ⟨by omega, by simp, by simpa [List.replicate_succ] using st0, Keeps.append _ _, by simp⟩ fun i s ⟨gi, g9, hp, hk, hln⟩ hM J hJ => ?_
  by_cases hi : i < l.length
  · have ix := hl.idx 5 .i64 i hi
    have ld := (hl.keeps hk).loadS i hi
    have st := hl.step hi
    obtain ⟨o1, o2, o3⟩ := stepsP_at c2'.1 hi
    have hsucc := fun (s : Nat) hs h3 => @pcsL_succ l i hi s hs h3
    generalize l[i] = x at *
    obtain ⟨sk, ss, sy, sr, sn⟩ := x
    simp only at o1 hsucc
    obtain ⟨m, rfl⟩ : ∃ m : Nat, ss = m := ⟨ss.toNat, by omega⟩
    have hm3 : m < (pcsL l i).length := by rw [pcsL_len]; omega
    obtain ⟨v, lv, ov⟩ := hp.load hm3
    obtain ⟨v', h1, h2, e1, vc, vcl, e2, p2, k2, l2⟩ := hp.push hm3 (i : Int) (by rw [pcsL_get]; have := pcRow_len l i m; omega) lv
    rw [← hsucc m rfl hm3] at p2
    have hm : (0 : Int) ≤ (m : Int) ∧ (m : Int) < 3 := by omega
    have hm' : m < 3 := by omega
    have lv2 := rdH_keep (Keeps.append s.h [⟨.own, [vi i]⟩]) lv
    simp [g603_0, hM, g9, hi, ix, ld, upd, hm, hm', lv, lv2, fillL, stable, stab1, rdS_last, e1, vc, vcl, e2, st]
    exact hJ _ hi ⟨hi, by simp, p2, Keeps.far (n := h.length) hk k2 (Nat.le_refl _) fun i hi => hi, by show h.length ≤ h2.length; omega⟩
  · have : i = l.length := by omega
    subst this
    obtain ⟨F, sF, hF⟩ := hp.sdF (by rw [pcsL_len]; omega)
    rw [pcsL_len] at sF
    simp [g603_0, hM, g9]
    exact hR _ _ ⟨F, sF, hF, hk, hln⟩
end GL

namespace GL
open Go

theorem DC.cellsOf {h0 h : Heap} {N : Nat} (d : DC h0 h N) (hN : N < 2 ^ 55) : ∃ v h', call p 594 [.ptr h0.length 0] h = some (v, h') ∧ ∃ (xs : List Int), Out h.length h' v xs ∧ xs.length = 12 ∧ DC h0 h' (N + 100) ∧ KeepsBut h0.length h h' ∧ h.length ≤ h'.length := by
  have hlt := d.lt
  refine go (fn := g594) rfl rfl fun R hR => ?_
  simp [g594]
  refine Wc_upM (M := [3, 4, 5, 6, 7, 8, 9, 10, 11, 12, 13]) rfl 12 (fun i s => i ≤ 12 ∧ s.σ 4 = .v (vi i) ∧ (∃ (v : V) (xs : List Int), s.σ 3 = .v v ∧ Out h.length s.h v xs ∧ xs.length = i) ∧ DC h0 s.h (N + 2 * i) ∧ KeepsBut h0.length h s.h ∧ h.length ≤ s.h.length) 0
    ⟨by omega, by simp, ⟨.nils, [], by simp, Out.nil (Nat.le_refl _), rfl⟩, by simpa using d, KeepsBut.refl _ _, Nat.le_refl _⟩ fun i s ⟨gi, g4, ⟨v, xs, g3, ho, hxl⟩, dc, kb, hl⟩ hM J hJ => ?_
  by_cases hi : i < 12
  · have hi' : (i : Int) < 12 := by omega
    obtain ⟨a, h1, e1, ha, d1, k1, l1⟩ := dc.pick (by omega) 9 (by decide)
    have o1 : Out h.length h1 v xs := ho.keeps k1.P (fun i hi => by have := (ho.ge hi).1; omega) (by omega)
    obtain ⟨v', h2, e2, o2, d2, k2, l2⟩ := Out.draw d1 (kb.trans k1) (ho := o1) (by omega) (by omega) (a : Int) (by omega) (k := 1) (bytes := 8) (cs := [vi a]) rfl (by decide) rfl
    have st : IntKind.i64.wrap ((i : Int) + 1) = (i + 1 : Nat) := by rw [IntWalk.i64_in] <;> omega
    simp [g594_0, hM, g4, g3, hi', hi, e1, fillL, rdS_last, e2, st, -Int.natCast_add]
    exact hJ _ hi ⟨hi, by simp, ⟨v', _, by simp, o2, by simp; omega⟩, d2.mono (by omega), k2, by show h.length ≤ h2.length; omega⟩
  · have hi' : ¬ (i : Int) < 12 := by omega
    obtain ⟨one, h1, e1, d1, k1, l1⟩ := dc.one (by omega) 30 (by decide)
    have o1 : Out h.length h1 v xs := ho.keeps k1.P (fun i hi => by have := (ho.ge hi).1; omega) (by omega)
    cases one with
    | false =>
      simp [g594_0, hM, g4, g3, hi', hi, e1]
      exact hR _ _ ⟨xs, o1, by omega, d1.mono (by omega), kb.trans k1, by omega⟩
    | true =>
      obtain ⟨x, h2, e2, hx, d2, k2, l2⟩ := d1.amongL (by omega) [-1000001, 1000000, 1000001] 3 rfl [vi (-1000001), vi 1000000, vi 1000001] rfl (.k 3) (by simp) (by simp)
      have o2 : Out h.length h2 v xs := o1.keeps k2.P (fun i hi => by have := (ho.ge hi).1; omega) (by omega)
      obtain ⟨h3, e3, o3, k3, l3⟩ := o2.set (i := 0) (by omega) x (o := oOf v + 0 * 1) (cs := [vi x]) (by simp [Flat.sz]) rfl
      have ix := o2.sl.idx 1 .i64 0 (by omega)
      simp only [Nat.mul_one, Nat.add_zero, Nat.zero_mul, Int.natCast_zero] at ix e3
      simp [g594_0, hM, g4, g3, hi', hi, e1, fillL, e2, ix, e3]
      exact hR _ _ ⟨xs.set 0 x, o3, by simp; omega, (d2.far k3 fun i hi hv => by have := (o2.ge hv).1; omega).mono (by omega), ((kb.trans k1).trans k2).far k3 fun i hi _ hv => by have := (o2.ge hv).1; omega, by omega⟩

def tail595 : GL.Code := .seq (.seq (.reg 0 [⟨0, some 74, none, .p .mov, [.t 3]⟩,
    ⟨1, some 75, none, .p .len, [.t 74]⟩,
    ⟨2, some 76, none, .p (.bin .gtr), [.t 75, .c (.int .i64 0)]⟩,
    ⟨3, some 77, none, .p .mov, [.t 76]⟩,
    ⟨4, some 78, some (77, true), .p .mov, [.t 0]⟩,
    ⟨5, some 79, some (77, true), .e .call [] [], [.f 92, .t 78, .c (.int .i64 30)]⟩,
    ⟨6, some 80, none, .p .pick, [.t 77, .t 79, .c (.bool false)]⟩])
   (.cond (.t 80) (.reg 0 [⟨0, some 81, none, .p .mov, [.t 3]⟩,
    ⟨1, some 82, none, .p .mov, [.t 0]⟩,
    ⟨2, some 83, none, .e .call [] [], [.f 91, .t 82, .c (.int .i64 5)]⟩,
    ⟨3, some 84, none, .p .mov, [.t 0]⟩,
    ⟨4, some 85, none, .e .call [] [], [.f 91, .t 84, .c (.int .i64 4)]⟩,
    ⟨5, some 86, none, .p .mov, [.t 0]⟩,
    ⟨6, some 87, none, .e (.new (.lit 1)) [] [], [.c (.int .i64 (-100)), .c (.int .i64 0), .c (.int .i64 99)]⟩,
    ⟨7, some 88, none, .e .call [] [], [.f 93, .t 86, .t 87]⟩,
    ⟨8, some 89, none, .p (.build [.int .i64 0, .int .i64 0, .int .i64 0, .int .i64 0, .int .i64 0] [(0, 1), (1, 1), (4, 1)]), [.t 83, .t 85, .t 88]⟩,
    ⟨9, some 90, none, .p (.idx 5), [.t 81, .c (.int .i64 0)]⟩,
    ⟨10, none, none, .e (.store 5) [] [], [.t 90, .t 89]⟩])
   (.skip)))
   (.seq (.reg 0 [⟨0, some 91, none, .p .mov, [.t 3]⟩,
    ⟨1, some 2, none, .p .mov, [.t 91]⟩])
   (.ret))
theorem DC.steps {h0 h : Heap} {N : Nat} (d : DC h0 h N) (hN : N < 2 ^ 55) : ∃ v h', call p 595 [.ptr h0.length 0] h = some (v, h') ∧ ∃ (xs : List Sp), Out h.length h' v xs ∧ xs.length ≤ 12 ∧ DC h0 h' (N + 1000) ∧ KeepsBut h0.length h h' ∧ h.length ≤ h'.length := by
  have hlt := d.lt
  obtain ⟨n8, t1, e1, hn8, d1, k1, l1⟩ := d.pick (by omega) 8 (by decide)
  obtain ⟨one, t2, e2, d2, k2, l2⟩ := d1.one (by omega) 20 (by decide)
  have loop : ∀ (n : Nat) (s0 : S) (K : Ex → S → Prop), n ≤ 12 → s0.σ 0 = .v (.ptr h0.length 0) → s0.σ 3 = .v .nils → s0.σ 4 = .v (vi n) → s0.σ 5 = .v (vi 0) → DC h0 s0.h (N + 6) → KeepsBut h0.length h s0.h → h.length ≤ s0.h.length →
      (∀ s v (xs : List Sp), s.σ 0 = .v (.ptr h0.length 0) → s.σ 3 = .v v → Out h.length s.h v xs → xs.length ≤ 12 → DC h0 s.h (N + 600) → KeepsBut h0.length h s.h → h.length ≤ s.h.length → K (.exit 0) s) → Wc p (.loop g595_0) s0 K := by
    intro n s0 K hn g0 g3 g4 g5 dc kb hl hK
    refine Wc_upM (M := [3, 5, 6, 14, 15, 16, 17, 18, 19, 20, 21, 22, 23, 24, 25, 26, 27, 28, 29, 30, 31, 32, 33, 34, 35, 36, 37, 38, 39, 40, 41, 42, 43, 44, 45, 46, 47, 48, 49, 50, 51, 52, 53, 54, 55, 56, 57, 58, 59, 60, 61, 62, 63, 64, 65, 66, 67, 68, 69, 70, 71, 72, 73]) rfl n (fun i s => i ≤ n ∧ s.σ 5 = .v (vi i) ∧ (∃ (v : V) (xs : List Sp), s.σ 3 = .v v ∧ Out h.length s.h v xs ∧ xs.length = i) ∧ DC h0 s.h (N + 6 + 40 * i) ∧ KeepsBut h0.length h s.h ∧ h.length ≤ s.h.length) 0
      ⟨by omega, by simpa using g5, ⟨.nils, [], g3, Out.nil hl, rfl⟩, by simpa using dc, kb, hl⟩ fun i s ⟨gi, g5, ⟨v, xs, g3, ho, hxl⟩, dc, kb, hl⟩ hM J hJ => ?_
    by_cases hi : i < n
    · obtain ⟨a1, h1, e1, ha1, d1, k1, l1⟩ := dc.pick (by omega) 3 (by decide)
      obtain ⟨a2, h2, e2, ha2, d2, k2, l2⟩ := d1.pick (by omega) 4 (by decide)
      have st : IntKind.i64.wrap ((i : Int) + 1) = (i + 1 : Nat) := by rw [IntWalk.i64_in] <;> omega
      have k12 := k1.trans k2
      have app : ∀ (x : Sp) (h3 : Heap) (M : Nat), DC h0 h3 M → KeepsBut h0.length s.h h3 → s.h.length ≤ h3.length → ∃ v' h4, appH 5 40 v 1 [vi x.kind, vi x.shard, vi x.key, vi x.src, vi x.n] (h3 ++ [⟨.own, [vi x.kind, vi x.shard, vi x.key, vi x.src, vi x.n]⟩]) = some (v', h4) ∧ Out h.length h4 v' (xs ++ [x]) ∧ DC h0 h4 M ∧ KeepsBut h0.length h h4 ∧ h3.length ≤ h4.length := fun x h3 M d3 k3 l3 => by
        have o3 : Out h.length h3 v xs := ho.keeps k3.P (fun i hi => by have := (ho.ge hi).1; omega) (by omega)
        exact Out.draw d3 (kb.trans k3) (ho := o3) (by omega) (by omega) x (by omega) (k := 5) (bytes := 40) rfl (by decide) rfl
      have fin : ∀ (j : Nat), j < i → ∀ h5 M, DC h0 h5 M → KeepsBut h0.length s.h h5 → s.h.length ≤ h5.length → M < 2 ^ 57 →
          ∃ one h6 y, call p 92 [.ptr h0.length 0, vi 2] h5 = some (.bool one, h6) ∧ idxV 5 v (vi j) = some (.ptr (bOf v) (oOf v + j * 5)) ∧ rdH h6 (bOf v) (oOf v + j * 5 + 1) 1 = some [vi y] ∧
          ∀ x : Sp, ∃ v' h4, appH 5 40 v 1 [vi x.kind, vi x.shard, vi x.key, vi x.src, vi x.n] (h6 ++ [⟨.own, [vi x.kind, vi x.shard, vi x.key, vi x.src, vi x.n]⟩]) = some (v', h4) ∧ Out h.length h4 v' (xs ++ [x]) ∧ DC h0 h4 (M + 2) ∧ KeepsBut h0.length h h4 ∧ h.length ≤ h4.length := fun j hj h5 M d5 k5 l5 hM5 => by
        obtain ⟨one, h6, e6, d6, k6, l6⟩ := d5.one (by omega) 2 (by decide)
        have o6 : Out h.length h6 v xs := ho.keeps (k5.trans k6).P (fun i hi => by have := (ho.ge hi).1; omega) (by omega)
        refine ⟨one, h6, _, e6, o6.sl.idx 5 .i64 j (by omega), o6.sl.loadS1 j (by omega), fun x => ?_⟩
        obtain ⟨v', h4, e4, o4, d4, k4, l4⟩ := app x h6 _ d6 (k5.trans k6) (by omega)
        exact ⟨v', h4, e4, o4, d4, k4, by omega⟩
      by_cases hi0 : 0 < i
      · have hi0i : (0 : Int) < i := by omega
        obtain ⟨one, h3, e3, d3, k3, l3⟩ := d2.one (by omega) 3 (by decide)
        have k13 := k12.trans k3
        cases one with
        | true =>
          obtain ⟨v', h4, e4, o4, d4, k4, l4⟩ := app ⟨1, a1, a2, 0, 0⟩ h3 _ d3 k13 (by omega)
          simp at e4
          simp [g595_0, hM, g0, g4, g5, g3, hi, hi0, hi0i, e1, e2, e3, upd, fillL, rdS_last, e4, st, -Int.natCast_add]
          exact hJ _ hi ⟨hi, by simp, ⟨v', _, by simp, o4, by simp; omega⟩, d4.mono (by omega), k4, by show h.length ≤ h4.length; omega⟩
        | false =>
          obtain ⟨a3, h5, e5, ha3, d5, k5, l5⟩ := d3.pick (by omega) 3 (by decide)
          obtain ⟨a4, h6, e6, ha4, d6, k6, l6⟩ := d5.pick (by omega) (i : Int) (by omega)
          obtain ⟨a5, h7, e7, ha5, d7, k7, l7⟩ := d6.pick (by omega) 20 (by decide)
          have wa : IntKind.i64.wrap ((a5 : Int) - 9) = (a5 : Int) - 9 := by rw [IntWalk.i64_in] <;> omega
          obtain ⟨two, h8, e8, d8, k8, l8⟩ := d7.one (by omega) 2 (by decide)
          have k18 := (((k13.trans k5).trans k6).trans k7).trans k8
          cases two with
          | false =>
            obtain ⟨o5, h9, y, e9, ix, ld, fa⟩ := fin a4 (by omega) h8 _ d8 k18 (by omega) (by omega)
            have finJ : ∀ (x : Sp), ∃ v' h4, appH 5 40 v 1 [vi x.kind, vi x.shard, vi x.key, vi x.src, vi x.n] (h9 ++ [⟨.own, [vi x.kind, vi x.shard, vi x.key, vi x.src, vi x.n]⟩]) = some (v', h4) ∧ ∀ s' : S, s'.h = h4 → s'.σ 5 = .v (vi (i + 1 : Nat)) → s'.σ 3 = .v v' → J s' := fun x => by
              obtain ⟨v', h4, e4, o4, d4, k4, l4⟩ := fa x
              exact ⟨v', h4, e4, fun s' q1 q2 q3 => hJ s' hi ⟨hi, q2, ⟨v', _, q3, by rw [q1]; exact o4, by simp; omega⟩, by rw [q1]; exact d4.mono (by omega), by rw [q1]; exact k4, by rw [q1]; exact l4⟩⟩
            cases o5 with
            | false =>
              obtain ⟨v', h4, e4, hf⟩ := finJ ⟨2, a3, 0, a4, (a5 : Int) - 9⟩
              simp at e4
              simp [g595_0, hM, g0, g4, g5, g3, hi, hi0, hi0i, e1, e2, e3, e5, e6, e7, wa, e8, e9, upd, fillL, rdS_last, e4, st, -Int.natCast_add]
              exact hf _ rfl (by simp) (by simp)
            | true =>
              by_cases hgt : (a3 : Int) < y
              · obtain ⟨v', h4, e4, hf⟩ := finJ ⟨2, y, 0, a4, (a5 : Int) - 9⟩
                simp at e4
                simp [g595_0, hM, g0, g4, g5, g3, hi, hi0, hi0i, e1, e2, e3, e5, e6, e7, wa, e8, e9, ix, ld, hgt, upd, fillL, rdS_last, e4, st, -Int.natCast_add]
                exact hf _ rfl (by simp) (by simp)
              · obtain ⟨v', h4, e4, hf⟩ := finJ ⟨2, a3, 0, a4, (a5 : Int) - 9⟩
                simp at e4
                simp [g595_0, hM, g0, g4, g5, g3, hi, hi0, hi0i, e1, e2, e3, e5, e6, e7, wa, e8, e9, ix, ld, hgt, upd, fillL, rdS_last, e4, st, -Int.natCast_add]
                exact hf _ rfl (by simp) (by simp)
          | true =>
            obtain ⟨b1, h10, f1, hb1, d10, k10, l10⟩ := d8.pick (by omega) 3 (by decide)
            obtain ⟨b2, h11, f2, hb2, d11, k11, l11⟩ := d10.pick (by omega) 4 (by decide)
            obtain ⟨b3, h12, f3, hb3, d12, k12', l12⟩ := d11.pick (by omega) (i : Int) (by omega)
            have k112 := ((k18.trans k10).trans k11).trans k12'
            obtain ⟨o5, h9, y, e9, ix, ld, fa⟩ := fin b3 (by omega) h12 _ d12 k112 (by omega) (by omega)
            have finJ : ∀ (x : Sp), ∃ v' h4, appH 5 40 v 1 [vi x.kind, vi x.shard, vi x.key, vi x.src, vi x.n] (h9 ++ [⟨.own, [vi x.kind, vi x.shard, vi x.key, vi x.src, vi x.n]⟩]) = some (v', h4) ∧ ∀ s' : S, s'.h = h4 → s'.σ 5 = .v (vi (i + 1 : Nat)) → s'.σ 3 = .v v' → J s' := fun x => by
              obtain ⟨v', h4, e4, o4, d4, k4, l4⟩ := fa x
              exact ⟨v', h4, e4, fun s' q1 q2 q3 => hJ s' hi ⟨hi, q2, ⟨v', _, q3, by rw [q1]; exact o4, by simp; omega⟩, by rw [q1]; exact d4.mono (by omega), by rw [q1]; exact k4, by rw [q1]; exact l4⟩⟩
            cases o5 with
            | false =>
              obtain ⟨v', h4, e4, hf⟩ := finJ ⟨3, b1, b2, b3, 0⟩
              simp at e4
              simp [g595_0, hM, g0, g4, g5, g3, hi, hi0, hi0i, e1, e2, e3, e5, e6, e7, wa, e8, f1, f2, f3, e9, upd, fillL, rdS_last, e4, st, -Int.natCast_add]
              exact hf _ rfl (by simp) (by simp)
            | true =>
              by_cases hgt : (b1 : Int) < y
              · obtain ⟨v', h4, e4, hf⟩ := finJ ⟨3, y, b2, b3, 0⟩
                simp at e4
                simp [g595_0, hM, g0, g4, g5, g3, hi, hi0, hi0i, e1, e2, e3, e5, e6, e7, wa, e8, f1, f2, f3, e9, ix, ld, hgt, upd, fillL, rdS_last, e4, st, -Int.natCast_add]
                exact hf _ rfl (by simp) (by simp)
              · obtain ⟨v', h4, e4, hf⟩ := finJ ⟨3, b1, b2, b3, 0⟩
                simp at e4
                simp [g595_0, hM, g0, g4, g5, g3, hi, hi0, hi0i, e1, e2, e3, e5, e6, e7, wa, e8, f1, f2, f3, e9, ix, ld, hgt, upd, fillL, rdS_last, e4, st, -Int.natCast_add]
                exact hf _ rfl (by simp) (by simp)
      · have hi0i : ¬ (0 : Int) < i := by omega
        obtain ⟨v', h4, e4, o4, d4, k4, l4⟩ := app ⟨1, a1, a2, 0, 0⟩ h2 _ d2 k12 (by omega)
        simp at e4
        simp [g595_0, hM, g0, g4, g5, g3, hi, hi0, hi0i, e1, e2, upd, fillL, rdS_last, e4, st, -Int.natCast_add]
        exact hJ _ hi ⟨hi, by simp, ⟨v', _, by simp, o4, by simp; omega⟩, d4.mono (by omega), k4, by show h.length ≤ h4.length; omega⟩
    · simp [g595_0, hM, g4, g5, hi]
      exact hK _ v xs (by simp [hM, g0]) (by simp [g3]) ho (by omega) (dc.mono (by omega)) kb hl
  refine go (fn := g595) rfl rfl fun R hR => ?_
  have tl : ∀ (s : S) (v : V) (xs : List Sp), s.σ 0 = .v (.ptr h0.length 0) → s.σ 3 = .v v → Out h.length s.h v xs → xs.length ≤ 12 → DC h0 s.h (N + 600) → KeepsBut h0.length h s.h → h.length ≤ s.h.length → Wc p tail595 s (finK [.tmp 2] fun r => R r.1 r.2) := by
    intro s v xs g0 g3 ho hxl dc kb hl
    by_cases hx0 : 0 < xs.length
    · have hx0i : (0 : Int) < xs.length := by omega
      obtain ⟨one, h1, e1, d1, k1, l1⟩ := dc.one (by omega) 30 (by decide)
      have o1 : Out h.length h1 v xs := ho.keeps k1.P (fun i hi => by have := (ho.ge hi).1; omega) (by omega)
      cases one with
      | false =>
        simp [tail595, g0, g3, ho.sl.len, hx0, hx0i, e1]
        exact hR _ _ ⟨xs, o1, hxl, d1.mono (by omega), kb.trans k1, by omega⟩
      | true =>
        obtain ⟨a, h2, e2, ha, d2, k2, l2⟩ := d1.pick (by omega) 5 (by decide)
        obtain ⟨b, h3, e3, hb, d3, k3, l3⟩ := d2.pick (by omega) 4 (by decide)
        obtain ⟨x, h4, e4, hx, d4, k4, l4⟩ := d3.amongL (by omega) [-100, 0, 99] 3 rfl [vi (-100), vi 0, vi 99] rfl (.k 3) (by simp) (by simp)
        have k14 := ((k1.trans k2).trans k3).trans k4
        have o4 : Out h.length h4 v xs := ho.keeps k14.P (fun i hi => by have := (ho.ge hi).1; omega) (by omega)
        obtain ⟨h5, e5, o5, k5, l5⟩ := o4.set (i := 0) hx0 (⟨a, b, 0, 0, x⟩ : Sp) (o := oOf v + 0 * 5) (cs := [vi a, vi b, vi 0, vi 0, vi x]) (by simp [Flat.sz]) rfl
        have ix := o4.sl.idx 5 .i64 0 hx0
        simp only [Nat.add_zero, Nat.zero_mul, Int.natCast_zero] at ix e5
        simp [tail595, g0, g3, ho.sl.len, hx0, hx0i, e1, e2, e3, fillL, e4, ix, e5]
        exact hR _ _ ⟨_, o5, by simpa using hxl, (d4.far k5 fun i hi hv => by have := (o4.ge hv).1; omega).mono (by omega), (kb.trans k14).far k5 fun i hi _ hv => by have := (o4.ge hv).1; omega, by omega⟩
    · have hx0i : ¬ (0 : Int) < xs.length := by omega
      simp [tail595, g0, g3, ho.sl.len, hx0, hx0i]
      exact hR _ _ ⟨xs, ho, hxl, dc.mono (by omega), kb, hl⟩
  show Wc p (.seq _ (.seq _ (.seq _ (.seq _ (.seq _ tail595))))) _ _
  cases one with
  | false =>
    simp [g595, e1, e2]
    exact loop n8 _ _ (by omega) (by simp) (by simp) (by simp) (by simp) (d2.mono (by omega)) (k1.trans k2) (by show h.length ≤ t2.length; omega) fun s v xs g0 g3 ho hx dc kb hl => by simpa using tl s v xs g0 g3 ho hx dc kb hl
  | true =>
    obtain ⟨m, t3, e3, hm, d3, k3, l3⟩ := d2.pick (by omega) 2 (by decide)
    have wm : IntKind.i64.wrap (10 + (m : Int)) = (10 + m : Nat) := by rw [IntWalk.i64_in] <;> omega
    simp [g595, e1, e2, e3, wm, -Int.natCast_add]
    exact loop (10 + m) _ _ (by omega) (by simp) (by simp) (by simp) (by simp) (d3.mono (by omega)) ((k1.trans k2).trans k3) (by show h.length ≤ t3.length; omega) fun s v xs g0 g3 ho hx dc kb hl => by simpa using tl s v xs g0 g3 ho hx dc kb hl

theorem drawGoodSteps_ok {h : Heap} {v : V} {bs : List Byte} (hs : Sl h v bs) : ∃ r h', call p 602 [v] h = some (r, h') ∧ ∃ (l : List Sp), Sl h' r l ∧ l.length ≤ 12 ∧ Keeps h h' ∧ h.length ≤ h'.length := by
  have d0 := DC.start hs
  obtain ⟨b, h2, e2, l, o2, hl, d2, k2, l2⟩ := d0.steps (by decide)
  simp at e2 l2
  refine go (fn := g602) rfl rfl fun R hR => ?_
  simp [g602, hs.cells, hs.cell, fillL, e2]
  exact hR _ _ ⟨l, o2.sl, hl, d2.keep, by omega⟩
end GL

namespace GL
open Go

theorem pcRow_mem {l : List Sp} {n k : Nat} {i : Int} (h : i ∈ pcRow l n k) : (0 ≤ i ∧ i < n) ∧ (l.getD i.toNat zS).shard = k := by
  simpa [pcRow, mem_upTo] using h
end GL

namespace GL
open Go

end GL

namespace GL
open Go

/-- a list of one's own of lists that do not change -/
def Rws (lo : Nat) (h : Heap) (b : Nat) (xs : List (List Int)) : Prop :=
  ∃ rs : List V, h[b]? = some ⟨.own, rs⟩ ∧ rs.length = xs.length ∧ lo ≤ b ∧ ∀ k (hr : k < rs.length) (hx : k < xs.length), ∃ F, SdF h rs[k] xs[k] F ∧ ∀ i ∈ F, b < i
theorem Rws.keep {lo : Nat} {h h' : Heap} {b : Nat} {xs : List (List Int)} (hp : Rws lo h b xs) (hk : Keeps h h') : Rws lo h' b xs := by
  obtain ⟨rs, h1, h2, h3, h4⟩ := hp
  exact ⟨rs, hk _ _ h1 (by simp), h2, h3, fun k hr hx => by obtain ⟨F, q1, q2⟩ := h4 k hr hx; exact ⟨F, q1.keep hk, q2⟩⟩
theorem Rws.load {lo : Nat} {h : Heap} {b : Nat} {xs : List (List Int)} (hp : Rws lo h b xs) {k : Nat} (hk : k < xs.length) : ∃ v F, rdH h b k 1 = some [v] ∧ SdF h v xs[k] F ∧ ∀ i ∈ F, b < i := by
  obtain ⟨rs, hb, hl, h1, h2⟩ := hp
  have hk' : k < rs.length := by omega
  obtain ⟨F, q1, q2⟩ := h2 k hk' hk
  refine ⟨rs[k], F, ?_, q1, q2⟩
  rw [rdH_at hb (by simp)]
  simp only [cut]
  rw [if_pos (by show k + 1 ≤ rs.length; omega), List.drop_eq_getElem_cons hk']; rfl
theorem Rws.put {lo : Nat} {h : Heap} {b : Nat} {xs : List (List Int)} (hp : Rws lo h b xs) {k : Nat} (hk : k < xs.length) {w : V} {ys : List Int} {G : List Nat} (hw : SdF h w ys G) (hG : ∀ i ∈ G, b < i) :
    ∃ h2, wrH h b k [w] = some h2 ∧ Rws lo h2 b (xs.set k ys) ∧ KeepsP (fun i => i < lo) h h2 ∧ h2.length = h.length := by
  obtain ⟨rs, hb, hl, h1, h2⟩ := hp
  have hk' : k < rs.length := by omega
  have kb : KeepsP (fun i => i ≠ b) h (h.set b ⟨.own, rs.set k w⟩) := fun i blk hi hbi _ => by rw [List.getElem?_set_ne (Ne.symm hi)]; exact hbi
  refine ⟨h.set b ⟨.own, rs.set k w⟩, ?_, ⟨rs.set k w, by rw [List.getElem?_set_self (get_lt hb)], by simp [hl], h1, fun j hj hxj => ?_⟩, kb.mono fun i hi => by omega, by simp⟩
  · rw [wrH_at hb rfl]
    simp only [lay, List.length_singleton]
    have hset : rs.set k w = rs.take k ++ [w] ++ rs.drop (k + 1) := by rw [List.set_eq_take_append_cons_drop, if_pos hk']; simp
    rw [if_pos (by show k + 1 ≤ rs.length; omega), hset]; rfl
  · simp only [List.length_set] at hj hxj
    by_cases hjk : k = j
    · subst hjk
      simp only [List.getElem_set_self]
      exact ⟨G, hw.keeps (kb.mono fun i hi => by have := hG i hi; omega), hG⟩
    · rw [List.getElem_set_ne hjk, List.getElem_set_ne hjk]
      obtain ⟨F, q1, q2⟩ := h2 j hj hxj
      exact ⟨F, q1.keeps (kb.mono fun i hi => by have := q2 i hi; omega), q2⟩
theorem reps_rws {h : Heap} {b : Nat} : ∀ {rs : List V} {xs : List (List Int)}, rs.length = xs.length → (∀ k (hr : k < rs.length) (hx : k < xs.length), ∃ F, SdF h rs[k] xs[k] F ∧ ∀ i ∈ F, b < i) → ∃ F, Reps h xs rs F ∧ ∀ i ∈ F, b < i
  | [], [], _, _ => ⟨[], .nil, by simp⟩
  | [], _ :: _, hl, _ => by simp at hl
  | _ :: _, [], hl, _ => by simp at hl
  | r :: rs, x :: xs, hl, ho => by
    obtain ⟨F1, s1, f1⟩ := ho 0 (by simp) (by simp)
    obtain ⟨F2, s2, f2⟩ := reps_rws (rs := rs) (xs := xs) (by simpa using hl) fun k hr hx => ho (k + 1) (by simp; omega) (by simp; omega)
    refine ⟨F1 ++ F2, ⟨[r], rs, F1, F2, rfl, rfl, ⟨r, rfl, s1⟩, s2⟩, fun b hb => ?_⟩
    rcases List.mem_append.1 hb with h | h
    · exact f1 b h
    · exact f2 b h
theorem Rws.sdF {lo : Nat} {h : Heap} {b : Nat} {xs : List (List Int)} (hp : Rws lo h b xs) (hx : xs.length < 2 ^ 63) : ∃ F, SdF h (.slice b 0 xs.length (.k xs.length)) xs F ∧ ∀ i ∈ F, lo ≤ i := by
  obtain ⟨rs, hb, hl, h1, h2⟩ := hp
  obtain ⟨F, hr, hF⟩ := reps_rws hl h2
  have hsz : Data.sz (List Int) = 1 := rfl
  refine ⟨b :: F, ⟨hx, .inr ⟨b, 0, .k xs.length, rfl, Nat.le_refl _, .inr ⟨_, rs, F, rfl, hb, by simp, ?_, hr⟩⟩⟩, fun i hi => ?_⟩
  · rw [hsz, Nat.mul_one, ← hl]; simp [cut]
  · rcases List.mem_cons.1 hi with h | h
    · omega
    · have := hF i h; omega
theorem Rws.start (h : Heap) (n : Nat) : Rws h.length (h ++ [⟨.own, List.replicate n V.nils⟩]) h.length (List.replicate n []) :=
  ⟨List.replicate n .nils, by simp, by simp, Nat.le_refl _, fun k hr hx => by rw [List.getElem_replicate, List.getElem_replicate]; exact ⟨[], .nil, by simp⟩⟩

def srcS (l : List Sp) (j : Nat) : Sp := l.getD (l.getD j zS).src.toNat zS
def ndQ (l : List Sp) (j : Nat) (k x : Int) : Bool := decide ((l.getD j zS).kind ≠ 1) && decide ((l.getD j zS).shard = k) && decide ((srcS l j).shard = x) && decide (x ≠ k)
def ndRow (l : List Sp) (n : Nat) (k : Nat) : List Int := (upTo 3).filter fun x => (List.range n).any fun j => ndQ l j k x
def ndL (l : List Sp) (n : Nat) : List (List Int) := (List.range 3).map (ndRow l n)
theorem mem_ndRow {l : List Sp} {n k : Nat} {x : Int} : x ∈ ndRow l n k ↔ (0 ≤ x ∧ x < 3) ∧ ∃ j, j < n ∧ (l.getD j zS).kind ≠ 1 ∧ (l.getD j zS).shard = k ∧ (srcS l j).shard = x ∧ x ≠ k := by
  simp only [ndRow, List.mem_filter, mem_upTo, List.any_eq_true, List.mem_range, ndQ, Bool.and_eq_true, decide_eq_true_eq]
  constructor
  · rintro ⟨h1, j, h2, ⟨⟨h3, h4⟩, h5⟩, h6⟩; exact ⟨h1, j, h2, h3, h4, h5, h6⟩
  · rintro ⟨h1, j, h2, h3, h4, h5, h6⟩; exact ⟨h1, j, h2, ⟨⟨h3, h4⟩, h5⟩, h6⟩
theorem ndRow_rising (l : List Sp) (n k : Nat) : (ndRow l n k).Pairwise (· < ·) := (range_rising 3).filter _
theorem ndRow_len (l : List Sp) (n k : Nat) : (ndRow l n k).length ≤ 3 := Nat.le_trans (List.length_filter_le ..) (by rw [upTo_len]; omega)
theorem ndL_len (l : List Sp) (n : Nat) : (ndL l n).length = 3 := by simp [ndL]
theorem ndL_get (l : List Sp) (n : Nat) {k : Nat} (hk : k < (ndL l n).length) : (ndL l n)[k] = ndRow l n k := by simp [ndL]
theorem ndL_zero (l : List Sp) : ndL l 0 = List.replicate 3 [] := by
  simp [ndL, ndRow, upTo, List.range_succ, List.replicate_succ]
theorem ndL_skip {l : List Sp} {n : Nat} (h : (l.getD n zS).kind = 1 ∨ (srcS l n).shard = (l.getD n zS).shard) : ndL l (n + 1) = ndL l n := by
  apply List.ext_getElem
  · simp [ndL_len]
  · intro k h1 h2
    rw [ndL_get, ndL_get]
    refine rising_ext (ndRow_rising _ _ _) (ndRow_rising _ _ _) fun x => ?_
    rw [mem_ndRow, mem_ndRow]
    refine and_congr_right fun _ => ⟨fun ⟨j, q1, q2, q3, q4, q5⟩ => ?_, fun ⟨j, q1, q⟩ => ⟨j, by omega, q⟩⟩
    by_cases hj : j = n
    · subst hj
      rcases h with h | h
      · exact absurd h q2
      · exact absurd (q4.symm.trans (h.trans q3)) q5
    · exact ⟨j, by omega, q2, q3, q4, q5⟩
theorem ndL_succ {l : List Sp} {n s : Nat} (hk : (l.getD n zS).kind ≠ 1) (hs : (l.getD n zS).shard = s) (hne : (srcS l n).shard ≠ s) (hr : 0 ≤ (srcS l n).shard ∧ (srcS l n).shard < 3) (h3 : s < (ndL l n).length) {ys : List Int} (hy : ys.Pairwise (· < ·)) (hm : ∀ x, x ∈ ys ↔ x ∈ (ndL l n)[s] ∨ x = (srcS l n).shard) : ndL l (n + 1) = (ndL l n).set s ys := by
  apply List.ext_getElem
  · simp [ndL_len]
  · intro k h1 h2
    rw [ndL_get]
    by_cases hks : s = k
    · subst hks
      rw [List.getElem_set_self]
      refine rising_ext (ndRow_rising _ _ _) hy fun x => ?_
      rw [hm, ndL_get, mem_ndRow, mem_ndRow]
      constructor
      · rintro ⟨h1, j, q1, q2, q3, q4, q5⟩
        by_cases hj : j = n
        · subst hj; exact .inr q4.symm
        · exact .inl ⟨h1, j, by omega, q2, q3, q4, q5⟩
      · rintro (⟨h1, j, q1, q⟩ | rfl)
        · exact ⟨h1, j, by omega, q⟩
        · exact ⟨hr, n, by omega, hk, hs, rfl, hne⟩
    · rw [List.getElem_set_ne hks, ndL_get]
      refine rising_ext (ndRow_rising _ _ _) (ndRow_rising _ _ _) fun x => ?_
      rw [mem_ndRow, mem_ndRow]
      refine and_congr_right fun _ => ⟨fun ⟨j, q1, q2, q3, q4, q5⟩ => ?_, fun ⟨j, q1, q⟩ => ⟨j, by omega, q⟩⟩
      by_cases hj : j = n
      · subst hj; omega
      · exact ⟨j, by omega, q2, q3, q4, q5⟩
theorem src_in {l : List Sp} (hg : stepsP l l.length = true) {i : Nat} (hi : i < l.length) (hk : l[i].kind ≠ 1) : ∃ m : Nat, l[i].src = m ∧ m < i ∧ (0 ≤ (srcS l i).shard ∧ (srcS l i).shard < 3) ∧ srcS l i = l.getD m zS := by
  obtain ⟨_, _, o3⟩ := stepsP_at hg hi
  have h1 : 0 ≤ l[i].src ∧ l[i].src ≤ (i : Int) - 1 := by
    rcases o3 with ⟨h, _⟩ | ⟨_, _, h, _⟩ | ⟨_, h, _⟩
    · exact absurd h hk
    · exact h
    · exact h
  have h2 : srcS l i = l.getD l[i].src.toNat zS := by rw [srcS, getD_in hi]
  have h3 : l[i].src.toNat < l.length := by omega
  obtain ⟨o1, _, _⟩ := stepsP_at hg h3
  exact ⟨l[i].src.toNat, by omega, by omega, by rw [h2, getD_in h3]; omega, h2⟩

theorem needs_ok {h : Heap} {vl : V} {l : List Sp} (hl : Sl h vl l) (hg : stepsB l = true) :
    ∃ r h', call p 766 [vl] h = some (r, h') ∧ ∃ F, SdF h' r (ndL l l.length) F ∧ (∀ i ∈ F, h.length ≤ i) ∧ Keeps h h' ∧ h.length ≤ h'.length := by
  have c2' := hg
  simp only [stepsB, Bool.and_eq_true, decide_eq_true_eq] at c2'
  have c4 : (72 : Int) ≤ (room : Int) := by unfold room; omega
  have c5 : (3 : Int) ≤ (room : Int) := by unfold room; omega
  refine go (fn := g766) rfl rfl fun R hR => ?_
  simp [g766, hl.len, c4, c5]
  have st0 := Rws.start h 3
  rw [← ndL_zero l] at st0
  refine Wc_upM (M := [5, 9, 10, 11, 12, 13, 14, 15, 16, 17, 18, 19, 20, 21, 22, 23, 24, 25, 26, 27, 28, 29, 30, 31, 32, 33, 34, 35, 36, 37, 38, 39, 40, 41, 42, 43, 44]) rfl l.length (fun i s => i ≤ l.length ∧ s.σ 9 = .v (vi i) ∧ Rws h.length s.h h.length (ndL l i) ∧ Keeps h s.h ∧ h.length < s.h.length) 0
    ⟨by omega, by simp, by simpa [List.replicate_succ] using st0, Keeps.append _ _, by simp⟩ fun i s ⟨gi, g9, hp, hk, hln⟩ hM J hJ => ?_
  by_cases hi : i < l.length
  · have ix := hl.idx 5 .i64 i hi
    have ld := (hl.keeps hk).loadS i hi
    have st := hl.step hi
    obtain ⟨o1, o2, o3⟩ := stepsP_at c2'.1 hi
    have hgd := getD_in hi zS
    have hsrc := fun hk => src_in c2'.1 hi hk
    generalize l[i] = x at *
    obtain ⟨sk, ss, sy, sr, sn⟩ := x
    simp only at o1 hsrc
    obtain ⟨m, rfl⟩ : ∃ m : Nat, ss = m := ⟨ss.toNat, by omega⟩
    have hm3 : m < (ndL l i).length := by rw [ndL_len]; omega
    have hm : (0 : Int) ≤ (m : Int) ∧ (m : Int) < 3 := by omega
    have hm' : m < 3 := by omega
    by_cases hk1 : sk = 1
    · have hskip : ndL l (i + 1) = ndL l i := ndL_skip (.inl (by rw [hgd]; exact hk1))
      simp [g766_0, hM, g9, hi, ix, ld, upd, hk1, st]
      exact hJ _ hi ⟨hi, by simp, by rw [hskip]; exact hp, hk, hln⟩
    · obtain ⟨q, hq1, hq2, hq3, hq4⟩ := hsrc hk1
      have hql : q < l.length := by omega
      have iq := hl.idx 5 .i64 q hql
      have lq := (hl.keeps hk).loadS1 q hql
      have hsh : l[q].shard = (srcS l i).shard := by rw [hq4, getD_in hql]
      rw [hsh] at lq
      subst hq1
      by_cases hne : (srcS l i).shard = (m : Int)
      · have hskip : ndL l (i + 1) = ndL l i := ndL_skip (.inr (by rw [hgd]; exact hne))
        rw [hne] at lq
        simp [g766_0, hM, g9, hi, ix, ld, upd, hk1, iq, lq, st]
        exact hJ _ hi ⟨hi, by simp, by rw [hskip]; exact hp, hk, hln⟩
      · have hsu := fun ys => @ndL_succ l i m (by rw [hgd]; exact hk1) (by rw [hgd]) hne hq3 hm3 ys
        obtain ⟨v, Fv, lv, sv, fv⟩ := hp.load hm3
        have hrl : ((ndL l i)[m]'hm3).length ≤ 3 := by rw [ndL_get]; exact ndRow_len _ _ _
        generalize (srcS l i).shard = w at *
        have kl : Keeps s.h (s.h ++ [⟨.own, [vi w]⟩]) := Keeps.append _ _
        have sl1 := Sl.lit (h := s.h) [w] 1 rfl [vi w] rfl (.k 1) (by simp)
        obtain ⟨G1, sd1, _⟩ := Sl.sdF sl1 (Nat.le_refl 1)
        obtain ⟨w2, h2, e2, zs, G2, t2, f2, r2, m2, k2, l2⟩ := together_ok (sv.keep kl) sd1 (by simp; omega)
        simp at l2
        obtain ⟨h3, e3, p3, k3, l3⟩ := (hp.keep (kl.trans k2)).put hm3 t2 (fun i hi => by have := f2.ge i hi; simp at this; omega)
        have hz := hsu zs r2 (fun x => by rw [m2]; simp)
        have lv2 := rdH_keep kl lv
        simp [g766_0, hM, g9, hi, ix, ld, upd, hk1, iq, lq, hne, hm, hm', lv, lv2, fillL, stable, stab1, e2, t2.cells, t2.cell, e3, st]
        exact hJ _ hi ⟨hi, by simp, by rw [hz]; exact p3, Keeps.far (n := h.length) (hk.trans (kl.trans k2)) k3 (Nat.le_refl _) fun i hi => hi, by show h.length < h3.length; omega⟩
  · have : i = l.length := by omega
    subst this
    obtain ⟨F, sF, hF⟩ := hp.sdF (by rw [ndL_len]; omega)
    rw [ndL_len] at sF
    simp [g766_0, hM, g9]
    exact hR _ _ ⟨F, sF, hF, hk, by omega⟩
theorem l15Needs_ok {h : Heap} {vl : V} {l : List Sp} (hl : Sl h vl l) (hg : stepsB l = true) :
    ∃ r h', call p 768 [vl] h = some (r, h') ∧ ∃ F, SdF h' r (ndL l l.length) F ∧ (∀ i ∈ F, h.length ≤ i) ∧ Keeps h h' ∧ h.length ≤ h'.length := by
  have c2' := hg
  simp only [stepsB, Bool.and_eq_true, decide_eq_true_eq] at c2'
  have c4 : (72 : Int) ≤ (room : Int) := by unfold room; omega
  have c5 : (3 : Int) ≤ (room : Int) := by unfold room; omega
  refine go (fn := g768) rfl rfl fun R hR => ?_
  simp [g768, hl.len, c4, c5]
  have st0 := Rws.start h 3
  rw [← ndL_zero l] at st0
  refine Wc_upM (M := [5, 9, 10, 11, 12, 13, 14, 15, 16, 17, 18, 19, 20, 21, 22, 23, 24, 25, 26, 27, 28, 29, 30, 31, 32, 33, 34, 35, 36, 37, 38, 39, 40, 41, 42, 43]) rfl l.length (fun i s => i ≤ l.length ∧ s.σ 9 = .v (vi i) ∧ Rws h.length s.h h.length (ndL l i) ∧ Keeps h s.h ∧ h.length < s.h.length) 0
    ⟨by omega, by simp, by simpa [List.replicate_succ] using st0, Keeps.append _ _, by simp⟩ fun i s ⟨gi, g9, hp, hk, hln⟩ hM J hJ => ?_
  by_cases hi : i < l.length
  · have ix := hl.idx 5 .i64 i hi
    have ld := (hl.keeps hk).loadS i hi
    have st := hl.step hi
    obtain ⟨o1, o2, o3⟩ := stepsP_at c2'.1 hi
    have hgd := getD_in hi zS
    have hsrc := fun hk => src_in c2'.1 hi hk
    generalize l[i] = x at *
    obtain ⟨sk, ss, sy, sr, sn⟩ := x
    simp only at o1 hsrc
    obtain ⟨m, rfl⟩ : ∃ m : Nat, ss = m := ⟨ss.toNat, by omega⟩
    have hm3 : m < (ndL l i).length := by rw [ndL_len]; omega
    have hm : (0 : Int) ≤ (m : Int) ∧ (m : Int) < 3 := by omega
    have hm' : m < 3 := by omega
    by_cases hk1 : sk = 1
    · have hskip : ndL l (i + 1) = ndL l i := ndL_skip (.inl (by rw [hgd]; exact hk1))
      simp [g768_0, hM, g9, hi, ix, ld, upd, hk1, st]
      exact hJ _ hi ⟨hi, by simp, by rw [hskip]; exact hp, hk, hln⟩
    · obtain ⟨q, hq1, hq2, hq3, hq4⟩ := hsrc hk1
      have hql : q < l.length := by omega
      have iq := hl.idx 5 .i64 q hql
      have lq := (hl.keeps hk).loadS1 q hql
      have hsh : l[q].shard = (srcS l i).shard := by rw [hq4, getD_in hql]
      rw [hsh] at lq
      subst hq1
      by_cases hne : (srcS l i).shard = (m : Int)
      · have hskip : ndL l (i + 1) = ndL l i := ndL_skip (.inr (by rw [hgd]; exact hne))
        rw [hne] at lq
        simp [g768_0, hM, g9, hi, ix, ld, upd, hk1, iq, lq, st]
        exact hJ _ hi ⟨hi, by simp, by rw [hskip]; exact hp, hk, hln⟩
      · have hsu := fun ys => @ndL_succ l i m (by rw [hgd]; exact hk1) (by rw [hgd]) hne hq3 hm3 ys
        obtain ⟨v, Fv, lv, sv, fv⟩ := hp.load hm3
        have hrl : ((ndL l i)[m]'hm3).length ≤ 3 := by rw [ndL_get]; exact ndRow_len _ _ _
        have hrr : ((ndL l i)[m]'hm3).Pairwise (· < ·) := by rw [ndL_get]; exact ndRow_rising _ _ _
        generalize (srcS l i).shard = w at *
        obtain ⟨w2, h2, e2, zs, G2, t2, r2, m2, _, f2, k2, l2⟩ := l1Put_ok sv hrr (by omega) w
        obtain ⟨h3, e3, p3, k3, l3⟩ := (hp.keep k2).put hm3 t2 (fun i hi => by
          rcases f2 i hi with h | h
          · exact fv i h
          · omega)
        have hz := hsu zs r2 m2
        simp [g768_0, hM, g9, hi, ix, ld, upd, hk1, iq, lq, hne, hm, hm', lv, stable, stab1, e2, t2.cells, t2.cell, e3, st]
        exact hJ _ hi ⟨hi, by simp, by rw [hz]; exact p3, Keeps.far (n := h.length) (hk.trans k2) k3 (Nat.le_refl _) fun i hi => hi, by show h.length < h3.length; omega⟩
  · have : i = l.length := by omega
    subst this
    obtain ⟨F, sF, hF⟩ := hp.sdF (by rw [ndL_len]; omega)
    rw [ndL_len] at sF
    simp [g768_0, hM, g9]
    exact hR _ _ ⟨F, sF, hF, hk, by omega⟩
end GL

namespace GL
open Go

/-- pieces in an order of shards -/
def allPc (l : List Sp) (os : List Int) : List Int := (os.map fun k => pcRow l l.length k.toNat).flatten
/-- each shard stands behind those that it needs -/
def ordB (l : List Sp) (os : List Int) (i : Nat) : Bool := (List.range i).all fun j => ((ndL l l.length).getD (os.getD j 0).toNat []).all fun x => decide (x ∈ os.take j)
theorem ordB_succ (l : List Sp) (os : List Int) (i : Nat) : ordB l os (i + 1) = (ordB l os i && ((ndL l l.length).getD (os.getD i 0).toNat []).all fun x => decide (x ∈ os.take i)) := by
  simp [ordB, List.range_succ]
theorem ordB_false {l : List Sp} {os : List Int} {i n : Nat} (hi : i < n) (h : (((ndL l l.length).getD (os.getD i 0).toNat []).all fun x => decide (x ∈ os.take i)) = false) : ordB l os n = false := by
  rw [ordB, List.all_eq_false]; exact ⟨i, List.mem_range.2 hi, by rw [h]; simp⟩
theorem ordB_at {l : List Sp} {os : List Int} {n i : Nat} (h : ordB l os n = true) (hi : i < n) : ∀ x ∈ (ndL l l.length).getD (os.getD i 0).toNat [], x ∈ os.take i := by
  have := List.all_eq_true.1 h i (List.mem_range.2 hi)
  intro x hx
  simpa using List.all_eq_true.1 this x hx
def pieceB (l : List Sp) (st os : List Int) : Bool := storeB st && stepsB l && decide (os.length = 3) && onceB 3 os && ordB l os 3
def pieceR (l : List Sp) (st os : List Int) : List Int × List Int := if pieceB l st os = true then runF l (allPc l os) st else ([], [])

def depS (l : List Sp) (i j : Int) : Bool :=
  decide ((l.getD i.toNat zS).shard = (l.getD j.toNat zS).shard) || (decide ((l.getD j.toNat zS).kind ≠ 1) && decide ((l.getD j.toNat zS).src = i)) || (decide ((l.getD i.toNat zS).kind ≠ 1) && decide ((l.getD i.toNat zS).src = j))

theorem stepR_comm {l : List Sp} (hg : stepsP l l.length = true) (q : List Int × List Int) {a x : Int} (ha : 0 ≤ a ∧ a < l.length) (hx : 0 ≤ x ∧ x < l.length) (hne : a ≠ x) (hd : depS l a x = false) : stepR l (stepR l q a) x = stepR l (stepR l q x) a := by
  obtain ⟨A, rfl⟩ : ∃ A : Nat, a = A := ⟨a.toNat, by omega⟩
  obtain ⟨X, rfl⟩ : ∃ X : Nat, x = X := ⟨x.toNat, by omega⟩
  obtain ⟨s, t⟩ := q
  have oa := stepsP_at hg (i := A) (by omega)
  have ox := stepsP_at hg (i := X) (by omega)
  simp only [depS, Int.toNat_natCast, getD_in (show A < l.length by omega), getD_in (show X < l.length by omega), Bool.or_eq_false_iff, Bool.and_eq_false_iff, decide_eq_false_iff_not] at hd
  simp only [stepR, Int.toNat_natCast, getD_in (show A < l.length by omega), getD_in (show X < l.length by omega)]
  generalize l[A] = sa at *
  generalize l[X] = sx at *
  obtain ⟨⟨d1, d2⟩, d3⟩ := hd
  have hAX : A ≠ X := by omega
  have hcell : (cellS sa).toNat ≠ (cellS sx).toNat := by
    obtain ⟨h1, h2, _⟩ := oa
    obtain ⟨h3, h4, _⟩ := ox
    unfold cellS; omega
  have hs1 : sx.kind ≠ 1 → A ≠ sx.src.toNat := fun h => by
    obtain ⟨_, _, o⟩ := ox
    rcases d2 with d | d <;> omega
  have hs2 : sa.kind ≠ 1 → X ≠ sa.src.toNat := fun h => by
    obtain ⟨_, _, o⟩ := oa
    rcases d3 with d | d <;> omega
  have gs : ∀ (u : List Int) (i j : Nat) (v : Int), i ≠ j → (u.set i v).getD j 0 = u.getD j 0 := fun u i j v h => by rw [getD_set, if_neg (fun e => h e.1)]
  by_cases ka : sa.kind = 1
  · by_cases kx : sx.kind = 1
    · simp only [ka, kx, if_true, List.set_comm _ _ hAX]
    · have g1 := gs t A sx.src.toNat (s.getD (cellS sa).toNat 0) (hs1 kx)
      by_cases kx2 : sx.kind = 2
      · simp only [ka, kx2, if_true, show ¬ ((2 : Int) = 1) by decide, if_false, g1, List.set_comm _ _ hAX]
      · simp only [ka, kx, kx2, if_true, if_false, g1, gs _ _ _ _ (Ne.symm hcell), List.set_comm _ _ hAX]
  · by_cases kx : sx.kind = 1
    · have g1 := gs t X sa.src.toNat (s.getD (cellS sx).toNat 0) (hs2 ka)
      by_cases ka2 : sa.kind = 2
      · simp only [ka2, kx, if_true, show ¬ ((2 : Int) = 1) by decide, if_false, g1, List.set_comm _ _ hAX]
      · simp only [ka, ka2, kx, if_true, if_false, g1, gs _ _ _ _ hcell, List.set_comm _ _ hAX]
    · have g1 := fun v => gs t A sx.src.toNat v (hs1 kx)
      have g2 := fun v => gs t X sa.src.toNat v (hs2 ka)
      by_cases ka2 : sa.kind = 2
      · by_cases kx2 : sx.kind = 2
        · simp only [ka2, kx2, if_true, show ¬ ((2 : Int) = 1) by decide, if_false, g1, g2, List.set_comm _ _ hAX]
        · simp only [ka2, kx, kx2, if_true, show ¬ ((2 : Int) = 1) by decide, if_false, g1, g2, List.set_comm _ _ hAX]
      · by_cases kx2 : sx.kind = 2
        · simp only [ka, ka2, kx2, if_true, show ¬ ((2 : Int) = 1) by decide, if_false, g1, g2, List.set_comm _ _ hAX]
        · simp only [ka, ka2, kx, kx2, if_false, g1, g2, List.set_comm _ _ hAX, List.set_comm _ _ hcell]
theorem depS_comm (l : List Sp) (i j : Int) : depS l i j = depS l j i := by
  unfold depS
  rw [Bool.or_assoc, Bool.or_assoc]
  congr 1
  · exact decide_eq_decide.2 eq_comm
  · rw [Bool.or_comm]

/-- two orders in which steps that hang on one another stand alike come to the same -/
theorem foldS_front {l : List Sp} (hg : stepsP l l.length = true) {x : Int} (hx : 0 ≤ x ∧ x < l.length) : ∀ (A B : List Int) (q : List Int × List Int), (∀ a ∈ A, (0 ≤ a ∧ a < l.length) ∧ a ≠ x ∧ depS l a x = false) → (A ++ x :: B).foldl (stepR l) q = (x :: (A ++ B)).foldl (stepR l) q
  | [], B, q, _ => rfl
  | a :: A, B, q, h => by
    obtain ⟨h1, h2, h3⟩ := h a (by simp)
    have := foldS_front hg hx A B (stepR l q a) (fun a ha => h a (by simp [ha]))
    simp only [List.cons_append, List.foldl_cons] at this ⊢
    rw [this, stepR_comm hg q h1 hx h2 h3]
theorem foldS_agree {l : List Sp} (hg : stepsP l l.length = true) : ∀ (P W : List Int) (q : List Int × List Int), P.Nodup → W.Nodup → (∀ z, z ∈ P ↔ z ∈ W) → (∀ z ∈ P, 0 ≤ z ∧ z < l.length) → (∀ a b, depS l a b = true → ([a, b] : List Int).Sublist P → ([a, b] : List Int).Sublist W) → P.foldl (stepR l) q = W.foldl (stepR l) q
  | [], W, q, _, _, hm, _, _ => by
    cases W with
    | nil => rfl
    | cons y W => exact absurd ((hm y).2 (by simp)) (by simp)
  | x :: P, W, q, hp, hw, hm, hk, hc => by
    have hp' := List.nodup_cons.1 hp
    obtain ⟨A, B, rfl⟩ := List.append_of_mem ((hm x).1 (by simp))
    have hw1 := List.nodup_append.1 hw
    have hw2 := List.nodup_cons.1 hw1.2.1
    have hxA : x ∉ A := fun h => hw1.2.2 x h x (by simp) rfl
    have hAP : ∀ a ∈ A, a ∈ P := fun a ha => by
      have := (hm a).2 (by simp [ha])
      rcases List.mem_cons.1 this with h | h
      · exact absurd (h ▸ ha) hxA
      · exact h
    have hmn : ∀ z, z ∈ P ↔ z ∈ A ++ B := fun z => by
      constructor
      · intro hz
        have h1 := (hm z).1 (by simp [hz])
        have hzx : z ≠ x := fun e => hp'.1 (e ▸ hz)
        simpa [hzx] using h1
      · intro hz
        have hz' : z ∈ A ∨ z ∈ B := List.mem_append.1 hz
        have hzx : z ≠ x := fun e => by
          rcases hz' with h | h
          · exact hxA (e ▸ h)
          · exact hw2.1 (e ▸ h)
        have h1 := (hm z).2 (by rcases hz' with h | h <;> simp [h])
        simpa [hzx] using h1
    rw [foldS_front hg (hk x (by simp)) A B q (fun a ha => ?_)]
    · simp only [List.foldl_cons]
      have hd : (A ++ B).Nodup := by
        rw [List.nodup_append]
        exact ⟨hw1.1, hw2.2, fun a ha b hb => hw1.2.2 a ha b (by simp [hb])⟩
      refine foldS_agree hg P (A ++ B) (stepR l q x) hp'.2 hd hmn (fun z hz => hk z (by simp [hz])) fun a b hab hs => ?_
      have h1 := hc a b hab (hs.cons _)
      have ha : a ≠ x := fun e => hp'.1 (e ▸ hs.subset (by simp))
      have hb : b ≠ x := fun e => hp'.1 (e ▸ hs.subset (by simp))
      have h2 := h1.erase x
      rw [List.erase_append_right _ hxA, List.erase_cons_head] at h2
      have h3 : ([a, b] : List Int).erase x = [a, b] := List.erase_of_not_mem (by simp [Ne.symm ha, Ne.symm hb])
      rwa [h3] at h2
    · have haP := hAP a ha
      have hax : a ≠ x := fun e => hp'.1 (e ▸ haP)
      refine ⟨hk a (by simp [haP]), hax, ?_⟩
      cases hcl : depS l a x with
      | false => rfl
      | true =>
        exfalso
        have hcl' : depS l x a = true := by rw [depS_comm]; exact hcl
        have h1 := hc x a hcl' ((List.singleton_sublist.2 haP).cons_cons _)
        have haB : a ∉ B := fun h => hw1.2.2 a ha a (by simp [h]) rfl
        have i1 := sub_idx hw h1
        rw [List.idxOf_append, List.idxOf_append, if_neg hxA, if_pos ha] at i1
        have := List.idxOf_lt_length_of_mem ha
        omega

theorem allPc_nodup (l : List Sp) : ∀ {os : List Int}, (∀ k ∈ os, 0 ≤ k) → os.Nodup → (allPc l os).Nodup
  | [], _, _ => by simp [allPc]
  | k :: os, h0, hn => by
    have hn' := List.nodup_cons.1 hn
    have e : allPc l (k :: os) = pcRow l l.length k.toNat ++ allPc l os := by simp [allPc]
    rw [e, List.nodup_append]
    refine ⟨((range_rising l.length).filter _).imp fun h => by omega, allPc_nodup l (fun k hk => h0 k (by simp [hk])) hn'.2, fun a ha b hb hab => ?_⟩
    subst hab
    obtain ⟨r, hr, har⟩ := List.mem_flatten.1 hb
    obtain ⟨k2, hk2, rfl⟩ := List.mem_map.1 hr
    have h1 := (pcRow_mem ha).2
    have h2 := (pcRow_mem har).2
    have hk0 := h0 k (by simp)
    have hk20 := h0 k2 (by simp [hk2])
    have : k = k2 := by omega
    subst this; exact hn'.1 hk2
theorem mem_pcRow {l : List Sp} {n k : Nat} {i : Int} : i ∈ pcRow l n k ↔ (0 ≤ i ∧ i < n) ∧ (l.getD i.toNat zS).shard = k := by
  simp [pcRow, mem_upTo]
theorem upTo_sub {n : Nat} {a b : Int} (h : ([a, b] : List Int).Sublist (upTo n)) : a < b ∧ 0 ≤ a ∧ b < n := by
  have h1 := List.Pairwise.sublist h (range_rising n)
  have h2 := mem_upTo.1 (h.subset (show a ∈ [a, b] by simp))
  have h3 := mem_upTo.1 (h.subset (show b ∈ [a, b] by simp))
  simp at h1; omega
theorem pieces_serial {l : List Sp} {st os : List Int} (h : pieceB l st os = true) : runF l (allPc l os) st = runF l (upTo l.length) st := by
  simp only [pieceB, Bool.and_eq_true, decide_eq_true_eq] at h
  obtain ⟨⟨⟨⟨h1, h2⟩, h3⟩, h4⟩, h5⟩ := h
  simp only [stepsB, Bool.and_eq_true, decide_eq_true_eq] at h2
  have h4' := h4
  have h4i : onceB ((3 : Nat) : Int) os = true := h4
  rw [onceB_iff h3, decide_eq_true_eq] at h4i
  simp only [onceB, decide_eq_true_eq] at h4'
  have hall : ∀ i, 0 ≤ i ∧ i < (l.length : Int) → (l.getD i.toNat zS).shard ∈ os := fun i hi => by
    obtain ⟨o1, _⟩ := stepsP_at h2.1 (i := i.toNat) (by omega)
    have := h4i.2 (l.getD i.toNat zS).shard.toNat (by rw [getD_in (by omega)]; omega)
    rwa [Int.toNat_of_nonneg (by rw [getD_in (by omega)]; omega)] at this
  refine (foldS_agree h2.1 (upTo l.length) (allPc l os) _ ((range_rising _).imp fun h => by omega) (allPc_nodup l (fun k hk => (h4'.1 k hk).1) h4'.2) (fun z => ?_) (fun z hz => mem_upTo.1 hz) fun a b hd hs => ?_).symm
  · rw [mem_upTo, allPc, List.mem_flatten]
    constructor
    · intro hz
      obtain ⟨o1, _⟩ := stepsP_at h2.1 (i := z.toNat) (by omega)
      rw [← getD_in (by omega) zS] at o1
      refine ⟨_, List.mem_map.2 ⟨_, hall z hz, rfl⟩, mem_pcRow.2 ⟨hz, by omega⟩⟩
    · rintro ⟨r, hr, hz⟩
      obtain ⟨k, hk, rfl⟩ := List.mem_map.1 hr
      exact (mem_pcRow.1 hz).1
  · obtain ⟨hab, ha0, hbn⟩ := upTo_sub hs
    have ha' : 0 ≤ a ∧ a < (l.length : Int) := by omega
    have hb' : 0 ≤ b ∧ b < (l.length : Int) := by omega
    obtain ⟨oa1, _, oa3⟩ := stepsP_at h2.1 (i := a.toNat) (by omega)
    obtain ⟨ob1, _, ob3⟩ := stepsP_at h2.1 (i := b.toNat) (by omega)
    rw [← getD_in (by omega) zS] at oa1 oa3 ob1 ob3
    have hka := hall a ha'
    have hkb := hall b hb'
    have ra : a ∈ pcRow l l.length (l.getD a.toNat zS).shard.toNat := mem_pcRow.2 ⟨ha', by omega⟩
    have rb : b ∈ pcRow l l.length (l.getD b.toNat zS).shard.toNat := mem_pcRow.2 ⟨hb', by omega⟩
    simp only [depS, Bool.or_eq_true, Bool.and_eq_true, decide_eq_true_eq] at hd
    by_cases hsh : (l.getD a.toNat zS).shard = (l.getD b.toNat zS).shard
    · have hf : ([a, b] : List Int).Sublist (pcRow l l.length (l.getD a.toNat zS).shard.toNat) := by
        have := hs.filter (fun i => decide ((l.getD i.toNat zS).shard = ((l.getD a.toNat zS).shard.toNat : Int)))
        have e : ([a, b] : List Int).filter (fun i => decide ((l.getD i.toNat zS).shard = ((l.getD a.toNat zS).shard.toNat : Int))) = [a, b] := by
          rw [List.filter_eq_self]
          intro z hz
          simp only [List.mem_cons, List.not_mem_nil, or_false] at hz
          rcases hz with rfl | rfl
          · rw [decide_eq_true]; omega
          · rw [decide_eq_true]; omega
        rw [e] at this; exact this
      exact hf.trans (List.sublist_flatten_of_mem (List.mem_map.2 ⟨_, hka, rfl⟩))
    · have hsrc : (l.getD b.toNat zS).kind ≠ 1 ∧ (l.getD b.toNat zS).src = a := by
        rcases hd with (h | h) | h
        · exact absurd h hsh
        · exact h
        · exfalso; omega
      obtain ⟨j, hj, hjb⟩ := List.getElem_of_mem hkb
      have hneed : (l.getD a.toNat zS).shard ∈ (ndL l l.length).getD (os.getD j 0).toNat [] := by
        have hsj : (os.getD j 0).toNat < (ndL l l.length).length := by rw [getD_at hj, hjb, ndL_len]; omega
        rw [getD_in hsj, ndL_get, getD_at hj, hjb]
        exact mem_ndRow.2 ⟨by omega, b.toNat, by omega, hsrc.1, by omega, by rw [srcS, hsrc.2], by omega⟩
      have hta := ordB_at h5 (by omega) _ hneed
      have e : allPc l os = ((os.take j).map fun k => pcRow l l.length k.toNat).flatten ++ ((os.drop j).map fun k => pcRow l l.length k.toNat).flatten := by
        rw [allPc, ← List.flatten_append, ← List.map_append, List.take_append_drop]
      rw [e]
      have s1 : ([a] : List Int).Sublist ((os.take j).map fun k => pcRow l l.length k.toNat).flatten := List.singleton_sublist.2 (List.mem_flatten.2 ⟨_, List.mem_map.2 ⟨_, hta, rfl⟩, ra⟩)
      have s2 : ([b] : List Int).Sublist ((os.drop j).map fun k => pcRow l l.length k.toNat).flatten := List.singleton_sublist.2 (List.mem_flatten.2 ⟨_, List.mem_map.2 ⟨_, by rw [List.drop_eq_getElem_cons hj, hjb]; simp, rfl⟩, rb⟩)
      exact List.Sublist.append s1 s2

/-! a split is whether the groups' order does -/
theorem ndL_links (l : List Sp) (n : Nat) : linksB (ndL l n) = true := by
  simp only [linksB, ndL_len, Bool.and_eq_true, decide_eq_true_eq, List.all_eq_true]
  refine ⟨by omega, fun xs hx => ?_⟩
  obtain ⟨i, hi, rfl⟩ := List.getElem_of_mem hx
  rw [ndL_get]
  simp only [risB, decide_eq_true_eq]
  exact ⟨fun x hx => by have := (mem_ndRow.1 hx).1; omega, ndRow_rising _ _ _⟩
theorem split_order (l : List Sp) : ordB l (groupsL (ndL l l.length)).flatten 3 = roundB (ndL l l.length) := by
  have hg := ndL_links l l.length
  have hlen := ndL_len l l.length
  have hself : ∀ (i : Nat) (hi : i < (ndL l l.length).length), (i : Int) ∉ (ndL l l.length)[i] := fun i hi => by
    rw [ndL_get]; intro h
    obtain ⟨_, j, _, _, _, _, h6⟩ := mem_ndRow.1 h
    exact h6 rfl
  generalize hL : ndL l l.length = L at *
  have hfc := groupsL_facts hg
  have hfl := groupsL_flat hg
  generalize hO : (groupsL L).flatten = O at *
  have hin : ∀ j (hj : j < O.length), InR L O[j] := fun j hj => (hfc.2.1 _).2 (List.getElem_mem hj)
  have hpl : ∀ {a b : Int}, InR L a → Rch L a b → ¬ Rch L b a → placeL O b ≤ placeL O a := fun ha r nr => by rw [← hO]; exact place_le hg ha r nr
  have hedge : ∀ j (hj : j < O.length), ∀ x, x ∈ L.getD (O.getD j 0).toNat [] ↔ Edge L O[j] x := fun j hj x => by
    have h1 := hin j hj
    unfold InR at h1
    have h2 : O[j].toNat < L.length := by omega
    rw [getD_at hj, getD_in h2]
    constructor
    · intro h; exact ⟨O[j].toNat, h2, by omega, h⟩
    · rintro ⟨i, hi, e, h⟩
      have : i = O[j].toNat := by omega
      subst this; exact h
  have hidx : ∀ j (hj : j < O.length), O.idxOf O[j] = j := fun j hj => hfc.1.idxOf_getElem j hj
  have hO3 : O.length = 3 := by omega
  cases hr : roundB L with
  | true =>
    have hr' := hr
    simp only [roundB, decide_eq_true_eq] at hr'
    rw [ordB, hL, List.all_eq_true]
    intro j hj
    rw [List.mem_range] at hj
    have hj' : j < O.length := by omega
    rw [List.all_eq_true]
    intro x hx
    have he := (hedge j hj' x).1 hx
    have hij := hin j hj'
    have rx : Rch L O[j] x := (Rch.refl _).step he
    have hxi := rx.lt hg hij
    have hne : x ≠ O[j] := fun e => by
      obtain ⟨i, hi, e2, hm⟩ := he
      rw [e, e2] at hm
      exact hself i hi hm
    have nr : ¬ Rch L x O[j] := fun r => by
      have h1 : x ∈ groupL L O[j] := (mem_groupL hg hij).2 ⟨rx, r⟩
      have h2 := self_groupL hg hij
      have h3 := (hr' O[j].toNat (by unfold InR at hij; omega)).1
      rw [Int.toNat_of_nonneg hij.1] at h3
      match hgl : groupL L O[j], h1, h2, h3 with
      | [], h1, _, _ => simp at h1
      | [y], h1, h2, _ => simp at h1 h2; exact hne (h1.trans h2.symm)
      | _ :: _ :: _, _, _, h3 => simp at h3
    have h1 := hpl hij rx nr
    have mx := (hfc.2.1 x).1 hxi
    rw [place_idx mx, place_idx (List.getElem_mem hj'), hidx j hj'] at h1
    have h2 : O.idxOf x ≠ j := fun e => hne (by
      have e1 := List.getElem_idxOf (List.idxOf_lt_length_of_mem mx)
      rw [← e1]; simp only [e])
    simp only [decide_eq_true_eq]
    rw [List.mem_take_iff_getElem]
    exact ⟨O.idxOf x, by have := List.idxOf_lt_length_of_mem mx; omega, List.getElem_idxOf _⟩
  | false =>
    cases ho : ordB l O 3 with
    | false => rfl
    | true =>
      exfalso
      have hlt : ∀ {b c : Int}, InR L b → Edge L b c → O.idxOf c < O.idxOf b := fun {b c} hb he => by
        have mb := (hfc.2.1 b).1 hb
        have hj := List.idxOf_lt_length_of_mem mb
        have hx : c ∈ L.getD (O.getD (O.idxOf b) 0).toNat [] := (hedge _ hj c).2 (by rw [List.getElem_idxOf]; exact he)
        have := ordB_at (i := O.idxOf b) ho (by omega) c (by rw [hL]; exact hx)
        rw [List.mem_take_iff_getElem] at this
        obtain ⟨i, hi, e⟩ := this
        rw [← e, hidx i (by omega)]; omega
      have hle : ∀ {a b : Int}, InR L a → Rch L a b → O.idxOf b ≤ O.idxOf a := fun {a b} ha r => by
        induction r with
        | refl => exact Nat.le_refl _
        | step r1 e ih => have h1 := hlt (r1.lt hg ha) e; omega
      have : roundB L = true := by
        simp only [roundB, decide_eq_true_eq]
        intro i hi
        refine ⟨?_, hself i hi⟩
        have hii : InR L (i : Int) := ⟨by omega, by omega⟩
        have hsub : ∀ x ∈ groupL L (i : Int), x ∈ [(i : Int)] := fun x hx => by
          obtain ⟨r1, r2⟩ := (mem_groupL hg hii).1 hx
          have hxi := r1.lt hg hii
          have h1 := hle hii r1
          have h2 := hle hxi r2
          have m1 := (hfc.2.1 x).1 hxi
          have m2 := (hfc.2.1 (i : Int)).1 hii
          have e1 := List.getElem_idxOf (List.idxOf_lt_length_of_mem m1)
          have e2 := List.getElem_idxOf (List.idxOf_lt_length_of_mem m2)
          have e3 : O.idxOf x = O.idxOf (i : Int) := by omega
          have : x = (i : Int) := by rw [← e1, ← e2]; simp only [e3]
          simp [this]
        have := sub_len ((groupL_rising L (i : Int)).imp fun h => by omega) hsub
        simpa using this
      rw [hr] at this; cases this
end GL

namespace GL
open Go

theorem l15Step_ok {h : Heap} {a b vl : V} {st td : List Int} {l : List Sp} {Fa Fb : List Nat} (ha : SdF h a st Fa) (hb : SdF h b td Fb) (hl : Sl h vl l) (oa : ∀ i ∈ Fa, OwnB h i) (ob : ∀ i ∈ Fb, OwnB h i) (hne : ∀ i ∈ Fa, i ∉ Fb) (ok : OkR l.length (st, td)) (hg : stepsP l l.length = true) {i : Nat} (hi : i < l.length) :
    ∃ r h', call p 769 [a, b, vl, vi i] h = some (r, h') ∧ r = .tup [] ∧ SdF h' a (stepR l (st, td) i).1 Fa ∧ SdF h' b (stepR l (st, td) i).2 Fb ∧ KeepsP (fun i => i ∉ Fa ∧ i ∉ Fb) h h' ∧ h'.length = h.length ∧ ∀ i, OwnB h i → OwnB h' i := by
  obtain ⟨o1, o2, o3, o4⟩ := ok
  simp only at o1 o2 o3 o4
  have hs := stepsP_at hg hi
  have i5 := hl.idx 5 .i64 i hi
  have l5 := hl.loadS i hi
  refine go (fn := g769) rfl rfl fun R hR => ?_
  simp only [stepR, Int.toNat_natCast, getD_in hi] at hR
  generalize l[i] = s at *
  obtain ⟨s1, s2, s3⟩ := hs
  have hc : 0 ≤ cellS s ∧ cellS s < (st.length : Int) := by unfold cellS; omega
  obtain ⟨ix, ld⟩ := idxI ha hc
  obtain ⟨iz, lz⟩ := idxI hb (k := (i : Int)) (by omega)
  simp only [Int.toNat_natCast] at iz
  have w1 : IntKind.i64.wrap (4 * s.shard) = 4 * s.shard := by rw [IntWalk.i64_in] <;> omega
  have w2 : IntKind.i64.wrap (4 * s.shard + s.key) = cellS s := by rw [IntWalk.i64_in] <;> first | rfl | omega
  have hib : i < td.length := by omega
  have hbF : bOf b ∈ Fb := hb.bIn hib
  have ha1 : ∀ {h1 : Heap}, KeepsP (fun i => i ≠ bOf b) h h1 → SdF h1 a st Fa := fun q => ha.keeps (q.mono fun i hi (e : i = bOf b) => hne i hi (e ▸ hbF))
  rcases s3 with ⟨k1, h3, h4⟩ | ⟨k2, h3, h4, h5⟩ | ⟨k3, h4, h5⟩
  · simp only [k1, if_true] at hR
    obtain ⟨h1, e1, q1, q2, q3, q4⟩ := hb.putI ob hib (st.getD (cellS s).toNat 0)
    have qa := ha1 q2
    generalize st.getD (cellS s).toNat 0 = x at *
    simp [g769, upd, i5, l5, k1, w1, w2, ix, ld, iz, e1]
    exact hR _ _ ⟨rfl, qa, q1, q2.mono fun i hi (e : i = bOf b) => hi.2 (e ▸ hbF), q3, q4⟩
  · obtain ⟨iy, le⟩ := idxI hb (k := s.src) (by omega)
    simp only [k2, show ¬ ((2 : Int) = 1) by decide, if_false, if_true] at hR
    have g := o4.getD s.src.toNat
    generalize td.getD s.src.toNat 0 = x at *
    have w3 : IntKind.i64.wrap (x + s.n) = x + s.n := by rw [IntWalk.i64_in] <;> omega
    have t := tmod_sm (x + s.n)
    have w4 : IntKind.i64.wrap ((x + s.n).tmod 1000) = (x + s.n).tmod 1000 := by rw [IntWalk.i64_in] <;> omega
    obtain ⟨h1, e1, q1, q2, q3, q4⟩ := hb.putI ob hib ((x + s.n).tmod 1000)
    have qa := ha1 q2
    simp [g769, upd, i5, l5, k2, w1, w2, iy, le, w3, w4, iz, e1]
    exact hR _ _ ⟨rfl, qa, q1, q2.mono fun i hi (e : i = bOf b) => hi.2 (e ▸ hbF), q3, q4⟩
  · obtain ⟨iy, le⟩ := idxI hb (k := s.src) (by omega)
    simp only [k3, show ¬ ((3 : Int) = 1) by decide, show ¬ ((3 : Int) = 2) by decide, if_false] at hR
    have hcl : (cellS s).toNat < st.length := by omega
    obtain ⟨h1, e1, q1, q2, q3, q4⟩ := ha.putI oa hcl (td.getD s.src.toNat 0)
    have haF : bOf a ∈ Fa := ha.bIn hcl
    have hb1 := hb.keeps (q2.mono fun i hi (e : i = bOf a) => hne _ haF (e ▸ hi))
    obtain ⟨_, le1⟩ := idxI hb1 (k := s.src) (by omega)
    obtain ⟨h2, e2, r1, r2, r3, r4⟩ := hb1.putI (fun i hi => q4 i (ob i hi)) hib (td.getD s.src.toNat 0)
    have q1' := q1.keeps (r2.mono fun i hi (e : i = bOf b) => hne i hi (e ▸ hbF))
    generalize td.getD s.src.toNat 0 = x at *
    simp [g769, upd, i5, l5, k3, w1, w2, ix, iy, le, e1, le1, iz, e2]
    exact hR _ _ ⟨rfl, q1', r1, (q2.mono fun i hi (e : i = bOf a) => hi.1 (e ▸ haF)).trans (r2.mono fun i hi (e : i = bOf b) => hi.2 (e ▸ hbF)), by omega, fun i hi => r4 i (q4 i hi)⟩

theorem NeedsOf_ok {h : Heap} {vl : V} {l : List Sp} (hl : Sl h vl l) (hll : l.length ≤ 2 ^ 40) :
    ∃ r h', call p 709 [vl] h = some (r, h') ∧ ∃ o F, r = .tup [o, .bool (stepsB l)] ∧ SdF h' o (if stepsB l = true then ndL l l.length else []) F ∧ Keeps h h' ∧ h.length ≤ h'.length := by
  have e1 := GoodSteps_eq hl hll
  refine go (fn := g709) rfl rfl fun R hR => ?_
  cases c2 : stepsB l with
  | false =>
    rw [c2] at e1
    simp only [c2] at hR
    simp [g709, e1]
    exact hR _ _ ⟨.nils, [], rfl, .nil, Keeps.refl _, Nat.le_refl _⟩
  | true =>
    rw [c2] at e1
    simp only [c2, if_true] at hR
    obtain ⟨o, h1, e2, F, s1, _, k1, l1⟩ := needs_ok hl c2
    simp [g709, e1, e2]
    exact hR _ _ ⟨o, F, rfl, s1, k1, l1⟩
theorem NeedsOfS_ok {h : Heap} {vl : V} {l : List Sp} (hl : Sl h vl l) (hll : l.length ≤ 2 ^ 40) :
    ∃ r h', call p 712 [vl] h = some (r, h') ∧ ∃ o F, r = .tup [o, .bool (stepsB l)] ∧ SdF h' o (if stepsB l = true then ndL l l.length else []) F ∧ (∀ i ∈ F, h.length ≤ i) ∧ Keeps h h' ∧ h.length ≤ h'.length := by
  have e1 := GoodStepsS_eq hl hll
  refine go (fn := g712) rfl rfl fun R hR => ?_
  cases c2 : stepsB l with
  | false =>
    rw [c2] at e1
    simp only [c2] at hR
    simp [g712, e1]
    exact hR _ _ ⟨.nils, [], rfl, .nil, by simp, Keeps.refl _, Nat.le_refl _⟩
  | true =>
    rw [c2] at e1
    simp only [c2, if_true] at hR
    obtain ⟨o, h1, e2, F, s1, f1, k1, l1⟩ := l15Needs_ok hl c2
    simp [g712, e1, e2]
    exact hR _ _ ⟨o, F, rfl, s1, f1, k1, l1⟩
noncomputable def spB (l : List Sp) : Bool := stepsB l && roundB (ndL l l.length)
theorem CanSplit_ok {h : Heap} {vl : V} {l : List Sp} (hl : Sl h vl l) (hll : l.length ≤ 2 ^ 40) :
    ∃ r h', call p 708 [vl] h = some (r, h') ∧ r = .tup [.bool (spB l), .bool (stepsB l)] ∧ Keeps h h' ∧ h.length ≤ h'.length := by
  have e1 := GoodSteps_eq hl hll
  refine go (fn := g708) rfl rfl fun R hR => ?_
  cases c2 : stepsB l with
  | false =>
    rw [c2] at e1
    simp only [spB, c2, Bool.false_and] at hR
    simp [g708, e1]
    exact hR _ _ ⟨rfl, Keeps.refl _, Nat.le_refl _⟩
  | true =>
    rw [c2] at e1
    simp only [spB, c2, Bool.true_and] at hR
    obtain ⟨o, h1, e2, F, s1, _, k1, l1⟩ := needs_ok hl c2
    obtain ⟨_, h2, e3, rfl, k2, l2⟩ := IsRoundless_ok s1
    rw [ndL_links, Bool.true_and] at e3
    simp [g708, e1, e2, e3]
    exact hR _ _ ⟨rfl, k1.trans k2, by omega⟩
theorem CanSplitS_ok {h : Heap} {vl : V} {l : List Sp} (hl : Sl h vl l) (hll : l.length ≤ 2 ^ 40) :
    ∃ r h', call p 711 [vl] h = some (r, h') ∧ r = .tup [.bool (spB l), .bool (stepsB l)] ∧ Keeps h h' ∧ h.length ≤ h'.length := by
  have e1 := GoodStepsS_eq hl hll
  refine go (fn := g711) rfl rfl fun R hR => ?_
  cases c2 : stepsB l with
  | false =>
    rw [c2] at e1
    simp only [spB, c2, Bool.false_and] at hR
    simp [g711, e1]
    exact hR _ _ ⟨rfl, Keeps.refl _, Nat.le_refl _⟩
  | true =>
    rw [c2] at e1
    simp only [spB, c2, Bool.true_and] at hR
    obtain ⟨o, h1, e2, F, s1, _, k1, l1⟩ := l15Needs_ok hl c2
    obtain ⟨_, h2, e3, rfl, k2, l2⟩ := IsRoundlessS_ok s1
    rw [ndL_links, Bool.true_and] at e3
    simp [g711, e1, e2, e3]
    exact hR _ _ ⟨rfl, k1.trans k2, by omega⟩

theorem RunStepsS_ok {h : Heap} {v0 vl : V} {st : List Int} {l : List Sp} (hs : Sl h v0 st) (hl : Sl h vl l) (hll : l.length ≤ 2 ^ 40) :
    ∃ r h', call p 707 [v0, vl] h = some (r, h') ∧ ∃ a b Fa Fb, r = .tup [a, b, .bool (runB l st)] ∧ SdF h' a (runR l st).1 Fa ∧ SdF h' b (runR l st).2 Fb ∧ Keeps h h' ∧ h.length ≤ h'.length := by
  have e1 := l15Store_eq hs
  have e2 := GoodStepsS_eq hl hll
  refine go (fn := g707) rfl rfl fun R hR => ?_
  cases c1 : storeB st with
  | false =>
    rw [c1] at e1
    have hb : runB l st = false := by simp [runB, c1]
    simp only [runR, hb] at hR
    simp [g707, e1]
    exact hR _ _ ⟨.nils, .nils, [], [], rfl, .nil, .nil, Keeps.refl _, Nat.le_refl _⟩
  | true =>
    rw [c1] at e1
    cases c2 : stepsB l with
    | false =>
      rw [c2] at e2
      have hb : runB l st = false := by simp [runB, c2]
      simp only [runR, hb] at hR
      simp [g707, e1, e2]
      exact hR _ _ ⟨.nils, .nils, [], [], rfl, .nil, .nil, Keeps.refl _, Nat.le_refl _⟩
    | true =>
      rw [c2] at e2
      have hb : runB l st = true := by simp [runB, c1, c2]
      simp only [runR, hb, if_true] at hR
      have c2' := c2
      simp only [stepsB, Bool.and_eq_true, decide_eq_true_eq] at c2'
      have c1' := c1
      simp only [storeB, Bool.and_eq_true, decide_eq_true_eq] at c1'
      have c4 : ((l.length : Int) * 8) ≤ (room : Int) := by unfold room; omega
      have c5 : (l.length : Int) ≤ (room : Int) := by unfold room; omega
      have kl : Keeps h (h ++ [⟨.own, []⟩]) := Keeps.append _ _
      obtain ⟨ys6, v6, h6, e6, e7, o6, k6, l6, b6⟩ := (Out.empty (α := Int) (lo := h.length) (h := h ++ [⟨.own, []⟩]) (b := h.length) (Nat.le_refl _) (by simp)).appT (hs.keeps kl) (bytes := 8) (by decide) (by simp; omega) (k := 1) rfl (n := st.length) rfl
      simp only [List.nil_append] at o6
      have k56 : Keeps h h6 := Keeps.far (n := h.length) kl k6 (Nat.le_refl _) fun i hi ⟨_, _, _, e⟩ => by cases e; omega
      simp at l6
      obtain ⟨Fa, sa, fa⟩ := o6.fr
      simp [g707, e1, e2, hs.len, e6, e7, hl.len, c4, c5, mtR]
      have e0 : List.replicate l.length (V.int IntKind.i64 0) = flats (List.replicate l.length (0 : Int)) := (flats_rep0 _).symm
      have kH : Keeps h6 (h6 ++ [⟨.own, List.replicate l.length (vi 0)⟩]) := Keeps.append _ _
      have slb := Sl.whole (h := h6 ++ [⟨.own, List.replicate l.length (vi 0)⟩]) (xs := List.replicate l.length (0 : Int)) (b := h6.length) (blk := ⟨.own, List.replicate l.length (vi 0)⟩) (.k l.length) (by simp) (by simp) e0 (by simp; omega)
      simp only [List.length_replicate] at slb
      obtain ⟨Fb, sb, hFb, _⟩ := slb.sdF (α := Int) (Nat.le_refl _)
      have hFb' : ∀ i ∈ Fb, i = h6.length := fun i hi => by have := (hFb i hi).1; simpa [bOf] using this
      have obb : OwnB (h6 ++ [⟨.own, List.replicate l.length (vi 0)⟩]) h6.length := ⟨_, by simp; rfl⟩
      have hne : ∀ i ∈ Fa, i ∉ Fb := fun i hi hm => by have := hFb' i hm; have := (fa.own i hi).lt; omega
      have sa2 := sa.keep kH
      have fa2 := fa.keeps (kH.p _)
      have hok0 := storeB_ok c1 l.length
      have lH : h6.length < (h6 ++ [(⟨.own, List.replicate l.length (vi 0)⟩ : Blk)]).length := by simp
      generalize hH : h6 ++ [({ st := Own.own, cells := List.replicate l.length (V.int IntKind.i64 0) } : Blk)] = H at *
      have hu : ∀ i, (upTo (i + 1)).foldl (stepR l) (st, List.replicate l.length 0) = stepR l ((upTo i).foldl (stepR l) (st, List.replicate l.length 0)) i := fun i => by rw [upTo_succ, List.foldl_append]; rfl
      refine Wc_upM (M := [9, 26, 27, 28, 29, 30, 31, 32, 33, 34]) rfl l.length (fun i s => i ≤ l.length ∧ s.σ 26 = .v (vi i) ∧ SdF s.h v6 ((upTo i).foldl (stepR l) (st, List.replicate l.length 0)).1 Fa ∧ SdF s.h (.slice h6.length 0 l.length (.k l.length)) ((upTo i).foldl (stepR l) (st, List.replicate l.length 0)).2 Fb ∧ (∀ i, OwnB H i → OwnB s.h i) ∧ KeepsP (fun i => i ∉ Fa ∧ i ∉ Fb) H s.h ∧ s.h.length = H.length) 0
        ⟨by omega, by simp, sa2, sb, fun _ h => h, KeepsP.refl _ _, rfl⟩ fun i s ⟨gi, g26, qa, qb, qo, qk, ql⟩ hM J hJ => ?_
      have kk : Keeps h s.h := Keeps.far (n := h.length) (k56.trans kH) qk (Nat.le_refl _) fun j hj => ⟨fun hm => by have := fa.ge j hm; omega, fun hm => by have := hFb' j hm; omega⟩
      by_cases hi : i < l.length
      · have hok := foldR_ok (l := l) (upTo i) hok0
        have hus := hu i
        have sti := hl.step hi
        obtain ⟨_, h1, e9, rfl, r1, r2, r3, r4, r5⟩ := l15Step_ok qa qb (hl.keeps kk) (fun i hi => qo i (fa2.own i hi)) (fun i hi => qo i (by rw [hFb' i hi]; exact obb)) hne hok c2'.1 hi
        simp [g707_0, hM, g26, hi, e9, sti]
        exact hJ _ hi ⟨hi, by simp, by rw [hus]; exact r1, by rw [hus]; exact r2, fun i hi => r5 i (qo i hi), qk.trans r3, by show h1.length = H.length; omega⟩
      · have : i = l.length := by omega
        subst this
        simp [g707_0, hM, g26]
        exact hR _ _ ⟨_, _, Fa, Fb, rfl, qa, qb, kk, by omega⟩
theorem drawCanSplit_ok {h : Heap} {v : V} {bs : List Byte} (hs : Sl h v bs) : ∃ r h', call p 710 [v] h = some (r, h') ∧ ∃ (l : List Sp), Sl h' r l ∧ l.length ≤ 12 ∧ Keeps h h' ∧ h.length ≤ h'.length := by
  obtain ⟨r, h1, e1, l, s1, hl, k1, l1⟩ := drawGoodSteps_ok hs
  refine go (fn := g710) rfl rfl fun R hR => ?_
  simp [g710, e1]
  exact hR _ _ ⟨l, s1, hl, k1, l1⟩
end GL

namespace GL
open Go

theorem pieceB_facts {l : List Sp} {st os : List Int} (h1 : storeB st = true) (h2 : stepsB l = true) (h3 : os.length = 3) (h4 : onceB 3 os = true) : pieceB l st os = ordB l os 3 := by simp [pieceB, h1, h2, h3, h4]
theorem allPc_take (l : List Sp) {os : List Int} {i : Nat} (hi : i < os.length) : allPc l (os.take (i + 1)) = allPc l (os.take i) ++ pcRow l l.length os[i].toNat := by
  rw [allPc, List.take_succ_eq_append_getElem hi, List.map_append, List.flatten_append]
  simp only [List.map_cons, List.map_nil, List.flatten_cons, List.flatten_nil, List.append_nil]; rfl
theorem allPc_len (l : List Sp) : ∀ os : List Int, (allPc l os).length ≤ l.length * os.length
  | [] => by simp [allPc]
  | k :: os => by
    have := allPc_len l os
    have h1 := pcRow_len l l.length k.toNat
    have e : allPc l (k :: os) = pcRow l l.length k.toNat ++ allPc l os := by simp [allPc]
    rw [e, List.length_append, List.length_cons, Nat.mul_succ]; omega
theorem allPc_in {l : List Sp} {os : List Int} {x : Int} (hx : x ∈ allPc l os) : 0 ≤ x ∧ x < l.length := by
  obtain ⟨r, hr, h⟩ := List.mem_flatten.1 hx
  obtain ⟨k, hk, rfl⟩ := List.mem_map.1 hr
  exact (pcRow_mem h).1

theorem RunPieces_ok {h : Heap} {v0 vl vo : V} {st os : List Int} {l : List Sp} {Fo : List Nat} (hs : Sl h v0 st) (hl : Sl h vl l) (ho : SdF h vo os Fo) (hll : l.length ≤ 2 ^ 40) :
    ∃ r h', call p 705 [v0, vl, vo] h = some (r, h') ∧ ∃ a b Fa Fb, r = .tup [a, b, .bool (pieceB l st os)] ∧ SdF h' a (pieceR l st os).1 Fa ∧ SdF h' b (pieceR l st os).2 Fb ∧ Keeps h h' ∧ h.length ≤ h'.length := by
  obtain ⟨_, h1, e1, rfl, k1, l1⟩ := isStore_ok hs
  have e2 := GoodSteps_eq (hl.keeps k1) hll
  refine go (fn := g705) rfl rfl fun R hR => ?_
  have bad : pieceB l st os = false → ∀ h', Keeps h h' → h.length ≤ h'.length → R (.tup [.nils, .nils, .bool false]) h' := fun hb h' hk hl => hR _ _ ⟨.nils, .nils, [], [], by rw [hb], by rw [pieceR, hb]; exact .nil, by rw [pieceR, hb]; exact .nil, hk, hl⟩
  cases c1 : storeB st with
  | false =>
    rw [c1] at e1
    simp [g705, e1]
    exact bad (by simp [pieceB, c1]) _ k1 l1
  | true =>
    rw [c1] at e1
    cases c2 : stepsB l with
    | false =>
      rw [c2] at e2
      simp [g705, e1, e2]
      exact bad (by simp [pieceB, c2]) _ k1 l1
    | true =>
      rw [c2] at e2
      by_cases c3 : os.length = 3
      · have c3i : (os.length : Int) = 3 := by omega
        obtain ⟨_, h2, e3, rfl, k2, l2⟩ := areOnce_ok (ho.sl.keeps k1) (by omega) 3 (by decide)
        cases c4 : onceB 3 os with
        | false =>
          rw [c4] at e3
          simp [g705, e1, e2, ho.len, c3i, e3]
          exact bad (by simp [pieceB, c4]) _ (k1.trans k2) (by omega)
        | true =>
          rw [c4] at e3
          have hpb := pieceB_facts c1 c2 c3 c4
          have c2' := c2
          simp only [stepsB, Bool.and_eq_true, decide_eq_true_eq] at c2'
          have c4' := c4
          simp only [onceB, decide_eq_true_eq] at c4'
          have k12 := k1.trans k2
          obtain ⟨vn, h3, e4, Fn, sn, fn, k3, l3⟩ := needs_ok (hl.keeps k12) c2
          obtain ⟨vp, h4, e5, Fp, sp, fp, k4, l4⟩ := pieces_ok (hl.keeps (k12.trans k3)) c2
          have kl : Keeps h4 (h4 ++ [⟨.own, []⟩]) := Keeps.append _ _
          have k14 := (k12.trans k3).trans k4
          have snn := ndL_len l l.length
          have spp := pcsL_len l l.length
          have hor : ∀ i (hi : i < os.length), 0 ≤ os[i] ∧ os[i] < 3 := fun i hi => by have := c4'.1 _ (List.getElem_mem hi); omega
          simp [g705, e1, e2, ho.len, c3i, e3, e4, e5]
          refine Wc_upM (M := [6, 7, 8, 11, 12, 13, 41, 42, 43, 44, 45, 46, 47, 48, 49, 50, 51, 52, 53, 54, 55, 56, 57, 58, 59, 60, 61]) rfl 3 (fun i s => i ≤ 3 ∧ s.σ 41 = .v (vi i) ∧ ordB l os i = true ∧ (∃ v, s.σ 11 = .v v ∧ Out h4.length s.h v (allPc l (os.take i))) ∧ Keeps h4 s.h ∧ h4.length ≤ s.h.length) 0
            ⟨by omega, by simp, by simp [ordB], ⟨.slice h4.length 0 0 (.k 0), by simp, by simpa [allPc] using Out.empty (Nat.le_refl _) (by simp)⟩, kl, by simp⟩ fun i s ⟨gi, g41, hor1, ⟨v, g11, so⟩, hk, hln⟩ hM J hJ => ?_
          by_cases hi : i < 3
          · have hi' : (i : Int) < 3 := by omega
            have hio : i < os.length := by omega
            have hot := (ho.keep k14).keep hk
            have ix := hot.idx 1 .i64 i hio
            simp only [Nat.mul_one] at ix
            have ld := hot.sl.loadI i hio
            have st' : IntKind.i64.wrap ((i : Int) + 1) = (i + 1 : Nat) := by rw [IntWalk.i64_in] <;> omega
            have hrg := hor i hio
            have hgd := getD_at hio 0
            have hat := allPc_take l hio
            obtain ⟨pu, Gp, ep, spre, _⟩ := hot.pre (i := i) (by omega)
            have hos := ordB_succ l os i
            have hof := @ordB_false l os i 3 hi
            rw [hgd] at hos hof
            generalize hx : os[i] = x at *
            obtain ⟨m, rfl⟩ : ∃ m : Nat, x = m := ⟨x.toNat, by omega⟩
            have hm3 : m < (ndL l l.length).length := by omega
            have hm4 : m < (pcsL l l.length).length := by omega
            obtain ⟨zn, Gn, ln, hzn, _⟩ := ((sn.keep k4).keep hk).loadL m hm3
            have inn := sn.idx 1 .i64 m hm3
            obtain ⟨zp, Gq, lp, hzp, _⟩ := (sp.keep hk).loadL m hm4
            have inp := sp.idx 1 .i64 m hm4
            simp only [Nat.mul_one] at inn inp
            simp only [Int.toNat_natCast, getD_in hm3] at hos hof hat
            obtain ⟨_, h5, e6, rfl, k5, l5⟩ := hasAll_ok spre.sl hzn.sl
            cases ha : (((ndL l l.length)[m]'hm3).all fun x => decide (x ∈ os.take i)) with
            | false =>
              rw [ha] at e6
              simp [g705_0, hM, g41, g11, c3i, hi, hi', ix, ld, bounds, takeB, ep, inn, ln, e6]
              exact bad (by rw [hpb]; exact hof ha) _ ((k14.trans hk).trans k5) (by omega)
            | true =>
              rw [ha] at e6
              have so5 : Out h4.length h5 v (allPc l (os.take i)) := so.keeps (k5.p fun _ => True) (fun _ _ => trivial) l5
              have lp5 := rdH_keep k5 lp
              have hzp5 := hzp.keep k5
              have hrow : (pcsL l l.length)[m]'hm4 = pcRow l l.length m := pcsL_get l l.length hm4
              have hrl := pcRow_len l l.length m
              have hal := allPc_len l (os.take i)
              rw [List.length_take] at hal
              have hal2 : (allPc l (os.take i)).length ≤ 30 := Nat.le_trans hal (Nat.le_trans (Nat.mul_le_mul c2'.2 (show min i os.length ≤ 3 by omega)) (by decide))
              rw [hrow] at hzp5
              obtain ⟨ys6, v6, h6, e7, e8, o6, k6, l6, _⟩ := so5.appT hzp5.sl (bytes := 8) (by decide) (by omega) (k := 1) rfl (n := (pcRow l l.length m).length) rfl
              rw [← hat] at o6
              simp [g705_0, hM, g41, g11, c3i, hi, hi', ix, ld, bounds, takeB, ep, inn, ln, e6, inp, lp5, hzp5.len, e7, e8, st', -Int.natCast_add]
              exact hJ _ hi ⟨hi, by simp, by rw [hos, hor1, ha]; rfl, ⟨v6, by simp, o6⟩, so5.far (hk.trans k5) k6 (Nat.le_refl _), by show h4.length ≤ h6.length; omega⟩
          · have : i = 3 := by omega
            subst this
            have htk : os.take 3 = os := by rw [← c3, List.take_length]
            rw [htk] at so
            have hb : pieceB l st os = true := by rw [hpb]; exact hor1
            simp only [pieceR, hb, if_true] at hR
            have kk := k14.trans hk
            obtain ⟨_, h5, e6, a, b, Fa, Fb, rfl, s1, s2, k5, l5⟩ := runAll_ok (hs.keeps kk) (hl.keeps kk) so.sl c1 c2 (fun x hx => allPc_in hx)
            simp [g705_0, hM, g41, g11, c3i, e6]
            exact hR _ _ ⟨a, b, Fa, Fb, rfl, s1, s2, kk.trans k5, by omega⟩
      · have c3i : ¬ (os.length : Int) = 3 := by omega
        simp [g705, e1, e2, ho.len, c3i]
        exact bad (by simp [pieceB, c3]) _ k1 l1
end GL

namespace GL
open Go

theorem RunPiecesS_ok {h : Heap} {v0 vl vo : V} {st os : List Int} {l : List Sp} {Fo : List Nat} (hs : Sl h v0 st) (hl : Sl h vl l) (ho : SdF h vo os Fo) (hll : l.length ≤ 2 ^ 40) :
    ∃ r h', call p 706 [v0, vl, vo] h = some (r, h') ∧ ∃ a b Fa Fb, r = .tup [a, b, .bool (pieceB l st os)] ∧ SdF h' a (pieceR l st os).1 Fa ∧ SdF h' b (pieceR l st os).2 Fb ∧ Keeps h h' ∧ h.length ≤ h'.length := by
  have e1 := l15Store_eq hs
  have e2 := GoodStepsS_eq hl hll
  refine go (fn := g706) rfl rfl fun R hR => ?_
  have bad : pieceB l st os = false → ∀ h', Keeps h h' → h.length ≤ h'.length → R (.tup [.nils, .nils, .bool false]) h' := fun hb h' hk hl => hR _ _ ⟨.nils, .nils, [], [], by rw [hb], by rw [pieceR, hb]; exact .nil, by rw [pieceR, hb]; exact .nil, hk, hl⟩
  cases c1 : storeB st with
  | false =>
    rw [c1] at e1
    simp [g706, e1]
    exact bad (by simp [pieceB, c1]) _ (Keeps.refl _) (Nat.le_refl _)
  | true =>
    rw [c1] at e1
    cases c2 : stepsB l with
    | false =>
      rw [c2] at e2
      simp [g706, e1, e2]
      exact bad (by simp [pieceB, c2]) _ (Keeps.refl _) (Nat.le_refl _)
    | true =>
      rw [c2] at e2
      by_cases c3 : os.length = 3
      · have c3i : (os.length : Int) = 3 := by omega
        have e3 := l14Once_eq ho 3 (by decide)
        cases c4 : onceB 3 os with
        | false =>
          rw [c4] at e3
          simp [g706, e1, e2, ho.len, c3i, e3]
          exact bad (by simp [pieceB, c4]) _ (Keeps.refl _) (Nat.le_refl _)
        | true =>
          rw [c4] at e3
          have hpb := pieceB_facts c1 c2 c3 c4
          have c2' := c2
          simp only [stepsB, Bool.and_eq_true, decide_eq_true_eq] at c2'
          have c1' := c1
          simp only [storeB, Bool.and_eq_true, decide_eq_true_eq] at c1'
          have c4' := c4
          simp only [onceB, decide_eq_true_eq] at c4'
          obtain ⟨vn, h3, e4, Fn, sn, fn, k3, l3⟩ := l15Needs_ok hl c2
          have snn := ndL_len l l.length
          have hor : ∀ i (hi : i < os.length), 0 ≤ os[i] ∧ os[i] < 3 := fun i hi => by have := c4'.1 _ (List.getElem_mem hi); omega
          have ho3 := ho.keep k3
          have c4r : ((l.length : Int) * 8) ≤ (room : Int) := by unfold room; omega
          have c5r : (l.length : Int) ≤ (room : Int) := by unfold room; omega
          simp [g706, e1, e2, ho.len, c3i, e3, e4]
          refine Wc_upM (M := [6, 7, 8, 10, 11, 40, 41, 42, 43, 44, 45, 46, 47, 48, 49, 50, 51, 52, 53, 54]) rfl 3 (fun i s => i ≤ 3 ∧ s.σ 40 = .v (vi i) ∧ ordB l os i = true ∧ s.h = h3) 0
            ⟨by omega, by simp, by simp [ordB], by simp⟩ fun i s ⟨gi, g40, hor1, gh⟩ hM J hJ => ?_
          by_cases hi : i < 3
          · have hi' : (i : Int) < 3 := by omega
            have hio : i < os.length := by omega
            have ix := ho3.idx 1 .i64 i hio
            simp only [Nat.mul_one] at ix
            have ld := ho3.sl.loadI i hio
            have st' : IntKind.i64.wrap ((i : Int) + 1) = (i + 1 : Nat) := by rw [IntWalk.i64_in] <;> omega
            have hrg := hor i hio
            have hgd := getD_at hio 0
            obtain ⟨pu, Gp, ep, spre, _⟩ := ho3.pre (i := i) (by omega)
            have hos := ordB_succ l os i
            have hof := @ordB_false l os i 3 hi
            rw [hgd] at hos hof
            generalize hx : os[i] = x at *
            obtain ⟨m, rfl⟩ : ∃ m : Nat, x = m := ⟨x.toNat, by omega⟩
            have hm3 : m < (ndL l l.length).length := by omega
            obtain ⟨zn, Gn, ln, hzn, _⟩ := sn.loadL m hm3
            have inn := sn.idx 1 .i64 m hm3
            simp only [Nat.mul_one] at inn
            simp only [Int.toNat_natCast, getD_in hm3] at hos hof
            have e6 := l5Sub_eq hzn.sl spre.sl
            cases ha : (((ndL l l.length)[m]'hm3).all fun x => decide (x ∈ os.take i)) with
            | false =>
              rw [ha] at e6
              simp [g706_0, hM, g40, gh, c3i, hi, hi', ix, ld, bounds, takeB, ep, inn, ln, e6]
              exact bad (by rw [hpb]; exact hof ha) _ k3 l3
            | true =>
              rw [ha] at e6
              simp [g706_0, hM, g40, gh, c3i, hi, hi', ix, ld, bounds, takeB, ep, inn, ln, e6, st', -Int.natCast_add]
              exact hJ _ hi ⟨hi, by simp, by rw [hos, hor1, ha]; rfl, rfl⟩
          · have : i = 3 := by omega
            subst this
            have hb : pieceB l st os = true := by rw [hpb]; exact hor1
            simp only [pieceR, hb, if_true] at hR
            have kl : Keeps h3 (h3 ++ [⟨.own, []⟩]) := Keeps.append _ _
            obtain ⟨ys6, v6, h6, e6, e7, o6, k6, l6, b6⟩ := (Out.empty (α := Int) (lo := h3.length) (h := h3 ++ [⟨.own, []⟩]) (b := h3.length) (Nat.le_refl _) (by simp)).appT ((hs.keeps k3).keeps kl) (bytes := 8) (by decide) (by simp; omega) (k := 1) rfl (n := st.length) rfl
            simp only [List.nil_append] at o6
            have k56 : Keeps h3 h6 := Keeps.far (n := h3.length) kl k6 (Nat.le_refl _) fun i hi ⟨_, _, _, e⟩ => by cases e; omega
            simp at l6
            obtain ⟨Fa, sa, fa⟩ := o6.fr
            simp [g706_0, hM, g40, gh, c3i, hs.len, e6, e7, hl.len, c4r, c5r, mtR, ho.len]
            have e0 : List.replicate l.length (V.int IntKind.i64 0) = flats (List.replicate l.length (0 : Int)) := (flats_rep0 _).symm
            have kH : Keeps h6 (h6 ++ [⟨.own, List.replicate l.length (vi 0)⟩]) := Keeps.append _ _
            have slb := Sl.whole (h := h6 ++ [⟨.own, List.replicate l.length (vi 0)⟩]) (xs := List.replicate l.length (0 : Int)) (b := h6.length) (blk := ⟨.own, List.replicate l.length (vi 0)⟩) (.k l.length) (by simp) (by simp) e0 (by simp; omega)
            simp only [List.length_replicate] at slb
            obtain ⟨Fb, sb, hFb, _⟩ := slb.sdF (α := Int) (Nat.le_refl _)
            have hFb' : ∀ i ∈ Fb, i = h6.length := fun i hi => by have := (hFb i hi).1; simpa [bOf] using this
            have obb : OwnB (h6 ++ [⟨.own, List.replicate l.length (vi 0)⟩]) h6.length := ⟨_, by simp; rfl⟩
            have hne : ∀ i ∈ Fa, i ∉ Fb := fun i hi hm => by have := hFb' i hm; have := (fa.own i hi).lt; omega
            have sa2 := sa.keep kH
            have fa2 := fa.keeps (kH.p _)
            have hok0 := storeB_ok c1 l.length
            have lH : h6.length < (h6 ++ [(⟨.own, List.replicate l.length (vi 0)⟩ : Blk)]).length := by simp
            generalize hH : h6 ++ [({ st := Own.own, cells := List.replicate l.length (V.int IntKind.i64 0) } : Blk)] = H at *
            have hkk : ∀ (hh : Heap), KeepsP (fun i => i ∉ Fa ∧ i ∉ Fb) H hh → Keeps h hh := fun hh qk => Keeps.far (n := h.length) ((k3.trans k56).trans kH) qk (Nat.le_refl _) fun j hj => ⟨fun hm => by have := fa.ge j hm; omega, fun hm => by have := hFb' j hm; omega⟩
            refine Wc_upM (M := [15, 16, 17, 63, 64, 65, 66, 67, 68, 69, 70, 71, 72, 73, 74, 75, 76, 77, 78, 79, 80, 81, 82, 83, 84]) rfl 3 (fun i s => i ≤ 3 ∧ s.σ 63 = .v (vi i) ∧ SdF s.h v6 ((allPc l (os.take i)).foldl (stepR l) (st, List.replicate l.length 0)).1 Fa ∧ SdF s.h (.slice h6.length 0 l.length (.k l.length)) ((allPc l (os.take i)).foldl (stepR l) (st, List.replicate l.length 0)).2 Fb ∧ (∀ i, OwnB H i → OwnB s.h i) ∧ KeepsP (fun i => i ∉ Fa ∧ i ∉ Fb) H s.h ∧ s.h.length = H.length) 0
              ⟨by omega, by simp, by simpa [allPc] using sa2, by simpa [allPc] using sb, fun _ h => h, KeepsP.refl _ _, rfl⟩ fun i t ⟨gi, g63, qa, qb, qo, qk, ql⟩ hM2 J2 hJ2 => ?_
            by_cases hi2 : i < 3
            · have hi' : (i : Int) < 3 := by omega
              have hio : i < os.length := by omega
              have hot := ho.keep (hkk _ qk)
              have ix := hot.idx 1 .i64 i hio
              simp only [Nat.mul_one] at ix
              have ld := hot.sl.loadI i hio
              have st' : IntKind.i64.wrap ((i : Int) + 1) = (i + 1 : Nat) := by rw [IntWalk.i64_in] <;> omega
              have hrg := hor i hio
              have hat := allPc_take l hio
              generalize hx : os[i] = x at *
              obtain ⟨m, rfl⟩ : ∃ m : Nat, x = m := ⟨x.toNat, by omega⟩
              simp only [Int.toNat_natCast] at hat
              simp [g706_2, hM2, hM, g63, c3i, hi2, hi', ix, ld, hl.len]
              refine Wc_upM (M := [16, 17, 69, 70, 71, 72, 73, 74, 75, 76, 77, 78, 79, 80, 81, 82, 83]) rfl l.length (fun j s => j ≤ l.length ∧ s.σ 69 = .v (vi j) ∧ SdF s.h v6 ((allPc l (os.take i) ++ pcRow l j m).foldl (stepR l) (st, List.replicate l.length 0)).1 Fa ∧ SdF s.h (.slice h6.length 0 l.length (.k l.length)) ((allPc l (os.take i) ++ pcRow l j m).foldl (stepR l) (st, List.replicate l.length 0)).2 Fb ∧ (∀ i, OwnB H i → OwnB s.h i) ∧ KeepsP (fun i => i ∉ Fa ∧ i ∉ Fb) H s.h ∧ s.h.length = H.length) 0
                ⟨by omega, by simp, by simpa [pcRow, upTo] using qa, by simpa [pcRow, upTo] using qb, qo, qk, ql⟩ fun j u ⟨gj, g69, ra, rb, ro, rk, rl⟩ hM3 J3 hJ3 => ?_
              by_cases hj : j < l.length
              · have kk := hkk _ rk
                have iy := hl.idx 5 .i64 j hj
                have le := (hl.keeps kk).loadS j hj
                have stj := hl.step hj
                have hok := foldR_ok (l := l) (allPc l (os.take i) ++ pcRow l j m) hok0
                have hsu := pcRow_succ l j m
                rw [getD_in hj] at hsu
                obtain ⟨_, h1, e9, rfl, r1, r2, r3, r4, r5⟩ := l15Step_ok ra rb (hl.keeps kk) (fun i hi => ro i (fa2.own i hi)) (fun i hi => ro i (by rw [hFb' i hi]; exact obb)) hne hok c2'.1 hj
                by_cases hsh : l[j].shard = (m : Int)
                · rw [if_pos hsh] at hsu
                  have hfo : (allPc l (os.take i) ++ pcRow l (j + 1) m).foldl (stepR l) (st, List.replicate l.length 0) = stepR l ((allPc l (os.take i) ++ pcRow l j m).foldl (stepR l) (st, List.replicate l.length 0)) j := by
                    rw [hsu, ← List.append_assoc, List.foldl_append]; rfl
                  generalize l[j] = sx at *
                  obtain ⟨sk, ss, sy, sr, sn'⟩ := sx
                  simp only at hsh
                  subst hsh
                  simp [g706_1, hM3, hM2, hM, g69, hj, iy, le, upd, e9, stj]
                  exact hJ3 _ hj ⟨hj, by simp, by rw [hfo]; exact r1, by rw [hfo]; exact r2, fun i hi => r5 i (ro i hi), rk.trans r3, by show h1.length = H.length; omega⟩
                · rw [if_neg hsh] at hsu
                  generalize l[j] = sx at *
                  obtain ⟨sk, ss, sy, sr, sn'⟩ := sx
                  simp only at hsh
                  simp [g706_1, hM3, hM2, hM, g69, hj, iy, le, upd, hsh, stj]
                  exact hJ3 _ hj ⟨hj, by simp, by rw [hsu]; exact ra, by rw [hsu]; exact rb, ro, rk, rl⟩
              · have : j = l.length := by omega
                subst this
                rw [← hat] at ra rb
                simp [g706_1, hM3, hM2, hM, g69, g63, st', -Int.natCast_add]
                exact hJ2 _ hi2 ⟨hi2, by simp, ra, rb, ro, rk, rl⟩
            · have : i = 3 := by omega
              subst this
              have htk : os.take 3 = os := by rw [← c3, List.take_length]
              rw [htk] at qa qb
              simp [g706_2, hM2, hM, g63, c3i]
              exact hR _ _ ⟨_, _, Fa, Fb, rfl, qa, qb, hkk _ qk, by omega⟩
      · have c3i : ¬ (os.length : Int) = 3 := by omega
        simp [g706, e1, e2, ho.len, c3i]
        exact bad (by simp [pieceB, c3]) _ (Keeps.refl _) (Nat.le_refl _)
end GL

