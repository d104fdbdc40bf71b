import Derived.ChangeArms
import Derived.IntWalk
import Derived.WideShapes
import Derived.Test.YtpmpdfpgkcagnaaGuFnShrunkA
/- What the functions of the law do, on the machine. -/
set_option linter.unusedSimpArgs false
set_option linter.unusedVariables false
namespace GL
open Go

theorem hasAll_ok {h : Heap} {v w : V} {as bs : List Int} (hs : Sl h v as) (ht : Sl h w bs) : ∃ r h', call p 552 [v, w] h = some (r, h') ∧ r = .bool (bs.all fun n => decide (n ∈ as)) ∧ Keeps h h' ∧ h.length ≤ h'.length := by
  have k0 : Keeps h (h ++ [⟨.own, [v]⟩]) := Keeps.append _ _
  have hb0 : (h ++ [⟨.own, [v]⟩])[h.length]? = some ⟨.own, [v]⟩ := get_last _ _
  have r0 : rdH (h ++ [⟨.own, [v]⟩]) h.length 0 1 = some [v] := by rw [rdH_at hb0 (by simp)]; rfl
  have e1 := containsFh_eq (ht.keeps k0) 572 [.ptr h.length 0] (fun n => !decide (n ∈ as)) fun n => by
    refine go_eq (fn := g572) rfl rfl fun R hR => ?_
    simp [g572, r0, containsI_eq (hs.keeps k0)]; simpa using hR
  have ea : (bs.any fun n => !decide (n ∈ as)) = !(bs.all fun n => decide (n ∈ as)) := by rw [List.not_all_eq_any_not]
  rw [ea] at e1
  generalize (bs.all fun n => decide (n ∈ as)) = q at e1 ⊢
  refine go (fn := g552) rfl rfl fun R hR => ?_
  simp [g552, hs.cells, hs.cell, e1]
  exact hR _ _ ⟨rfl, k0, by simp⟩

theorem Out.mono {α : Type} [Flat α] {lo lo' : Nat} {h : Heap} {v : V} {xs : List α} (o : Out lo' h v xs) (hl : lo ≤ lo') : Out lo h v xs := by
  obtain ⟨h1, h2, ⟨rfl, rfl⟩ | ⟨b, rfl, hb, h3⟩ | ⟨b, rfl, rfl, h3, h4⟩⟩ := o
  · exact ⟨h1, by omega, .inl ⟨rfl, rfl⟩⟩
  · exact ⟨h1, by omega, .inr (.inl ⟨b, rfl, hb, by omega⟩)⟩
  · exact ⟨h1, by omega, .inr (.inr ⟨b, rfl, rfl, by omega, h4⟩)⟩

theorem l9Group_ok {h : Heap} {v : V} {l : List (List Int)} {F : List Nat} (hs : SdF h v l F) (hg : linksB l = true) (a : Int) (ha : InR l a) :
    ∃ r h', call p 562 [v, vi a] h = some (r, h') ∧ Out h.length h' r (groupL l a) ∧ Keeps h h' ∧ h.length ≤ h'.length := by
  obtain ⟨r, h1, e1, G, s1, k1, l1⟩ := l9Reach_ok hs hg a ha
  have hlen := reachL_len hg ha
  obtain ⟨g12, _⟩ := linksB_facts hg
  refine go (fn := g562) rfl rfl fun R hR => ?_
  simp [g562, e1, s1.len]
  refine Wc_upM (M := [5, 7, 12, 13, 14, 15, 16, 17, 18, 19, 20, 21, 22, 23, 24, 25]) rfl (reachL l a).length (fun i s => s.σ 12 = .v (vi i) ∧ ∃ v5, s.σ 5 = .v v5 ∧ Out h1.length s.h v5 (((reachL l a).take i).filter fun b => decide (a ∈ reachL l b)) ∧ Keeps h1 s.h ∧ h1.length ≤ s.h.length) 0
    ⟨by simp, .nils, by simp, by simpa using Out.nil (Nat.le_refl _), Keeps.refl _, Nat.le_refl _⟩ fun i s ⟨g12', v5, g5, ho, hk, hl⟩ hM J hJ => ?_
  by_cases hn : i < (reachL l a).length
  · have s1' := s1.keep hk
    have ht := List.take_succ_eq_append_getElem hn
    have hin : InR l (reachL l a)[i] := ((mem_reachL hg ha).1 (List.getElem_mem hn)).lt hg ha
    obtain ⟨r2, h2, e2, G2, s2, k2, l2⟩ := l9Reach_ok ((hs.keep k1).keep hk) hg _ hin
    have e3 := l1Has_eq s2.sl a
    have ho2 : Out h1.length h2 v5 _ := ho.keeps (k2.p fun _ => True) (fun _ _ => trivial) l2
    by_cases hm : a ∈ reachL l (reachL l a)[i]
    · rw [decide_eq_true hm] at e3
      have hle : (((reachL l a).take i).filter fun b => decide (a ∈ reachL l b)).length ≤ 2 ^ 20 := Nat.le_trans (List.length_filter_le ..) (by simp; omega)
      obtain ⟨v6, h3, e4, o3, k3, l3⟩ := ho2.one (reachL l a)[i] hle
      have s1'' := s1'.sl.loadI i hn
      have ij := s1'.idx 1 .i64 i hn
      simp only [Nat.mul_one] at ij
      simp [g562_0, hM, g12', g5, hn, ij, s1'', e2, e3, fillL, rdS_last, e4, s1.step hn]
      refine hJ _ hn ⟨by simp, v6, by simp, ?_, ho2.far (hk.trans k2) k3 (Nat.le_refl _), by show h1.length ≤ h3.length; omega⟩
      rw [ht, List.filter_append]; simpa [hm] using o3
    · rw [decide_eq_false hm] at e3
      have s1'' := s1'.sl.loadI i hn
      have ij := s1'.idx 1 .i64 i hn
      simp only [Nat.mul_one] at ij
      simp [g562_0, hM, g12', g5, hn, ij, s1'', e2, e3, s1.step hn]
      refine hJ _ hn ⟨by simp, v5, by simp [g5], ?_, hk.trans k2, by show h1.length ≤ h2.length; omega⟩
      rw [ht, List.filter_append]; simpa [hm] using ho2
  · rw [List.take_of_length_le (by omega)] at ho
    simp [g562_0, hM, g12', g5, hn]
    exact hR _ _ ⟨ho.mono l1, k1.trans hk, by omega⟩
/-- one of a list of lists of one's own is taken out, in place -/
theorem deleteL_ok {h : Heap} {b off n : Nat} {l : List (List Int)} {F : List Nat} (hs : SdF h (.slice b off n (.o 1)) l F) (hn : b ∉ F.tail) (ho : OwnB h b) {i : Nat} (hi : i < l.length) (hl : l.length ≤ 2 ^ 20) :
    ∃ r h', call p 575 [.slice b off n (.o 1), vi i, vi (i + 1 : Nat)] h = some (r, h') ∧ ∃ F', r = .slice b off (n - 1) (.o 1) ∧ SdF h' r (l.take i ++ l.drop (i + 1)) F' ∧ (∀ c ∈ F', c ∈ F) ∧ b ∉ F'.tail ∧ (F.Nodup → F'.Nodup) ∧ OwnB h' b ∧ KeepsP (fun c => c ≠ b) h h' ∧ h'.length = h.length := by
  have hs0 := hs
  obtain ⟨hbd, ⟨e, _⟩ | ⟨b', off', cap, e, hcap, hs⟩⟩ := hs
  · cases e
  injection e with e1 e2 e3 e4
  subst e1; subst e2; subst e4
  have hnl : n = l.length := by omega
  subst hnl
  rcases hs with ⟨rfl, _⟩ | ⟨blk, cs, G, rfl, hb, hlv, hc, hr⟩
  · simp at hi
  obtain ⟨ds, hd⟩ := ho
  rw [hd] at hb; cases hb
  have hbG : b ∉ G := by simpa using hn
  have hcl := hr.len
  rw [show l.length * Data.sz (List Int) = l.length from Nat.mul_one _] at hc hcl
  have hoff : off + l.length ≤ ds.length := by
    unfold cut at hc; split at hc
    · assumption
    · cases hc
  have hcs : (ds.drop off).take l.length = cs := by
    unfold cut at hc; rw [if_pos hoff] at hc; exact Option.some.inj hc
  obtain ⟨F1, F2, F3, hG, r2, r1, r3⟩ := hr.get i hi
  rw [show i * Data.sz (List Int) = i from Nat.mul_one _] at r1 r2
  rw [show (i + 1) * Data.sz (List Int) = i + 1 from Nat.mul_one _] at r3
  have hblt := get_lt hd
  obtain ⟨n, hn0⟩ : ∃ n, n = l.length := ⟨_, rfl⟩
  rw [← hn0] at hi hl hc hcl hoff hcs hbd ⊢
  -- what is laid
  have hdl : (cs.drop (i + 1)).length = n - (i + 1) := by simp; omega
  obtain ⟨ds', hds'⟩ : ∃ x, x = ds.take (off + i) ++ cs.drop (i + 1) ++ ds.drop (off + i + (n - (i + 1))) := ⟨_, rfl⟩
  have hl1 : ds'.length = ds.length := by rw [hds']; simp; omega
  have c13 : slcV 1 (.slice b off n (.o 1)) (some i) (some (i + 1)) (some n) = some (.slice b (if n = i then off else off + i * 1) (i + 1 - i) (.k (n - i))) := by
    simp only [slcV, Option.getD_some]; rw [if_pos ⟨by omega, by omega, Nat.le_refl _⟩]
  have c22 : slcV 1 (.slice b off n (.o 1)) none (some i) none = some (.slice b (off + 0 * 1) (i - 0) (.o 1)) := by
    simp only [slcV, Option.getD_some, Option.getD_none]; rw [if_pos ⟨trivial, by omega, by omega⟩]
  have c25 : slcV 1 (.slice b off n (.o 1)) (some (i + 1)) none none = some (.slice b (off + (i + 1) * 1) (n - (i + 1)) (.o 1)) := by
    simp only [slcV, Option.getD_some, Option.getD_none]; rw [if_pos ⟨trivial, by omega, by omega⟩]
  have hrd : rdS h 1 (.slice b (off + (i + 1) * 1) (n - (i + 1)) (.o 1)) (n - (i + 1)) = some (cs.drop (i + 1)) := by
    simp only [rdS, Nat.le_refl, if_true]
    split
    · rename_i h0
      rw [List.drop_of_length_le (by omega)]
    · simp only [rdH, hd, cut]
      rw [if_neg (by simp), if_pos (by omega), ← hcs, List.drop_take, List.drop_drop]
      simp
  obtain ⟨h1, e26, d1, k1, l1⟩ : ∃ h1, appH 1 24 (.slice b (off + 0 * 1) (i - 0) (.o 1)) (n - (i + 1)) (cs.drop (i + 1)) h = some (.slice b off (n - 1) (.o 1), h1) ∧ h1[b]? = some ⟨.own, ds'⟩ ∧ KeepsP (fun c => c ≠ b) h h1 ∧ h1.length = h.length := by
    by_cases h0 : n - (i + 1) = 0
    · refine ⟨h, ?_, ?_, KeepsP.refl _ _, rfl⟩
      · rw [h0]; simp [appH, lenV_s]; omega
      · rw [hd, hds', List.drop_of_length_le (by omega), h0]; simp
    · refine ⟨h.set b ⟨.own, ds'⟩, ?_, by simp [hblt], fun c blk hc hb2 _ => by rw [List.getElem?_set_ne (Ne.symm hc)]; exact hb2, by simp⟩
      simp only [appH, hd]
      rw [if_neg h0, if_pos ⟨trivial, trivial, by decide⟩, if_pos (by omega), wrH_at hd rfl]
      have : lay ds (off + 0 * 1 + (i - 0) * 1) (cs.drop (i + 1)) = some ds' := by
        unfold lay; rw [if_pos (by omega), hdl, hds']; simp
      rw [this]
      simp only [Option.bind_some, Option.some.injEq, Prod.mk.injEq, V.slice.injEq, and_true, true_and]
      omega
  have e31 : rop (.sliceX 1) [.v (.slice b off (n - 1) (.o 1)), .v (.int .i64 ((n - 1 : Nat) : Int)), .v (.int .i64 (n : Int))] h1 = some (.slice b (off + (n - 1) * 1) (n - (n - 1)) (.o 1)) := by
    simp only [rop, natV_i, d1]
    rw [if_pos (by omega), if_pos (by omega)]
    simp only [Option.bind_some, Int.toNat_natCast]
    rw [if_pos ⟨trivial, by omega, trivial, by decide, by omega⟩]
  obtain ⟨ds2, hds2⟩ : ∃ x, x = ds'.take (off + (n - 1)) ++ [V.nils] ++ ds'.drop (off + (n - 1) + 1) := ⟨_, rfl⟩
  have h1lt : b < h1.length := by omega
  have e32 : eop (call p) (.clear 1 [.nils]) [.v (.slice b (off + (n - 1) * 1) (n - (n - 1)) (.o 1))] h1 = some (.tup [], h1.set b ⟨.own, ds2⟩) := by
    rw [eop_clear, if_neg (by omega), show n - (n - 1) = 1 by omega]
    simp only [List.replicate, List.flatten_cons, List.flatten_nil, List.append_nil]
    rw [wrH_at d1 rfl]
    have : lay ds' (off + (n - 1) * 1) [V.nils] = some ds2 := by
      unfold lay; rw [if_pos (by simp; omega), hds2]; simp
    rw [this]; rfl
  have hl2 : ds2.length = ds.length := by rw [hds2]; simp; omega
  have htk : ds2.take (off + (n - 1)) = ds.take (off + i) ++ cs.drop (i + 1) := by
    rw [hds2, List.append_assoc, List.take_append_of_le_length (by simp; omega), List.take_take, Nat.min_self, hds', List.take_append_of_le_length (by simp; omega), List.take_of_length_le (by simp; omega)]
  have hcut : cut ds2 off (n - 1) = some (cs.take i ++ cs.drop (i + 1)) := by
    unfold cut
    rw [if_pos (by omega)]
    have e : (ds2.drop off).take (n - 1) = (ds2.take (off + (n - 1))).drop off := by
      rw [List.drop_take]; congr 1; omega
    rw [e, htk, List.drop_append_of_le_length (by simp; omega), List.drop_take, ← hcs, List.take_take]
    congr 3; omega
  have kk : KeepsP (fun c => c ≠ b) h (h1.set b ⟨.own, ds2⟩) := k1.trans fun c blk hc hb2 _ => by rw [List.getElem?_set_ne (Ne.symm hc)]; exact hb2
  simp only [Nat.zero_mul, Nat.add_zero, Nat.sub_zero, Nat.mul_one] at c13 c22 c25 hrd e26 e31 e32
  have w1 : ¬ (i : Int) = ((i + 1 : Nat) : Int) := by omega
  refine go (fn := g575) rfl rfl fun R hR => ?_
  simp [g575, bounds, takeB, c13, c22, c25, w1, hrd, e26, e31, e32, -Int.natCast_add]
  have hsub : ∀ c ∈ F1 ++ F3, c ∈ G := fun c hc => by rw [hG]; simp at hc ⊢; rcases hc with h | h <;> simp [h]
  have hkG : KeepsP (fun c => c ∈ F1 ++ F3) h (h1.set b ⟨.own, ds2⟩) := kk.mono fun c hc e => hbG (by rw [← e]; exact hsub c hc)
  refine hR _ _ ⟨b :: (F1 ++ F3), rfl, ⟨by simp; omega, .inr ⟨b, off, .o 1, by simp; omega, rfl, .inr ⟨⟨.own, ds2⟩, cs.take i ++ cs.drop (i + 1), F1 ++ F3, rfl, by simp [h1lt], by simp, ?_, (r1.append r3).keeps hkG⟩⟩⟩, fun c hc => ?_, ?_, fun hnd => ?_, ⟨ds2, by simp [h1lt]⟩, kk, by simp; omega⟩
  · rw [show (l.take i ++ l.drop (i + 1)).length * Data.sz (List Int) = n - 1 by rw [show Data.sz (List Int) = 1 from rfl]; simp; omega]
    exact hcut
  · rcases List.mem_cons.1 hc with rfl | h
    · simp
    · exact List.mem_cons_of_mem _ (hsub c h)
  · simpa using fun h => hbG (hsub b h)
  · rw [List.nodup_cons] at hnd ⊢
    refine ⟨fun h => hbG (hsub b h), ?_⟩
    rw [hG, List.append_assoc, List.nodup_append] at hnd
    have h2 := List.nodup_append.1 hnd.2.2.1
    rw [List.nodup_append]
    exact ⟨hnd.2.1, h2.2.1, fun a ha b hb => hnd.2.2.2 a ha b (List.mem_append_right _ hb)⟩
end GL

namespace GL
open Go

noncomputable def reps (l : List (List Int)) : List Int := (nodes l).filter fun k => decide ((groupL l k)[0]? = some k)
noncomputable def leftK (l : List (List Int)) (done : List Int) : List Int := (reps l).filter fun k => decide (k ∉ done)
noncomputable def leftL (l : List (List Int)) (done : List Int) : List (List Int) := (leftK l done).map (groupL l)
noncomputable def ownQ (l : List (List Int)) (done : List Int) (own : List Int) : Bool := match own with
  | [] => false
  | a :: _ => (reachL l a).all fun n => decide (n ∈ done ++ own)
theorem rising_head {xs : List Int} (hr : xs.Pairwise (· < ·)) {k : Int} (hk : k ∈ xs) : xs[0]? = some k ↔ ∀ b ∈ xs, k ≤ b := by
  cases xs with
  | nil => cases hk
  | cons a r =>
    rw [List.pairwise_cons] at hr
    simp only [List.getElem?_cons_zero, Option.some.injEq]
    constructor
    · rintro rfl b hb
      rcases List.mem_cons.1 hb with rfl | hb
      · exact Int.le_refl _
      · exact Int.le_of_lt (hr.1 b hb)
    · intro h
      have h1 := h a (by simp)
      rcases List.mem_cons.1 hk with h2 | h2
      · exact h2.symm
      · have := hr.1 k h2; omega
theorem leftK_rising (l : List (List Int)) (done : List Int) : (leftK l done).Pairwise (· < ·) := ((nodes_rising l).filter _).filter _
section
variable {l : List (List Int)} (hg : linksB l = true)
include hg
theorem mem_leftK {done : List Int} {k : Int} : k ∈ leftK l done ↔ InR l k ∧ k ∉ done ∧ ∀ b ∈ groupL l k, k ≤ b := by
  simp only [leftK, reps, List.mem_filter, mem_nodes, decide_eq_true_eq]
  constructor
  · rintro ⟨⟨h1, h2⟩, h3⟩
    exact ⟨h1, h3, (rising_head (groupL_rising l k) (self_groupL hg h1)).1 h2⟩
  · rintro ⟨h1, h2, h3⟩
    exact ⟨⟨h1, (rising_head (groupL_rising l k) (self_groupL hg h1)).2 h3⟩, h2⟩
theorem ownQ_eq {done : List Int} {k : Int} (hk : k ∈ leftK l done) : ownQ l done (groupL l k) = true ↔ readyB l done k := by
  obtain ⟨h1, h2, h3⟩ := (mem_leftK hg).1 hk
  have h4 := (rising_head (groupL_rising l k) (self_groupL hg h1)).2 h3
  unfold readyB
  cases he : groupL l k with
  | nil => rw [he] at h4; simp at h4
  | cons a r =>
    rw [he] at h4; simp at h4; subst h4
    simp only [ownQ, List.all_eq_true, decide_eq_true_eq, List.mem_append]
theorem left_next {done : List Int} (hc : Cl l done) {k : Int} (h : nextK l done = some k) : k ∈ leftK l done := by
  obtain ⟨h1, h2, _, _⟩ := next_some hg h
  exact (mem_leftK hg).2 ⟨h1, h2, next_rep hg hc h⟩
theorem left_first {done : List Int} (hc : Cl l done) {kk : Int} (hf : FirstP (ownQ l done) (leftL l done) kk) (hne : leftL l done ≠ []) :
    ∃ (i : Nat) (k : Int) (hi : i < (leftL l done).length), kk = i ∧ nextK l done = some k ∧ (leftL l done)[i] = groupL l k ∧ (leftL l done).take i ++ (leftL l done).drop (i + 1) = leftL l (done ++ groupL l k) := by
  have hks := leftK_rising l done
  have hex : ∃ k, nextK l done = some k := by
    cases hn : nextK l done with
    | some k => exact ⟨k, rfl⟩
    | none =>
      obtain ⟨g, hg'⟩ := List.exists_mem_of_ne_nil _ hne
      obtain ⟨k, hk, _⟩ := List.mem_map.1 hg'
      obtain ⟨h1, h2, _⟩ := (mem_leftK hg).1 hk
      exact absurd (next_none hg hn h1) h2
  obtain ⟨k, hn⟩ := hex
  obtain ⟨q1, q2, q3, q4⟩ := next_some hg hn
  have hk := left_next hg hc hn
  obtain ⟨j, hj, hjk⟩ := List.getElem_of_mem hk
  have hlen : (leftL l done).length = (leftK l done).length := by simp [leftL]
  rcases hf with ⟨_, hall⟩ | ⟨i, hi, rfl, hq, hall⟩
  · have := hall (groupL l k) (List.mem_map.2 ⟨k, hk, rfl⟩)
    rw [(ownQ_eq hg hk).2 q3] at this; cases this
  · have hi' : i < (leftK l done).length := by omega
    have hgi : (leftL l done)[i] = groupL l (leftK l done)[i] := by simp [leftL]
    have hmi := List.getElem_mem hi'
    obtain ⟨m1, m2, m3⟩ := (mem_leftK hg).1 hmi
    rw [hgi] at hq
    have hle := q4 _ m1 m2 ((ownQ_eq hg hmi).1 hq)
    have hij : i ≤ j := by
      rcases Nat.lt_or_ge j i with h | h
      · have : groupL l k ∈ (leftL l done).take i := by
          rw [leftL, ← List.map_take]
          exact List.mem_map.2 ⟨k, by rw [← hjk]; exact List.mem_take_iff_getElem.2 ⟨j, by omega, rfl⟩, rfl⟩
        have := hall _ this
        rw [(ownQ_eq hg hk).2 q3] at this; cases this
      · exact h
    have hik : (leftK l done)[i] = k := by
      rcases Nat.lt_or_eq_of_le hij with h | h
      · have := List.pairwise_iff_getElem.1 hks i j hi' hj h
        omega
      · subst h; exact hjk
    refine ⟨i, k, hi, rfl, hn, by rw [hgi, hik], ?_⟩
    have e : leftK l (done ++ groupL l k) = (leftK l done).take i ++ (leftK l done).drop (i + 1) := by
      have e1 : leftK l (done ++ groupL l k) = (leftK l done).filter fun x => decide (x ∉ groupL l k) := by
        simp only [leftK, List.filter_filter]
        congr 1; funext x; simp [Bool.and_comm]
      have hsplit : leftK l done = (leftK l done).take i ++ k :: (leftK l done).drop (i + 1) := by
        rw [← hik, ← List.drop_eq_getElem_cons hi', List.take_append_drop]
      have hkg : k ∈ groupL l k := self_groupL hg q1
      have keep : ∀ x ∈ leftK l done, x ≠ k → x ∉ groupL l k := fun x hx hne hxg => by
        obtain ⟨a1, _, a3⟩ := (mem_leftK hg).1 hx
        obtain ⟨b1, _, b3⟩ := (mem_leftK hg).1 hk
        have := groupL_eq hg q1 hxg
        have := a3 k (by rw [this]; exact hkg)
        have := b3 x hxg
        omega
      rw [e1]
      conv => lhs; rw [hsplit]
      rw [List.filter_append, List.filter_cons, if_neg (by simpa using hkg)]
      have hp := hks
      rw [hsplit, List.pairwise_append, List.pairwise_cons] at hp
      congr 1
      · exact List.filter_eq_self.2 fun x hx => by simpa using keep x (List.mem_of_mem_take hx) (by have := hp.2.2 x hx k (by simp); omega)
      · exact List.filter_eq_self.2 fun x hx => by simpa using keep x (List.mem_of_mem_drop hx) (by have := hp.2.1.1 x hx; omega)
    rw [leftL, ← List.map_take, ← List.map_drop, ← List.map_append, ← e]; rfl
theorem left_end {done : List Int} (hc : Cl l done) (h : leftL l done = []) (f : Nat) : groupsF l f done = [] := by
  cases f with
  | zero => rfl
  | succ f =>
    cases hn : nextK l done with
    | none => simp [groupsF, hn]
    | some k =>
      have := left_next hg hc hn
      simp only [leftL, List.map_eq_nil_iff] at h
      rw [h] at this; cases this
end

/-- the question that 'groups' asks of each group left -/
theorem groups1_ok {h : Heap} {b1 b2 : Nat} {v w x : V} {l : List (List Int)} {F Ft Gx : List Nat} {done own : List Int} (hb1 : h[b1]? = some ⟨.own, [w]⟩) (hb2 : h[b2]? = some ⟨.own, [v]⟩) (hs : SdF h v l F) (hg : linksB l = true) (ht : SdF h w done Ft) (hx : SdF h x own Gx)
    {a : Int} {r : List Int} (ho : own = a :: r) (ha : InR l a) (hl : done.length + own.length ≤ 2 ^ 20) : ∃ h', call p 574 [x, .ptr b1 0, .ptr b2 0] h = some (.bool (ownQ l done own), h') ∧ Keeps h h' ∧ h.length ≤ h'.length := by
  have r1 : rdH h b1 0 1 = some [w] := by rw [rdH_at hb1 (by simp)]; rfl
  have r2 : rdH h b2 0 1 = some [v] := by rw [rdH_at hb2 (by simp)]; rfl
  have hp : 0 < own.length := by rw [ho]; simp
  have i0 := hx.sl.idx 1 .i64 0 hp
  have e0 := hx.sl.loadI 0 hp
  have h00 : own[0] = a := by simp [ho]
  rw [h00] at e0
  simp at i0 e0
  have kl := Keeps.append h [⟨.own, [w, x]⟩]
  have hr : Reps h [done, own] [w, x] (Ft ++ Gx) := by
    have a : Reps h [done] [w] Ft := .one (show Data.rep h done [w] Ft from ⟨w, rfl, ht⟩)
    have b : Reps h [own] [x] Gx := .one (show Data.rep h own [x] Gx from ⟨x, rfl, hx⟩)
    exact a.append b
  have hls := SdF.lit hr 2 rfl (by simp)
  have hfl : [done, own].flatten = done ++ own := by simp
  obtain ⟨o, h1, e1, G1, s1, f1, k1, l1⟩ := concat_ok hls (by rw [hfl]; simp; omega)
  rw [hfl] at s1
  have k01 := kl.trans k1
  obtain ⟨o2, h2, e2, G2, s2, f2, k2, l2⟩ := reach_ok (hs.keep k01) hg a ha
  obtain ⟨_, h3, e3, rfl, k3, l3⟩ := hasAll_ok (s1.keep k2).sl s2.sl
  have q0 : ownQ l done own = (reachL l a).all fun n => decide (n ∈ done ++ own) := by rw [ho]; rfl
  rw [q0]
  generalize (reachL l a).all (fun n => decide (n ∈ done ++ own)) = q at e3 ⊢
  have : ∃ r h'', call p 574 [x, .ptr b1 0, .ptr b2 0] h = some (r, h'') ∧ r = .bool q ∧ h'' = h3 := by
    refine go (fn := g574) rfl rfl fun R hR => ?_
    have t2 := rdH_keep k01 r2
    have t0 := rdH_keep k01 e0
    have t2' := rdH_keep kl r2
    have t0' := rdH_keep kl e0
    simp [g574, r1, r2, i0, e0, ht.cells, ht.cell, hx.cells, hx.cell, fillL, e1, e2, e3, stable, t2, t0, t2', t0']
    exact hR _ _ ⟨rfl, rfl⟩
  obtain ⟨_, _, e, rfl, rfl⟩ := this
  simp at l1
  exact ⟨_, e, (k01.trans k2).trans k3, by omega⟩
end GL

namespace GL
open Go

theorem OdF.keep {α : Type} [Data α] {lo : Nat} {h h' : Heap} {v : V} {xs : List α} {G : List Nat} (o : OdF lo h v xs G) (hk : Keeps h h') (hl : h.length ≤ h'.length) : OdF lo h' v xs G :=
  ⟨o.1.keeps (hk.p fun _ => True) (fun _ _ => trivial) (fun _ _ => trivial) hl, o.2.keeps (hk.p _)⟩

/-- the groups of the first nodes that are the least of theirs -/
noncomputable def leftN (l : List (List Int)) (i : Nat) : List (List Int) := ((((List.range i).map fun (j : Nat) => (j : Int)).filter fun k => decide ((groupL l k)[0]? = some k))).map (groupL l)
theorem leftN_succ (l : List (List Int)) (i : Nat) : leftN l (i + 1) = if (groupL l (i : Int))[0]? = some (i : Int) then leftN l i ++ [groupL l (i : Int)] else leftN l i := by
  simp only [leftN, List.range_succ, List.map_append, List.filter_append, List.map_cons, List.map_nil]
  split
  · rename_i h; simp [List.filter_cons, h]
  · rename_i h; simp [List.filter_cons, h]
theorem leftN_len (l : List (List Int)) (i : Nat) : (leftN l i).length ≤ i := by
  simp only [leftN, List.length_map]
  exact Nat.le_trans (List.length_filter_le ..) (by simp)
theorem leftN_all (l : List (List Int)) : leftN l l.length = leftL l [] := by
  simp [leftN, leftL, leftK, reps, nodes]

theorem groups_fst {v : V} {l : List (List Int)} {F : List Nat} {h : Heap} (hs : SdF h v l F) (hg : linksB l = true) (s0 : S) (K : Ex → S → Prop) (g1 : s0.σ 1 = .v (.ptr h.length 0)) (g3 : s0.σ 3 = .v (.slice (h.length + 1) 0 0 (.k 0))) (g11 : s0.σ 11 = .v (vi l.length)) (g12 : s0.σ 12 = .v (vi 0))
    (gh : s0.h = h ++ [(⟨.own, [v]⟩ : Blk), ⟨.own, []⟩])
    (hK : ∀ s v3 G3, (∀ k, k ∉ [3, 4, 5, 12, 13, 14, 15, 16, 17, 18, 19, 20, 21, 22, 23, 24, 25, 26, 27] → s.σ k = s0.σ k) → s.σ 3 = .v v3 → OdF (h.length + 1) s.h v3 (leftL l []) G3 → Keeps (h ++ [(⟨.own, [v]⟩ : Blk)]) s.h → h.length + 1 ≤ s.h.length → K (.exit 0) s) : Wc p (.loop g557_0) s0 K := by
  obtain ⟨l12, _⟩ := linksB_facts hg
  refine Wc_upM (M := [3, 4, 5, 12, 13, 14, 15, 16, 17, 18, 19, 20, 21, 22, 23, 24, 25, 26, 27]) rfl l.length (fun i s => i ≤ l.length ∧ s.σ 12 = .v (vi i) ∧ (∃ v3 G3, s.σ 3 = .v v3 ∧ OdF (h.length + 1) s.h v3 (leftN l i) G3) ∧ Keeps (h ++ [(⟨.own, [v]⟩ : Blk)]) s.h ∧ h.length + 1 ≤ s.h.length) 0
    ⟨by omega, g12, ⟨_, [], g3, by rw [gh]; exact OdF.empty (Nat.le_refl _) (by simp)⟩, by
      rw [gh]; have := Keeps.append (h ++ [(⟨.own, [v]⟩ : Blk)]) [⟨.own, []⟩]; simpa using this, by rw [gh]; simp⟩ fun i s ⟨gi, g12, ⟨v3, G3, g3, ho⟩, hk, hl⟩ hM J hJ => ?_
  have hkh : Keeps h s.h := (Keeps.append h [(⟨.own, [v]⟩ : Blk)]).trans hk
  by_cases hn : i < l.length
  · have hb1 : s.h[h.length]? = some ⟨.own, [v]⟩ := hk _ _ (get_last _ _) (by simp)
    have r1 : rdH s.h h.length 0 1 = some [v] := by rw [rdH_at hb1 (by simp)]; rfl
    have hin : InR l (i : Int) := ⟨by omega, by omega⟩
    obtain ⟨r, h2, e2, G, s2, f2, k2, l2⟩ := group_ok (hs.keep hkh) hg (i : Int) hin
    have hp : 0 < (groupL l (i : Int)).length := List.length_pos_of_mem (self_groupL hg hin)
    have i0 := s2.sl.idx 1 .i64 0 hp
    have e0 := s2.sl.loadI 0 hp
    simp at i0 e0
    have hlen := leftN_len l i
    have w1 : IntKind.i64.wrap ((i : Int) + 1) = (i + 1 : Nat) := by rw [IntWalk.i64_in] <;> omega
    have ix : (groupL l (i : Int))[0]? = some (groupL l (i : Int))[0] := List.getElem?_eq_getElem hp
    by_cases he : (groupL l (i : Int))[0] = (i : Int)
    · obtain ⟨v4, h3, e3, o3, kk3, l3⟩ := ho.one k2 l2 f2 (x := groupL l (i : Int)) (cs := [r]) ⟨r, rfl, s2⟩ (by omega) (k := 1) rfl (bytes := 24) (by decide)
      simp [g557_0, hM, g12, g11, g1, g3, hn, r1, e2, i0, e0, he, s2.cells, s2.cell, fillL, rdS_last, e3, w1, -Int.natCast_add]
      refine hJ _ hn ⟨hn, by simp, ⟨v4, G3 ++ G, by simp, ?_⟩, kk3 _ hk (by simp), by show h.length + 1 ≤ h3.length; omega⟩
      rw [leftN_succ, if_pos (by rw [ix, he])]; exact o3
    · simp [g557_0, hM, g12, g11, g1, g3, hn, r1, e2, i0, e0, he, w1, -Int.natCast_add]
      refine hJ _ hn ⟨hn, by simp, ⟨v3, G3, by simp [g3], ?_⟩, hk.trans k2, by show h.length + 1 ≤ h2.length; omega⟩
      rw [leftN_succ, if_neg (by rw [ix]; simpa using he)]; exact ho.keep k2 l2
  · have : i = l.length := by omega
    subst this
    rw [leftN_all] at ho
    simp [g557_0, hM, g12, g11]
    exact hK _ v3 G3 (fun k hk => by simp only [List.mem_cons, not_or] at hk; simp [hk, hM]) (by simp [g3]) ho hk hl
end GL

namespace GL
open Go

theorem leftL_mem {l : List (List Int)} (hg : linksB l = true) {done own : List Int} (h : own ∈ leftL l done) : ∃ a r, own = a :: r ∧ InR l a ∧ own = groupL l a := by
  obtain ⟨k, hk, rfl⟩ := List.mem_map.1 h
  obtain ⟨h1, h2, h3⟩ := (mem_leftK hg).1 hk
  have h4 := (rising_head (groupL_rising l k) (self_groupL hg h1)).2 h3
  cases he : groupL l k with
  | nil => rw [he] at h4; simp at h4
  | cons a r => rw [he] at h4; simp at h4; subst h4; exact ⟨a, r, rfl, h1, he.symm⟩
theorem leftL_len {l : List (List Int)} (hg : linksB l = true) (done : List Int) : (leftL l done).length ≤ l.length := by
  rw [leftL, List.length_map]
  exact rising_len (leftK_rising l done) fun x hx => ((mem_leftK hg).1 hx).1

theorem groups_snd {v : V} {l : List (List Int)} {F : List Nat} {h H1 : Heap} (hs : SdF h v l F) (hg : linksB l = true) (s0 : S) (K : Ex → S → Prop) {v3 : V} {G3 : List Nat} (g1 : s0.σ 1 = .v (.ptr h.length 0)) (g3 : s0.σ 3 = .v v3) (g6 : s0.σ 6 = .v (.slice H1.length 0 0 (.k 0))) (g7 : s0.σ 7 = .v (.ptr (H1.length + 2) 0))
    (ho : OdF (h.length + 1) H1 v3 (leftL l []) G3) (hk1 : Keeps (h ++ [(⟨.own, [v]⟩ : Blk)]) H1) (hl1 : h.length + 1 ≤ H1.length)
    (gh : s0.h = H1 ++ [(⟨.own, []⟩ : Blk), ⟨.own, []⟩, ⟨.own, [.slice (H1.length + 1) 0 0 (.k 0)]⟩])
    (hK : ∀ s v6 G, s.σ 6 = .v v6 → SdF s.h v6 (groupsL l) G → Keeps h s.h → h.length ≤ s.h.length → K (.exit 2) s) : Wc p (.loop g557_1) s0 K := by
  obtain ⟨l12, _⟩ := linksB_facts hg
  obtain ⟨F0, hsd0, hF0⟩ := ho.1.sd
  have hfr := ho.2
  -- where the list of what is left lies
  have form : leftL l [] = [] ∨ ∃ bl, v3 = .slice bl 0 (leftL l []).length (.o 1) ∧ OwnB H1 bl ∧ F0 = bl :: G3 ∧ bl ∉ G3 ∧ h.length + 1 ≤ bl := by
    obtain ⟨_, _, ⟨_, e, _⟩ | ⟨b, cs, e, hb, h3, hr, hn⟩ | ⟨b, _, e, _⟩⟩ := ho.1
    · exact .inl e
    · rcases hF0 with rfl | ⟨rfl, _⟩
      · by_cases h0 : leftL l [] = []
        · exact .inl h0
        · have := hsd0.bIn (List.length_pos_iff.2 h0)
          rw [e] at this; exact absurd this hn
      · refine .inr ⟨b, e, ⟨cs, hb⟩, by rw [e]; rfl, hn, h3⟩
    · exact .inl e
  obtain ⟨bl, hbl⟩ : ∃ bl, bl = bOf v3 := ⟨_, rfl⟩
  have hGlt : ∀ b ∈ G3, b < H1.length := fun b hb => (hfr.own b hb).lt
  refine Wc_dnM (M := [3, 6, 8, 30, 31, 32, 33, 34, 35, 36, 37, 38, 39, 40, 41, 42, 43, 44, 45, 46, 47, 48, 49, 50, 51, 52, 53]) rfl
    (fun m s => ∃ (done : List Int) (outs : List (List Int)) (v3 v6 vt : V) (FL GO : List Nat) (f : Nat), s.σ 3 = .v v3 ∧ s.σ 6 = .v v6 ∧ s.h[H1.length + 2]? = some ⟨.own, [vt]⟩ ∧ Out H1.length s.h vt done ∧ Od H1.length s.h v6 outs GO ∧
      (∀ b, vB v6 b → ¬ vB vt b ∧ b ≠ H1.length + 2) ∧ (∀ b, vB vt b → b ≠ H1.length + 2) ∧ (∀ b ∈ GO, b ∈ G3) ∧
      (leftL l done = [] ∨ (∃ off n, v3 = .slice bl off n (.o 1) ∧ SdF s.h v3 (leftL l done) FL ∧ OwnB s.h bl ∧ bl ∉ FL.tail ∧ (∀ b ∈ FL, b = bl ∨ b ∈ G3) ∧ bl ∉ G3 ∧ h.length + 1 ≤ bl ∧ bl < H1.length)) ∧ lenV v3 = some (leftL l done).length ∧
      KeepsP (fun b => b < H1.length ∧ (b = bl → bl < h.length + 1)) H1 s.h ∧ H1.length + 3 ≤ s.h.length ∧ l.length ≤ f + done.length ∧
      groupsL l = outs ++ groupsF l f done ∧ Cl l done ∧ done.Nodup ∧ outs.length + (leftL l done).length ≤ 100 ∧ m = (leftL l done).length) (leftL l []).length
    ⟨[], [], v3, .slice H1.length 0 0 (.k 0), .slice (H1.length + 1) 0 0 (.k 0), F0, [], l.length, g3, g6, by rw [gh]; simp, by rw [gh]; exact Out.empty (by omega) (by simp), by rw [gh]; exact Od.empty (Nat.le_refl _) (by simp), ?_, ?_, by simp, ?_, by rw [hsd0.len], by rw [gh]; exact (Keeps.append H1 _).p _, by rw [gh]; simp, by simp, by simp [groupsL], Cl.nil l, List.nodup_nil, by have := leftL_len hg []; simp; omega, rfl⟩ fun m s ⟨done, outs, v3, v6, vt, FL, GO, f, g3, g6, ht, hto, hoo, sp1, sp2, hGO, hleft, hlen, hk, hln, hfl, hgl, hcl, hnd, hcnt, hm⟩ hM J hJ => ?_
  · rintro b ⟨_, _, _, e⟩; injection e with e1; subst e1
    exact ⟨fun ⟨_, _, _, e⟩ => by injection e with e1; omega, by omega⟩
  · rintro b ⟨_, _, _, e⟩; injection e with e1; omega
  · rcases form with e | ⟨b, e, hb, hF, hnb, hge⟩
    · exact .inl e
    · have : bl = b := by rw [hbl, e]; rfl
      subst this
      have kk := Keeps.append H1 [(⟨.own, []⟩ : Blk), ⟨.own, []⟩, ⟨.own, [.slice (H1.length + 1) 0 0 (.k 0)]⟩]
      refine .inr ⟨0, _, e, by rw [gh]; exact hsd0.keep kk, by rw [gh]; exact hb.keep kk, by rw [hF]; exact hnb, fun b hb => ?_, hnb, hge, hb.lt⟩
      rw [hF] at hb
      exact List.mem_cons.1 hb
  have hk1h : Keeps h H1 := (Keeps.append h [(⟨.own, [v]⟩ : Blk)]).trans hk1
  have hkh : Keeps h s.h := Keeps.far (n := h.length) hk1h hk (Nat.le_refl _) fun b hb => ⟨by omega, fun e => by omega⟩
  by_cases he : leftL l done = []
  · have hfin : groupsL l = outs := by rw [hgl, left_end hg hcl he f, List.append_nil]
    obtain ⟨F', hF', _⟩ := hoo.sd
    rw [he] at hlen
    simp [g557_1, hM, g3, hlen]
    exact hK _ v6 F' (by simp [g6]) (by rw [hfin]; exact hF') hkh (by show h.length ≤ s.h.length; omega)
  · rcases hleft with h0 | ⟨off, n, rfl, hsd, hown, hnt, hFL, hbG, hge, hblt⟩
    · exact absurd h0 he
    have hb1 : s.h[h.length]? = some ⟨.own, [v]⟩ := hk _ _ ⟨by omega, by omega⟩ (hk1 _ _ (get_last _ _) (by simp)) (by simp)
    obtain ⟨Ft, hst, frt⟩ := hto.fr
    have hdl : done.length ≤ l.length := nodup_len hnd hcl.lt
    obtain ⟨_, h2, e2, kk, rfl, hfirst, k2, l2⟩ := indexLg_ok hsd (f := 574) (capt := [.ptr (H1.length + 2) 0, .ptr h.length 0]) (q := ownQ l done) fun h' hk' => fun x own G hmem hx => by
      obtain ⟨a, r, e, ha, e'⟩ := leftL_mem hg hmem
      exact groups1_ok (hk' _ _ ht (by simp)) (hk' _ _ hb1 (by simp)) (hs.keep (hkh.trans hk')) hg (hst.keep hk') hx e ha (by have := groupL_len hg ha; rw [e']; omega)
    obtain ⟨i, k, hi, rfl, hnext, hgi, herase⟩ := left_first hg hcl hfirst he
    obtain ⟨hkin, hknd, hkr, _⟩ := next_some hg hnext
    cases f with
    | zero =>
      exfalso
      have hnd2 : (k :: done).Nodup := List.nodup_cons.2 ⟨hknd, hnd⟩
      have := nodup_len (n := l.length) hnd2 fun y hy => by
        rcases List.mem_cons.1 hy with rfl | hy
        · exact hkin
        · exact hcl.lt y hy
      simp at this hfl; omega
    | succ f =>
    have hgl2 : groupsL l = (outs ++ [groupL l k]) ++ groupsF l f (done ++ groupL l k) := by
      rw [hgl]; simp [groupsF, hnext]
    have hkg : 0 < (groupL l k).length := List.length_pos_of_mem (self_groupL hg hkin)
    have hkl := groupL_len hg hkin
    -- the group, where it lies
    have hsd2 := hsd.keep k2
    obtain ⟨cs, F1, Gx, F3, ex, ⟨x, rfl, hx⟩, hFe⟩ := hsd2.load i hi
    rw [show i * Data.sz (List Int) = i from Nat.mul_one i] at ex
    change rdH _ _ _ 1 = _ at ex
    rw [hgi] at hx
    have hGx : ∀ b ∈ Gx, b ∈ G3 := fun b hb => by
      have h1 : b ∈ FL := by rw [hFe]; simp [hb]
      rcases hFL b h1 with rfl | h
      · exact absurd (by rw [hFe]; simp [hb]) hnt
      · exact h
    have ix := hsd.idx 1 .i64 i hi
    simp only [Nat.mul_one] at ix
    have ht2 := k2 _ _ ht (by simp)
    have rt2 : rdH h2 (H1.length + 2) 0 1 = some [vt] := by rw [rdH_at ht2 (by simp)]; rfl
    have kl : Keeps h2 (h2 ++ [⟨.own, [x]⟩]) := Keeps.append _ _
    have rt3 := rdH_keep kl rt2
    have ex3 := rdH_keep kl ex
    have no6 : ∀ b, b < H1.length → ¬ vB v6 b := fun b hb hv => by have := (hoo.ge hv).1; omega
    have noT : ∀ b, b < H1.length → ¬ vB vt b := fun b hb hv => by have := (hto.ge hv).1; omega
    have hoo3 : Od H1.length (h2 ++ [⟨.own, [x]⟩]) v6 outs GO := hoo.keeps ((k2.trans kl).p fun _ => True) (fun _ _ => trivial) (fun _ _ => trivial) (by simp; omega)
    obtain ⟨v6', h4, e4, o4, k4, l4, b4⟩ := hoo3.app (zs := [groupL l k]) (ys := [x]) (G := Gx) (by simp) (.one (show Data.rep _ (groupL l k) [x] Gx from ⟨x, rfl, hx.keep kl⟩)) (fun b hb => no6 b (hGlt b (hGx b hb))) (bytes := 24) (by decide) (by simp; omega) (k := 1) rfl (n := 1) rfl
    have ht4 : h4[H1.length + 2]? = some ⟨.own, [vt]⟩ := k4 _ _ (fun hv => (sp1 _ hv).2 rfl) (kl _ _ ht2 (by simp)) (by simp)
    have rt4 : rdH h4 (H1.length + 2) 0 1 = some [vt] := by rw [rdH_at ht4 (by simp)]; rfl
    have hx4 : SdF h4 x (groupL l k) Gx := (hx.keep kl).keeps (k4.mono fun b hb => no6 b (hGlt b (hGx b hb)))
    have hFlt : ∀ b ∈ FL, b < H1.length := fun b hb => by
      rcases hFL b hb with rfl | h
      · exact hblt
      · exact hGlt b h
    have hsd4 : SdF h4 (.slice bl off n (.o 1)) (leftL l done) FL := (hsd2.keep kl).keeps (k4.mono fun b hb => no6 b (hFlt b hb))
    have ex4 : rdH h4 (bOf (.slice bl off n (.o 1))) (oOf (.slice bl off n (.o 1)) + i) 1 = some [x] := by
      obtain ⟨blk, hb, hl⟩ := hsd2.lt (i := bl) (by rw [hFe]; simp [bOf])
      have h3b := kl _ _ hb hl
      have h4b := k4 _ _ (no6 _ hblt) h3b hl
      rw [rdH_at (by exact hb) hl] at ex
      rw [rdH_at (by exact h4b) hl]; exact ex
    have hto4 : Out H1.length h4 vt done := (hto.keeps ((k2.trans kl).p fun _ => True) (fun _ _ => trivial) (by simp; omega)).keeps k4 (fun b hb hv => (sp1 b hv).1 hb) (by simp at l4 ⊢; omega)
    have e5r := hx4.sl.rdS (groupL l k).length (Nat.le_refl _)
    rw [List.take_length] at e5r
    change rdS _ 1 _ _ = _ at e5r
    obtain ⟨vt', h5, e5, o5, k5, l5, b5⟩ := hto4.app (groupL l k) hkg (bytes := 8) (by decide) (by omega) (k := 1) rfl (n := (groupL l k).length) rfl rfl
    have ht5 : h5[H1.length + 2]? = some ⟨.own, [vt]⟩ := k5 _ _ (fun hv => sp2 _ hv rfl) ht4 (by simp)
    have e6 : wrH h5 (H1.length + 2) 0 [vt'] = some (h5.set (H1.length + 2) ⟨.own, [vt']⟩) := by rw [wrH_at ht5 rfl]; rfl
    have hlt5 := get_lt ht5
    have k6 : KeepsP (fun b => b ≠ H1.length + 2) h5 (h5.set (H1.length + 2) ⟨.own, [vt']⟩) := fun c blk hc hb2 _ => by rw [List.getElem?_set_ne (Ne.symm hc)]; exact hb2
    have low : KeepsP (fun b => b < H1.length) h4 (h5.set (H1.length + 2) ⟨.own, [vt']⟩) := (k5.mono fun b hb => noT b hb).trans (k6.mono fun b hb => by omega)
    have hsd6 := hsd4.keeps (low.mono hFlt)
    have hown6 : OwnB (h5.set (H1.length + 2) ⟨.own, [vt']⟩) bl := ((((hown.keep k2).keep kl).keeps k4 (no6 _ hblt))).keeps low hblt
    obtain ⟨_, h7, e7, F7, rfl, s7, q7, n7, _, ow7, k7, l7⟩ := deleteL_ok hsd6 hnt hown6 hi (by have := leftL_len hg done; omega)
    rw [herase] at s7
    have hlv := s7.len
    have hcnt2 : (leftL l (done ++ groupL l k)).length + 1 = (leftL l done).length := by
      rw [← herase]; simp; omega
    have w1 : IntKind.i64.wrap ((i : Int) + 1) = (i + 1 : Nat) := by rw [IntWalk.i64_in] <;> omega
    have lo4 : KeepsP (fun b => b < H1.length) s.h h4 := ((k2.trans kl).p _).trans (k4.mono no6)
    have lo7 : KeepsP (fun b => b < H1.length ∧ (b = bl → bl < h.length + 1)) s.h h7 := ((lo4.trans low).mono fun b hb => hb.1).trans (k7.mono fun b hb e => by have := hb.2 e; omega)
    simp only [bOf, oOf] at ix ex ex3 ex4
    have lpos : (0 : Int) < (leftL l done).length := by omega
    simp [g557_1, hM, g1, g3, g6, g7, hlen, hi, Nat.pos_of_ne_zero (show (leftL l done).length ≠ 0 by omega), e2, ix, ex, rt2, hx.cells, hx.cell, fillL, stable, rt3, ex3, rdS_last, e4, rt4, ex4, hx4.len, e5r, e5, o5.sl.cells, o5.sl.cell, e6, w1, e7, -Int.natCast_add]
    have n3lt : H1.length + 2 < s.h.length := get_lt ht
    simp only [List.length_append, List.length_singleton] at l4 b4
    have vb6 : ∀ b, vB v6' b → b = h2.length + 1 := fun b hb => by have := b4 b hb; simpa using this
    have g7lt : ∀ b ∈ GO ++ Gx, b ∈ G3 := fun b hb => by
      rcases List.mem_append.1 hb with h | h
      · exact hGO b h
      · exact hGx b h
    have k47 : KeepsP (fun b => ¬ vB vt b ∧ b ≠ H1.length + 2 ∧ b ≠ bl) h4 h7 := ((k5.mono fun b hb => hb.1).trans (k6.mono fun b hb => hb.2.1)).trans (k7.mono fun b hb => hb.2.2)
    have l47 : h4.length ≤ h7.length := by rw [l7]; simp; omega
    refine hJ (leftL l (done ++ groupL l k)).length _ (by omega) ⟨done ++ groupL l k, outs ++ [groupL l k], .slice bl off (n - 1) (.o 1), v6', vt', F7, GO ++ Gx, f, by simp, by simp, ?_, ?_, ?_, ?_, ?_, g7lt, .inr ⟨off, n - 1, rfl, s7, ow7, n7, fun b hb => hFL b (q7 b hb), hbG, hge, hblt⟩, hlv, hk.trans lo7, by show H1.length + 3 ≤ h7.length; omega, by simp; omega, hgl2, hcl.next hg hkin hkr, nodup_next hg hcl hnd hkin hknd, by simp; omega, rfl⟩
    · exact k7 _ _ (by omega) (by simp [hlt5]) (by simp)
    · exact (o5.keeps k6 (fun b hb => by have := b5 b hb; omega) (by simp)).keeps k7 (fun b hb => by have := b5 b hb; omega) (by rw [l7]; exact Nat.le_refl _)
    · refine o4.keeps k47 (fun b hb => ⟨fun hv => ?_, ?_, ?_⟩) (fun b hb => ⟨noT b (hGlt b (g7lt b hb)), ?_, fun e => hbG (by rw [← e]; exact g7lt b hb)⟩) l47
      · have := vb6 b hb; have := (hto.ge hv).2; omega
      · have := vb6 b hb; omega
      · have := vb6 b hb; omega
      · have := hGlt b (g7lt b hb); omega
    · intro b hb
      have := vb6 b hb
      exact ⟨fun hv => by have := b5 b hv; omega, by omega⟩
    · intro b hb
      have := b5 b hb; omega
end GL

namespace GL
open Go

theorem groups_ok {v : V} {l : List (List Int)} {F : List Nat} {h : Heap} (hs : SdF h v l F) (hg : linksB l = true) :
    ∃ r h', call p 557 [v] h = some (r, h') ∧ ∃ G, SdF h' r (groupsL l) G ∧ Keeps h h' ∧ h.length ≤ h'.length := by
  refine go (fn := g557) rfl rfl fun R hR => ?_
  have r1 : rdH (h ++ [(⟨.own, [v]⟩ : Blk), ⟨.own, []⟩]) h.length 0 1 = some [v] := by
    rw [rdH_at (blk := ⟨.own, [v]⟩) (by simp) (by simp)]; rfl
  simp [g557, hs.cells, hs.cell, fillL, r1, hs.len]
  refine groups_fst hs hg _ _ (by simp) (by simp) (by simp) (by simp) rfl fun s v3 G3 hM g3 ho hk hl => ?_
  have e1 : wrH (s.h ++ [(⟨.own, []⟩ : Blk), ⟨.own, []⟩, ⟨.own, [.nils]⟩]) (s.h.length + 2) 0 [V.slice (s.h.length + 1) 0 0 (.k 0)] = some (s.h ++ [(⟨.own, []⟩ : Blk), ⟨.own, []⟩, ⟨.own, [V.slice (s.h.length + 1) 0 0 (.k 0)]⟩]) := by
    rw [wrH_at (blk := ⟨.own, [.nils]⟩) (by simp) rfl]
    simp [lay]
  simp [hM, g3, fillL, e1]
  refine groups_snd hs hg _ _ (by simp [hM]) (by simp [g3]) (by simp) (by simp) ho hk hl (by simp) fun s2 v6 G g6 h6 k6 l6 => ?_
  simp [g6]
  exact hR _ _ ⟨G, h6, k6, l6⟩

theorem GroupsOf_ok {h : Heap} {v : V} {l : List (List Int)} {F : List Nat} (hs : SdF h v l F) :
    ∃ r h', call p 496 [v] h = some (r, h') ∧ ∃ o G, r = .tup [o, .bool (linksB l)] ∧ SdF h' o (if linksB l = true then groupsL l else []) G ∧ Keeps h h' ∧ h.length ≤ h'.length := by
  obtain ⟨_, h1, e1, rfl, k1, l1⟩ := GoodLinks_ok hs
  refine go (fn := g496) rfl rfl fun R hR => ?_
  cases hl : linksB l with
  | false =>
    rw [hl] at e1; simp [g496, e1]
    exact hR _ _ ⟨.nils, [], by rw [hl], by simp [hl]; exact SdF.nil, k1, l1⟩
  | true =>
    rw [hl] at e1
    obtain ⟨r, h2, e2, G, s2, k2, l2⟩ := groups_ok (hs.keep k1) hl
    simp [g496, e1, e2]
    exact hR _ _ ⟨r, G, by rw [hl], by simp [hl]; exact s2, k1.trans k2, by omega⟩

theorem groupsL_facts {l : List (List Int)} (hg : linksB l = true) : (groupsL l).flatten.Nodup ∧ (∀ x, InR l x ↔ x ∈ (groupsL l).flatten) ∧ ∀ i (hi : i < (groupsL l).length), ∃ k, InR l k ∧ (groupsL l)[i] = groupL l k ∧ ∀ x, Rch l k x → x ∈ ((groupsL l).take (i + 1)).flatten := by
  have := groupsF_spec hg l.length [] (Cl.nil l) List.nodup_nil (by simp)
  simpa [groupsL] using this
theorem groupsL_flat {l : List (List Int)} (hg : linksB l = true) : (groupsL l).flatten.length = l.length := by
  obtain ⟨h1, h2, _⟩ := groupsL_facts hg
  have a := nodup_len (n := l.length) h1 fun x hx => (h2 x).2 hx
  have nd : (nodes l).Nodup := (nodes_rising l).imp fun h => by omega
  have b := nd.length_le_of_subset (l₂ := (groupsL l).flatten) fun x hx => (h2 x).1 (mem_nodes.1 hx)
  have c : (nodes l).length = l.length := by simp [nodes]
  omega
end GL

namespace GL
open Go

theorem readyB_iff (l : List (List Int)) (ds done : List Int) (hm : ∀ x, x ∈ ds ↔ x ∈ done) (k : Int) : ((reachL l k).all fun x => decide (x ∈ ds) || decide (x ∈ groupL l k)) = decide (readyB l done k) := by
  rw [Bool.eq_iff_iff, decide_eq_true_iff]
  simp [readyB, hm]
theorem next_first {l : List (List Int)} {done : List Int} {k : Nat} (hk : k < l.length) (h1 : (k : Int) ∉ done) (h2 : readyB l done k) (hall : ∀ j : Nat, j < k → (j : Int) ∈ done ∨ ¬ readyB l done j) : nextK l done = some (k : Int) := by
  refine List.find?_eq_some_iff_append.2 ⟨by simp [h1, h2], ((List.range k).map fun (i : Nat) => (i : Int)), ((List.range (l.length - (k + 1))).map fun (i : Nat) => ((k + 1 + i : Nat) : Int)), ?_, ?_⟩
  · unfold nodes
    have : l.length = k + (1 + (l.length - (k + 1))) := by omega
    conv => lhs; rw [this, List.range_add, List.range_add]
    simp [List.map_map, Function.comp_def, Nat.add_assoc]
  · intro a ha
    obtain ⟨j, hj, rfl⟩ := List.mem_map.1 ha
    rw [List.mem_range] at hj
    rcases hall j hj with h | h <;> simp [h]

theorem l9Groups_ok {v : V} {l : List (List Int)} {F : List Nat} {h : Heap} (hs : SdF h v l F) (hg : linksB l = true) :
    ∃ r h', call p 558 [v] h = some (r, h') ∧ ∃ G, SdF h' r (groupsL l) G ∧ Keeps h h' ∧ h.length ≤ h'.length := by
  obtain ⟨l12, _⟩ := linksB_facts hg
  refine go (fn := g558) rfl rfl fun R hR => ?_
  simp [g558]
  refine Wc_dnM (M := [3, 4, 5, 6, 7, 9, 11, 12, 13, 14, 15, 16, 17, 18, 19, 20, 21, 22, 23, 24, 25, 26, 27, 28, 29, 30, 31, 32, 33, 34, 35, 36, 37, 38, 39, 40, 41, 42, 43, 44, 45, 46, 47, 48, 49, 50, 51, 52, 53, 54, 55, 56, 57, 58, 59, 60, 61, 62, 63]) rfl
    (fun m s => ∃ (done ds : List Int) (outs : List (List Int)) (v3 v4 : V) (Go Gd : List Nat) (f : Nat), s.σ 3 = .v v3 ∧ s.σ 4 = .v v4 ∧ Od h.length s.h v3 outs Go ∧ SdF s.h v4 ds Gd ∧ (∀ b ∈ Gd, ¬ vB v3 b) ∧ ds.Pairwise (· < ·) ∧ (∀ x, x ∈ ds ↔ x ∈ done) ∧ ds.length = done.length ∧
      Keeps h s.h ∧ h.length ≤ s.h.length ∧ l.length ≤ f + done.length ∧ groupsL l = outs ++ groupsF l f done ∧ Cl l done ∧ done.Nodup ∧ outs.length ≤ done.length ∧ m = l.length - done.length) l.length
    ⟨[], [], [], .nils, .nils, [], [], l.length, by simp, by simp, Od.nil (Nat.le_refl _), SdF.nil, by simp, by simp, by simp, rfl, Keeps.refl _, Nat.le_refl _, by simp, by simp [groupsL], Cl.nil l, List.nodup_nil, by simp, by simp⟩ fun m s ⟨done, ds, outs, v3, v4, Go, Gd, f, g3, g4, hoo, hsd, hsep, hri, hmem, hlen, hk, hl, hf, hgl, hcl, hnd, hol, hm⟩ hM J hJ => ?_
  have hdl : done.length ≤ l.length := nodup_len hnd hcl.lt
  by_cases hlt : done.length < l.length
  · -- there is a next one
    have hex : ∃ k, nextK l done = some k := by
      cases hn : nextK l done with
      | some k => exact ⟨k, rfl⟩
      | none =>
        have nd : (nodes l).Nodup := (nodes_rising l).imp fun h => by omega
        have b := nd.length_le_of_subset (l₂ := done) fun x hx => next_none hg hn (mem_nodes.1 hx)
        have c : (nodes l).length = l.length := by simp [nodes]
        omega
    have hlt2 : (ds.length : Int) < l.length := by omega
    simp [g558_3, hM, g4, hsd.len, hs.len, hlt2]
    refine Wc_upM (M := [3, 4, 5, 6, 7, 9, 11, 19, 20, 21, 22, 23, 24, 25, 26, 27, 28, 29, 30, 31, 32, 33, 34, 35, 36, 37, 38, 39, 40, 41, 42, 43, 44, 45, 46, 47, 48, 49, 50, 51, 52, 53, 54, 55, 56, 57, 58, 59, 60, 61, 62, 63]) rfl l.length
      (fun k t => t.σ 19 = .v (vi k) ∧ t.σ 3 = .v v3 ∧ t.σ 4 = .v v4 ∧ Keeps s.h t.h ∧ s.h.length ≤ t.h.length ∧ ∀ j : Nat, j < k → j < l.length → (j : Int) ∈ done ∨ ¬ readyB l done j) 0
      ⟨by simp, by simp [g3], by simp [g4], Keeps.refl _, Nat.le_refl _, by simp⟩ fun k t ⟨g19, g3, g4, kt, lt, hall⟩ hM2 J2 hJ2 => ?_
    by_cases hkl : k < l.length
    · have hin : InR l (k : Int) := ⟨by omega, by omega⟩
      have hsdt := hsd.keep kt
      have e1 := l1Has_eq hsdt.sl (k : Int)
      have w1 : IntKind.i64.wrap ((k : Int) + 1) = (k + 1 : Nat) := by rw [IntWalk.i64_in] <;> omega
      by_cases hkd : (k : Int) ∈ done
      · rw [decide_eq_true ((hmem _).2 hkd)] at e1
        simp [g558_2, hM2, hM, g19, g4, hkl, e1, w1, -Int.natCast_add]
        refine hJ2 _ hkl ⟨by simp, by simp [g3], by simp [g4], kt, lt, fun j hj hjl => ?_⟩
        rcases Nat.lt_or_eq_of_le (Nat.le_of_lt_succ hj) with h | rfl
        · exact hall j h hjl
        · exact .inl hkd
      · rw [decide_eq_false (fun h => hkd ((hmem _).1 h))] at e1
        have hst := (hs.keep hk).keep kt
        obtain ⟨x, h2, e2, o2, k2, l2⟩ := l9Group_ok hst hg (k : Int) hin
        obtain ⟨y, h3, e3, G3, s3, k3, l3⟩ := l9Reach_ok (hst.keep k2) hg (k : Int) hin
        simp [g558_2, hM2, hM, g19, g4, hkl, e1, e2, e3, s3.len]
        -- is it ready?
        refine Wc_upM (M := [7, 9, 32, 33, 34, 35, 36, 37, 38, 39, 40, 41, 42, 43, 44, 45, 46, 47]) rfl (reachL l (k : Int)).length
          (fun i u => u.σ 32 = .v (vi i) ∧ u.h = h3 ∧ u.σ 7 = .v (.bool (((reachL l (k : Int)).take i).all fun x => decide (x ∈ ds) || decide (x ∈ groupL l k)))) 0 (by simp) fun i u ⟨g32, gh, g7⟩ hM3 J3 hJ3 => ?_
        have hsd3 := (hsdt.keep k2).keep k3
        have o3 := o2.keeps (k3.p fun _ => True) (fun _ _ => trivial) l3
        by_cases hi : i < (reachL l (k : Int)).length
        · have a1 := l1Has_eq hsd3.sl (reachL l (k : Int))[i]
          have a2 := l1Has_eq o3.sl (reachL l (k : Int))[i]
          have ix := s3.idx 1 .i64 i hi
          simp only [Nat.mul_one] at ix
          have ex := s3.sl.loadI i hi
          have ht : (((reachL l (k : Int)).take (i + 1)).all fun x => decide (x ∈ ds) || decide (x ∈ groupL l k)) = ((((reachL l (k : Int)).take i).all fun x => decide (x ∈ ds) || decide (x ∈ groupL l k)) && (decide ((reachL l (k : Int))[i] ∈ ds) || decide ((reachL l (k : Int))[i] ∈ groupL l k))) := by
            rw [List.take_succ_eq_append_getElem hi]; simp only [List.all_append, List.all_cons, List.all_nil, Bool.and_true]
          generalize decide ((reachL l (k : Int))[i] ∈ ds) = q2 at a1 ht
          generalize decide ((reachL l (k : Int))[i] ∈ groupL l k) = q3 at a2 ht
          generalize (((reachL l (k : Int)).take i).all fun x => decide (x ∈ ds) || decide (x ∈ groupL l k)) = q1 at g7 ht
          cases q1 <;> cases q2 <;> cases q3 <;>
          · simp [g558_0, hM3, hM2, hM, g32, gh, g7, g4, hi, ix, ex, a1, a2, s3.step hi]
            exact hJ3 _ hi ⟨by simp, rfl, by rw [ht]; simp⟩
        · rw [List.take_of_length_le (by omega), readyB_iff l ds done hmem] at g7
          by_cases hr : readyB l done (k : Int)
          · rw [decide_eq_true hr] at g7
            have hnext := next_first hkl hkd hr fun j hj => hall j hj (by omega)
            cases f with
            | zero => omega
            | succ f =>
            have hgl2 : groupsL l = (outs ++ [groupL l (k : Int)]) ++ groupsF l f (done ++ groupL l (k : Int)) := by
              rw [hgl]; simp [groupsF, hnext]
            have hkg : 0 < (groupL l (k : Int)).length := List.length_pos_of_mem (self_groupL hg hin)
            have hkln := groupL_len hg hin
            have kk3 : Keeps s.h h3 := (kt.trans k2).trans k3
            have kl : Keeps h3 (h3 ++ [⟨.own, [x]⟩]) := Keeps.append _ _
            obtain ⟨Gx, sx, fx⟩ := o3.fr
            have no3 : ∀ b ∈ Gx, ¬ vB v3 b := fun b hb hv => by have := (hoo.ge hv).2; have := fx.ge b hb; omega
            have hoo3 : Od h.length (h3 ++ [⟨.own, [x]⟩]) v3 outs Go := hoo.keeps ((kk3.trans kl).p fun _ => True) (fun _ _ => trivial) (fun _ _ => trivial) (by simp; omega)
            obtain ⟨v3', h4, e4, o4, k4, l4, b4⟩ := hoo3.app (zs := [groupL l (k : Int)]) (ys := [x]) (G := Gx) (by simp) (.one (show Data.rep _ (groupL l (k : Int)) [x] Gx from ⟨x, rfl, sx.keep kl⟩)) no3 (bytes := 24) (by decide) (by simp; omega) (k := 1) rfl (n := 1) rfl
            have sx4 : SdF h4 x (groupL l (k : Int)) Gx := (sx.keep kl).keeps (k4.mono no3)
            have hsd4 : SdF h4 v4 ds Gd := (hsd3.keep kl).keeps (k4.mono hsep)
            simp only [List.length_append, List.length_singleton] at l4 b4
            have kk4 : Keeps h h4 := Keeps.far (n := h.length) (hk.trans (kk3.trans kl)) k4 (Nat.le_refl _) fun b hb hv => by have := (hoo.ge hv).1; omega
            have hc1 := sx.cells
            have hc2 := sx.cell
            have w1' := w1
            simp [g558_0, hM3, hM2, hM, g32, gh, g7, hi, g3, hc1, hc2, fillL, rdS_last, e4, sx4.len]
            refine Wc_upM (M := [4, 11, 55, 56, 57, 58, 59, 60, 61, 62]) rfl (groupL l (k : Int)).length
              (fun j u => j ≤ (groupL l (k : Int)).length ∧ u.σ 55 = .v (vi j) ∧ ∃ (ds2 : List Int) (v5 : V) (G5 : List Nat), u.σ 4 = .v v5 ∧ SdF u.h v5 ds2 G5 ∧ (∀ b ∈ G5, ¬ vB v3' b) ∧ ds2.Pairwise (· < ·) ∧ (∀ y, y ∈ ds2 ↔ y ∈ ds ∨ y ∈ (groupL l (k : Int)).take j) ∧ ds2.length ≤ ds.length + j ∧ Keeps h4 u.h ∧ h4.length ≤ u.h.length) 0
              ⟨by omega, by simp, ds, v4, Gd, by simp [hM3, g4], hsd4, fun b hb hv => ?_, hri, by simp, by simp, Keeps.refl _, Nat.le_refl _⟩ fun j u ⟨gj, g55, ds2, v5, G5, g4', s5, sep5, r5, m5, n5, k5, l5⟩ hM4 J4 hJ4 => ?_
            · have e := b4 b hv
              obtain ⟨blk, hb1, _⟩ := hsd3.lt hb
              have := get_lt hb1; omega
            · by_cases hj : j < (groupL l (k : Int)).length
              · have sxu := sx4.keep k5
                have ij := sxu.idx 1 .i64 j hj
                simp only [Nat.mul_one] at ij
                have ej := sxu.sl.loadI j hj
                obtain ⟨v7, h7, e7, ds3, G7, s7, r7, m7, n7, G7s, k7, l7⟩ := l1Put_ok s5 r5 (by omega) (groupL l (k : Int))[j]
                simp [g558_1, hM4, hM3, hM2, hM, g55, g4', hj, ij, ej, e7, sx4.step hj]
                refine hJ4 _ hj ⟨hj, by simp, ds3, v7, G7, by simp, s7, fun b hb hv => ?_, r7, fun y => ?_, by omega, k5.trans k7, by show h4.length ≤ h7.length; omega⟩
                · rcases G7s b hb with h | h
                  · exact sep5 b h hv
                  · have e := b4 b hv; omega
                · rw [m7, m5, mem_take_succ hj, or_assoc]
              · have hjl : j = (groupL l (k : Int)).length := by omega
                subst hjl
                simp only [List.take_length] at m5
                have hnd2 := nodup_next hg hcl hnd hin hkd
                have hmem2 : ∀ y, y ∈ ds2 ↔ y ∈ done ++ groupL l (k : Int) := fun y => by rw [m5, List.mem_append, hmem]
                have hlen2 : ds2.length = (done ++ groupL l (k : Int)).length := by
                  have nd5 : ds2.Nodup := r5.imp fun h => by omega
                  have a := nd5.length_le_of_subset (l₂ := done ++ groupL l (k : Int)) fun y hy => (hmem2 y).1 hy
                  have b := hnd2.length_le_of_subset (l₂ := ds2) fun y hy => (hmem2 y).2 hy
                  omega
                simp [g558_1, hM4, hM3, hM2, hM, g55]
                refine hJ (l.length - (done ++ groupL l (k : Int)).length) _ (by simp; omega) ⟨done ++ groupL l (k : Int), ds2, outs ++ [groupL l (k : Int)], v3', v5, Go ++ Gx, G5, f, by simp [hM4], by simp [g4'], ?_, s5, sep5, r5, hmem2, hlen2, kk4.trans k5, by show h.length ≤ u.h.length; omega, by simp; omega, hgl2, hcl.next hg hin hr, hnd2, by simp; omega, rfl⟩
                exact o4.keeps (k5.p fun _ => True) (fun _ _ => trivial) (fun _ _ => trivial) l5
          · rw [decide_eq_false hr] at g7
            simp [g558_0, hM3, hM2, hM, g32, gh, g7, hi, g19, w1, -Int.natCast_add]
            refine hJ2 _ hkl ⟨by simp, by simp [hM3, g3], by simp [hM3, g4], (kt.trans k2).trans k3, by show s.h.length ≤ h3.length; omega, fun j hj hjl => ?_⟩
            rcases Nat.lt_or_eq_of_le (Nat.le_of_lt_succ hj) with h | rfl
            · exact hall j h hjl
            · exact .inr hr
    · exfalso
      obtain ⟨k', hk'⟩ := hex
      obtain ⟨a1, a2, a3, _⟩ := next_some hg hk'
      have e : ((k'.toNat : Nat) : Int) = k' := by have := a1.1; omega
      rcases hall k'.toNat (by have := a1.2; omega) (by have := a1.2; omega) with h | h
      · rw [e] at h; exact a2 h
      · rw [e] at h; exact h a3
  · have hfin : groupsL l = outs := by
      have : groupsF l f done = [] := by
        cases f with
        | zero => rfl
        | succ f =>
          cases hn : nextK l done with
          | none => simp [groupsF, hn]
          | some k =>
            obtain ⟨a1, a2, _⟩ := next_some hg hn
            have hnd2 : (k :: done).Nodup := List.nodup_cons.2 ⟨a2, hnd⟩
            have := nodup_len (n := l.length) hnd2 fun y hy => by
              rcases List.mem_cons.1 hy with rfl | hy
              · exact a1
              · exact hcl.lt y hy
            simp at this; omega
      rw [hgl, this, List.append_nil]
    obtain ⟨F', hF', _⟩ := hoo.sd
    have hlt2 : ¬ (ds.length : Int) < l.length := by omega
    simp [g558_3, hM, g4, g3, hsd.len, hs.len, hlt2]
    exact hR _ _ ⟨F', by rw [hfin]; exact hF', hk, hl⟩
end GL

namespace GL
open Go

theorem sameRows_same {h : Heap} {v w : V} {l : List (List Int)} {F G : List Nat} (hs : SdF h v l F) (ht : SdF h w l G) : call p 383 [v, w] h = some (.bool true, h) := by
  refine go_eq (fn := g383) rfl rfl fun R hR => ?_
  simp [g383, hs.len, ht.len]
  refine Wc_upM (M := [4, 5, 13, 14, 15, 16, 17, 18, 19, 20, 21, 22, 23, 24, 25, 26]) rfl l.length (fun i s => s.σ 13 = .v (vi i) ∧ s.h = h) 0 (by simp) fun i s ⟨g13, gh⟩ hM J hJ => ?_
  by_cases hn : i < l.length
  · obtain ⟨x, F2, ex, hx, _⟩ := hs.loadL i hn
    obtain ⟨y, F3, ey, hy, _⟩ := ht.loadL i hn
    have e := sameInts_eq hx.sl hy.sl
    rw [decide_eq_true rfl] at e
    simp [g383_0, hM, g13, gh, hn, hs.idx 1 .i64 i hn, ht.idx 1 .i64 i hn, ex, ey, e, hs.step hn]
    exact hJ _ hn ⟨by simp, rfl⟩
  · simp [g383_0, hM, g13, gh, hn]
    exact hR

/-- an element is laid anew, whatever it leads to -/
theorem SdF.putX {α : Type} [Data α] {h : Heap} {v : V} {xs : List α} {F : List Nat} (hs : SdF h v xs F) (hn : ∀ G, F = bOf v :: G → bOf v ∉ G) (ho : OwnB h (bOf v)) {i : Nat} (hi : i < xs.length) {x' : α} {cs' : List V} {G' : List Nat} (hr : Data.rep h x' cs' G') (hG : bOf v ∉ G') :
    ∃ h' F', wrH h (bOf v) (oOf v + i * Data.sz α) cs' = some h' ∧ SdF h' v (xs.set i x') F' ∧ (∀ b ∈ F', b ∈ F ∨ b ∈ G') ∧ KeepsP (fun b => b ≠ bOf v) h h' ∧ h'.length = h.length ∧ ∀ b, OwnB h b → OwnB h' b := by
  have hlen0 := hs.1
  rcases hs with ⟨_, ⟨rfl, rfl, _⟩ | ⟨b, off, cap, rfl, hcap, hs⟩⟩
  · simp at hi
  · rcases hs with ⟨rfl, _⟩ | ⟨blk, cs, G, rfl, h1, h2, h3, h4⟩
    · simp at hi
    · obtain ⟨ds, hd⟩ := ho
      simp only [bOf, oOf] at hd ⊢
      rw [hd] at h1; cases h1
      have hbG : ∀ c ∈ G, c ≠ b := fun c hc e => by subst e; exact hn G rfl hc
      obtain ⟨F1, F2, F3, rfl, r2, r1, r3⟩ := h4.get i hi
      have hcl := h4.len
      have hle : (i + 1) * Data.sz α ≤ xs.length * Data.sz α := Nat.mul_le_mul_right _ hi
      have hs1 : (i + 1) * Data.sz α = i * Data.sz α + Data.sz α := by rw [Nat.add_mul, Nat.one_mul]
      have hcs : cs = cs.take (i * Data.sz α) ++ (cs.drop (i * Data.sz α)).take (Data.sz α) ++ cs.drop ((i + 1) * Data.sz α) := by
        rw [hs1, ← List.drop_drop, List.append_assoc, List.take_append_drop, List.take_append_drop]
      have hmid : ((cs.drop (i * Data.sz α)).take (Data.sz α)).length = Data.sz α := by simp; omega
      have hl : lay ((cs.drop (i * Data.sz α)).take (Data.sz α)) 0 cs' = some cs' := by
        unfold lay
        have hc' := Data.len hr
        rw [if_pos (by omega)]
        simp only [List.take_zero, List.nil_append, Nat.zero_add]
        rw [List.drop_of_length_le (by omega), List.append_nil]
      unfold cut at h3
      split at h3
      case isFalse => cases h3
      rename_i hle2
      simp only at hle2
      simp only [Option.some.injEq] at h3
      have hds : ds = ds.take off ++ cs ++ ds.drop (off + xs.length * Data.sz α) := by
        rw [← h3, ← List.drop_drop, List.append_assoc, List.take_append_drop, List.take_append_drop]
      have hol : (ds.take off).length = off := by simp; omega
      have htl : (cs.take (i * Data.sz α)).length = i * Data.sz α := by simp; omega
      have hl2 := layMid (a := cs.take (i * Data.sz α)) (b := cs.drop ((i + 1) * Data.sz α)) hl
      rw [← hcs, htl, Nat.add_zero] at hl2
      have hl3 := layMid (a := ds.take off) (b := ds.drop (off + xs.length * Data.sz α)) hl2
      rw [← hds, hol] at hl3
      have hb := get_lt hd
      have hk : KeepsP (fun c => c ≠ b) h (h.set b ⟨.own, ds.take off ++ (cs.take (i * Data.sz α) ++ cs' ++ cs.drop ((i + 1) * Data.sz α)) ++ ds.drop (off + xs.length * Data.sz α)⟩) := fun c blk hc hb2 _ => by
        rw [List.getElem?_set_ne (Ne.symm hc)]; exact hb2
      have hG'b : ∀ c ∈ G', c ≠ b := fun c hc e => hG (by simp only [bOf]; rw [← e]; exact hc)
      refine ⟨_, b :: (F1 ++ G' ++ F3), by rw [wrH_at hd rfl, hl3]; rfl, ⟨by simpa using hlen0, .inr ⟨b, off, cap, by simp, by simpa using hcap, .inr ⟨⟨.own, ds.take off ++ (cs.take (i * Data.sz α) ++ cs' ++ cs.drop ((i + 1) * Data.sz α)) ++ ds.drop (off + xs.length * Data.sz α)⟩, cs.take (i * Data.sz α) ++ cs' ++ cs.drop ((i + 1) * Data.sz α), _, rfl, by simp [hb], by simp, ?_, ?_⟩⟩⟩, fun c hc => by simp only [List.mem_cons, List.mem_append] at hc ⊢; rcases hc with h | (h | h) | h <;> simp [h], hk, by simp, fun c hc => hc.set hb⟩
      · have hll := (layLen hl2).1
        simp only [cut, List.length_set]
        rw [if_pos (by simp only [List.length_append] at hll ⊢; rw [hol, hll]; simp; omega)]
        rw [List.append_assoc, List.drop_append_of_le_length (by omega), List.drop_of_length_le (by omega), List.nil_append, List.take_append_of_le_length (by rw [hll]; omega), List.take_of_length_le (by rw [hll]; omega)]
      · have hset : xs.set i x' = xs.take i ++ [x'] ++ xs.drop (i + 1) := by
          rw [List.set_eq_take_append_cons_drop, if_pos hi]; simp
        rw [hset]
        refine ((r1.keeps (hk.mono fun c hc => ?_)).append (.one (Data.keeps hr (hk.mono fun c hc => hG'b c hc)))).append (r3.keeps (hk.mono fun c hc => ?_))
        · exact hbG c (by simp [hc])
        · exact hbG c (by simp [hc])


/-- what is written behind a slice's end does not touch it -/

theorem links_row {h0 h : Heap} {N : Nat} (d : DC h0 h N) (hN : N < 2 ^ 56) {lo : Nat} (hlo : h0.length < lo) (hlo2 : lo ≤ h.length) (n : Nat) (hn : n ≤ 20) (k0 : Nat) (hk0 : k0 ≤ 2) (s0 : S) (K : Ex → S → Prop) (g0 : s0.σ 0 = .v (.ptr h0.length 0)) (g3 : s0.σ 3 = .v (vi n)) (g6 : s0.σ 6 = .v .nils) (g7 : s0.σ 7 = .v (vi k0)) (gh : s0.h = h)
    (hK : ∀ s row v6 G6, (∀ k, k ∉ [6, 7, 22, 23, 24, 25, 26, 27, 28, 29, 30] → s.σ k = s0.σ k) → s.σ 6 = .v v6 → SdF s.h v6 (row : List Int) G6 → (∀ b ∈ G6, h.length ≤ b) → DC h0 s.h (N + 4) → KeepsBut h0.length h s.h → h.length ≤ s.h.length → K (.exit 2) s) : Wc p (.loop g570_0) s0 K := by
  refine Wc_dnM (M := [6, 7, 22, 23, 24, 25, 26, 27, 28, 29, 30]) rfl (fun k s => k ≤ 2 ∧ s.σ 7 = .v (vi k) ∧ ∃ (row : List Int) (v6 : V) (G6 : List Nat), row.length + k ≤ 2 ∧ s.σ 6 = .v v6 ∧ SdF s.h v6 row G6 ∧ row.Pairwise (· < ·) ∧ (∀ b ∈ G6, h.length ≤ b) ∧ (∃ c, c + k ≤ 2 ∧ DC h0 s.h (N + 2 * c)) ∧ KeepsBut h0.length h s.h ∧ h.length ≤ s.h.length) k0
    ⟨hk0, g7, [], .nils, [], by simpa using hk0, g6, SdF.nil, by simp, by simp, ⟨0, by omega, by rw [gh]; exact d⟩, by rw [gh]; exact KeepsBut.refl _ _, by rw [gh]; omega⟩ fun k s ⟨gk, g7, row, v6, G6, hx, g6, s6, r6, b6, ⟨c, hc, d⟩, kb, hl⟩ hM J hJ => ?_
  by_cases hk : 0 < k
  · have w2 : IntKind.i64.wrap ((k : Int) - 1) = (k - 1 : Nat) := by rw [IntWalk.i64_in] <;> omega
    obtain ⟨x, h1, e1, _, d1, k1, l1⟩ := d.pick (by omega) (n : Int) (by omega)
    have s6' := s6.keeps (k1.P.mono fun b hb => by have := b6 b hb; omega)
    obtain ⟨v7, h2, e2, ys, G7, s7, r7, m7, n7, G7s, k2, l2⟩ := l1Put_ok s6' r6 (by omega) (x : Int)
    simp [g570_0, hM, g0, g3, g7, g6, hk, e1, e2, w2, -Int.natCast_add]
    refine hJ (k - 1) _ (by omega) ⟨by omega, by simp, ys, v7, G7, by omega, by simp, s7, r7, fun b hb => ?_, ⟨c + 1, by omega, (d1.keeps k2).mono (by omega)⟩, (kb.trans k1).trans (k2.but _), by show h.length ≤ h2.length; omega⟩
    rcases G7s b hb with h | h
    · exact b6 b h
    · omega
  · have : k = 0 := by omega
    subst this
    simp [g570_0, hM, g7]
    exact hK _ row v6 G6 (fun k hk => by simp only [List.mem_cons, not_or] at hk; simp [hk, hM]) (by simp [g6]) s6 b6 (d.mono (by omega)) kb hl

theorem DC.links {h0 h : Heap} {N : Nat} (d : DC h0 h N) (hN : N < 2 ^ 55) : ∃ v h', call p 570 [.ptr h0.length 0] h = some (v, h') ∧ ∃ (xs : List (List Int)) (F : List Nat), SdF h' v xs F ∧ xs.length ≤ 13 ∧ (∀ b ∈ F, h.length ≤ b) ∧ DC h0 h' (N + 200) ∧ KeepsBut h0.length h h' ∧ h.length ≤ h'.length := by
  have hlt := d.lt
  obtain ⟨a, h1, e1, ha, d1, k1, l1⟩ := d.pick (by omega) 9 (by decide)
  obtain ⟨b, h2, e2, d2, k2, l2⟩ := d1.one (by omega) 20 (by decide)
  refine go (fn := g570) rfl rfl fun R hR => ?_
  have main : ∀ (n : Nat) (h3 : Heap) (M3 : Nat), n ≤ 13 → M3 ≤ N + 6 → DC h0 h3 M3 → KeepsBut h0.length h h3 → h.length ≤ h3.length → ∀ (s0 : S) (K : Ex → S → Prop), s0.σ 0 = .v (.ptr h0.length 0) → s0.σ 3 = .v (vi n) → s0.σ 4 = .v .nils → s0.σ 5 = .v (vi 0) → s0.h = h3 →
      (∀ s' (xs : List (List Int)) v G, s'.σ 0 = .v (.ptr h0.length 0) → s'.σ 3 = .v (vi n) → s'.σ 4 = .v v → Od h.length s'.h v xs G → xs.length = n → (∀ b ∈ G, h.length ≤ b) → DC h0 s'.h (N + 180) → KeepsBut h0.length h s'.h → h.length ≤ s'.h.length → K (.exit 0) s') → Wc p (.loop g570_1) s0 K := by
    intro n h3 M3 hn hM3 d3 k3 l3 s0 K g0 g3 g4 g5 gh hK
    refine Wc_upM (M := [4, 5, 6, 7, 15, 16, 17, 18, 19, 20, 21, 22, 23, 24, 25, 26, 27, 28, 29, 30, 31, 32, 33, 34]) rfl n (fun i s => i ≤ n ∧ s.σ 5 = .v (vi i) ∧ ∃ (xs : List (List Int)) (v : V) (G : List Nat), xs.length = i ∧ s.σ 4 = .v v ∧ Od h.length s.h v xs G ∧ (∀ b ∈ G, h.length ≤ b) ∧ DC h0 s.h (N + 6 + i * 6) ∧ KeepsBut h0.length h s.h ∧ h.length ≤ s.h.length) 0
      ⟨by omega, g5, [], .nils, [], rfl, g4, Od.nil (by rw [gh]; omega), by simp, by rw [gh]; exact d3.mono (by omega), by rw [gh]; exact k3, by rw [gh]; omega⟩ fun i s ⟨gi, g5, xs, v, G, hx, g4, ho, hG, d, kb, hl⟩ hM J hJ => ?_
    by_cases hi : i < n
    · have w1 : IntKind.i64.wrap ((i : Int) + 1) = (i + 1 : Nat) := by rw [IntWalk.i64_in] <;> omega
      obtain ⟨c, h4, e4, hc, d4, k4, l4⟩ := d.pick (by omega) 3 (by decide)
      simp [g570_1, hM, g0, g3, g5, hi, e4]
      refine links_row d4 (by omega) (lo := h.length) hlt (by omega) n (by omega) c (by omega) _ _ (by simp [hM, g0]) (by simp [hM, g3]) (by simp) (by simp) rfl fun s2 row v6 G6 hM2 g6 s6 b6 d6 kb6 l6 => ?_
      have ge : ∀ i, vB v i → h.length ≤ i ∧ i < s.h.length := fun i hi => ho.ge hi
      have kl : Keeps s2.h (s2.h ++ [⟨.own, [v6]⟩]) := Keeps.append _ _
      have ko : KeepsP (fun b => b ≠ h0.length) s.h (s2.h ++ [⟨.own, [v6]⟩]) := (k4.trans kb6).P.trans (kl.p _)
      have ho3 : Od h.length (s2.h ++ [⟨.own, [v6]⟩]) v xs G := ho.keeps ko (fun b hb => by have := (ge b hb).1; omega) (fun b hb => by have := hG b hb; omega) (by simp; omega)
      have no : ∀ b ∈ G6, ¬ vB v b := fun b hb hv => by have := (ge b hv).2; have := b6 b hb; omega
      obtain ⟨v', h7, e7, o7, k7, l7, b7⟩ := ho3.app (zs := [row]) (ys := [v6]) (G := G6) (by simp) (.one (show Data.rep _ row [v6] G6 from ⟨v6, rfl, s6.keep kl⟩)) no (bytes := 24) (by decide) (by simp; omega) (k := 1) rfl (n := 1) rfl
      have g4' : s2.σ 4 = .v v := by rw [hM2 4 (by decide)]; simp [g4]
      have g5' : s2.σ 5 = .v (vi i) := by rw [hM2 5 (by decide)]; simp [g5]
      simp at l7
      simp [g4', g5', g6, s6.cells, s6.cell, fillL, rdS_last, e7, w1, -Int.natCast_add]
      refine hJ _ hi ⟨hi, by simp, xs ++ [row], v', G ++ G6, by simp [hx], by simp, o7, fun b hb => ?_, ?_, ?_, by show h.length ≤ h7.length; omega⟩
      · rcases List.mem_append.1 hb with h | h
        · exact hG b h
        · have := b6 b h; omega
      · exact ((d6.keeps kl).far k7 fun j hj hv => by have := (ge j hv).1; omega).mono (by omega)
      · exact ((kb.trans (k4.trans kb6)).trans (kl.but _)).far k7 fun j hj _ hv => by have := (ge j hv).1; omega
    · have : i = n := by omega
      simp [g570_1, hM, g3, g5, hi]
      exact hK _ xs v G (by simp [hM, g0]) (by simp [hM, g3]) (by simp [g4]) ho (by omega) hG (d.mono (by omega)) kb hl
  have tail : ∀ (H : Heap) (xs : List (List Int)) (v : V) (G : List Nat), Od h.length H v xs G → xs.length ≤ 13 → (∀ b ∈ G, h.length ≤ b) → DC h0 H (N + 180) → KeepsBut h0.length h H → h.length ≤ H.length →
      (xs.length = 0 → R v H) ∧ (0 < xs.length → ∃ (q : Bool) (H2 : Heap), call p 92 [.ptr h0.length 0, vi 30] H = some (.bool q, H2) ∧ idxV 1 v (.int .i64 0) = some (.ptr (bOf v) (oOf v)) ∧ (q = false → R v H2) ∧ (q = true → ∃ H3, wrH (H2 ++ [⟨.own, [vi xs.length]⟩]) (bOf v) (oOf v) [.slice H2.length 0 1 (.k 1)] = some H3 ∧ R v H3)) := by
    intro H xs v G ho hx hG d kb hl
    obtain ⟨F', hF, hF'⟩ := ho.sd
    have hFge : ∀ b ∈ F', h.length ≤ b := fun b hb => by
      rcases hF' with rfl | ⟨rfl, hv, _⟩
      · exact hG b hb
      · rcases List.mem_cons.1 hb with rfl | h
        · exact (ho.ge hv).1
        · exact hG b h
    refine ⟨fun _ => hR _ _ ⟨xs, F', hF, hx, hFge, d.mono (by omega), kb, hl⟩, fun hp => ?_⟩
    obtain ⟨q, H2, e2, d2, k2, l2⟩ := d.one (by omega) 30 (by decide)
    have hF2 := hF.keeps (k2.P.mono fun b hb => by have := hFge b hb; omega)
    have i0 := hF.idx 1 .i64 0 hp
    simp at i0
    refine ⟨q, H2, e2, i0, fun _ => hR _ _ ⟨xs, F', hF2, hx, hFge, d2.mono (by omega), kb.trans k2, by omega⟩, fun _ => ?_⟩
    have hin := hF.bIn hp
    rcases hF' with rfl | ⟨rfl, hv, hn, cs, hcs⟩
    · exfalso
      obtain ⟨_, _, ⟨rfl, rfl, rfl⟩ | ⟨b, cs, rfl, hb, h3, hr, hn⟩ | ⟨b, rfl, rfl, rfl, _⟩⟩ := ho
      · simp at hp
      · exact hn hin
      · simp at hp
    · have kl : Keeps H2 (H2 ++ [⟨.own, [vi xs.length]⟩]) := Keeps.append _ _
      have hge := (ho.ge hv).1
      have hcs2 := kl _ _ (k2 _ _ (by omega) hcs (by simp)) (by simp)
      have hlt2 : bOf v < H2.length := by have := (ho.ge hv).2; omega
      have hrow : SdF (H2 ++ [⟨.own, [vi xs.length]⟩]) (.slice H2.length 0 1 (.k 1)) [(xs.length : Int)] [H2.length] := SdF.lit (F := []) (.one (show Data.rep H2 (xs.length : Int) [vi xs.length] [] from ⟨rfl, rfl⟩)) 1 rfl (by simp)
      obtain ⟨H3, F3, e3, s3, q3, k3, l3, _⟩ := (hF2.keep kl).putX (fun G' e => by injection e with _ e; rw [← e]; exact hn) ⟨cs, hcs2⟩ (i := 0) hp (x' := [(xs.length : Int)]) (cs' := [.slice H2.length 0 1 (.k 1)]) (G' := [H2.length]) ⟨_, rfl, hrow⟩ (by simp; omega)
      simp only [Nat.zero_mul, Nat.add_zero] at e3
      simp at l3
      refine ⟨H3, e3, hR _ _ ⟨_, F3, s3, by simpa using hx, fun b hb => ?_, ((d2.keeps kl).far k3 fun j hj => by omega).mono (by omega), ((kb.trans k2).trans (kl.but _)).far k3 fun j hj _ e => by omega, by omega⟩⟩
      rcases q3 b hb with h | h
      · exact hFge b h
      · simp at h; omega
  cases b with
  | false =>
    simp [g570, e1, e2]
    refine main a h2 (N + 4) (by omega) (by omega) (d2.mono (by omega)) (k1.trans k2) (by omega) _ _ (by simp) (by simp) (by simp) (by simp) rfl fun s xs v G g0 g3 g4 ho hx hG d kb hl => ?_
    obtain ⟨t1, t2⟩ := tail s.h xs v G ho (by omega) hG d kb hl
    by_cases hp : 0 < xs.length
    · obtain ⟨q, H2, f1, f2, f3, f4⟩ := t2 hp
      have hp2 : 0 < a := by omega
      cases q with
      | false => simp [g0, g3, g4, hp2, f1]; exact f3 rfl
      | true =>
        obtain ⟨H3, f5, f6⟩ := f4 rfl
        rw [hx] at f5
        simp [g0, g3, g4, hp2, f1, f2, fillL, f5]; exact f6
    · have hp2 : ¬ 0 < a := by omega
      simp [g0, g3, g4, hp2]; exact t1 (by omega)
  | true =>
    obtain ⟨c, h3, e3, hc, d3, k3, l3⟩ := d2.pick (by omega) 2 (by decide)
    have w1 : IntKind.i64.wrap (12 + (c : Int)) = (12 + c : Nat) := by rw [IntWalk.i64_in] <;> omega
    simp [g570, e1, e2, e3, w1, -Int.natCast_add]
    refine main (12 + c) h3 (N + 6) (by omega) (by omega) (d3.mono (by omega)) ((k1.trans k2).trans k3) (by omega) _ _ (by simp) (by simp) (by simp) (by simp) rfl fun s xs v G g0 g3 g4 ho hx hG d kb hl => ?_
    obtain ⟨t1, t2⟩ := tail s.h xs v G ho (by omega) hG d kb hl
    have hp : 0 < xs.length := by omega
    obtain ⟨q, H2, f1, f2, f3, f4⟩ := t2 hp
    have hp2 : 0 < 12 + c := by omega
    cases q with
    | false => simp [g0, g3, g4, hp2, f1, -Int.natCast_add]; exact f3 rfl
    | true =>
      obtain ⟨H3, f5, f6⟩ := f4 rfl
      rw [hx] at f5
      simp [g0, g3, g4, hp2, f1, f2, fillL, f5, -Int.natCast_add]; exact f6
end GL

namespace GL
open Go

theorem drawGoodLinks_ok {h : Heap} {v : V} {bs : List Byte} (hs : Sl h v bs) : ∃ w h', call p 556 [v] h = some (w, h') ∧ ∃ (xs : List (List Int)) (F : List Nat), SdF h' w xs F ∧ Keeps h h' ∧ h.length ≤ h'.length := by
  have d0 := DC.start hs
  obtain ⟨w, h1, e1, xs, F, s1, _, _, d1, k1, l1⟩ := d0.links (by decide)
  simp at l1 e1
  refine go (fn := g556) rfl rfl fun R hR => ?_
  simp [g556, hs.cells, hs.cell, fillL, e1]
  exact hR _ _ ⟨xs, F, s1, d1.keep, by omega⟩
end GL

namespace GL
open Go

/-- from one group a link leads into another -/
def leadsG (l : List (List Int)) (g k : List Int) : Prop := ∃ x ∈ g, ∃ y, Edge l x y ∧ y ∈ k
open Classical in
noncomputable def shrinkRow (l : List (List Int)) (i : Nat) (m : Nat) : List Int := ((List.range m).filter fun k => decide (k ≠ i ∧ leadsG l ((groupsL l).getD i []) ((groupsL l).getD k []))).map fun (k : Nat) => (k : Int)
noncomputable def shrinkL (l : List (List Int)) : List (List Int) := (List.range (groupsL l).length).map fun i => shrinkRow l i (groupsL l).length
open Classical in
theorem shrinkRow_succ (l : List (List Int)) (i m : Nat) : shrinkRow l i (m + 1) = if m ≠ i ∧ leadsG l ((groupsL l).getD i []) ((groupsL l).getD m []) then shrinkRow l i m ++ [(m : Int)] else shrinkRow l i m := by
  simp only [shrinkRow, List.range_succ, List.filter_append, List.map_append]
  split
  · rename_i h; rw [List.filter_cons, if_pos (by simpa using h)]; simp
  · rename_i h; rw [List.filter_cons, if_neg (by simpa using h)]; simp
theorem getD_in {α : Type} {xs : List α} {i : Nat} (hi : i < xs.length) (d : α) : xs.getD i d = xs[i] := by simp [hi]
theorem shrinkRow_rising (l : List (List Int)) (i m : Nat) : (shrinkRow l i m).Pairwise (· < ·) := by
  rw [shrinkRow, List.pairwise_map]
  exact (List.pairwise_lt_range.filter _).imp fun h => by omega
theorem mem_shrinkRow {l : List (List Int)} {i m : Nat} {x : Int} : x ∈ shrinkRow l i m ↔ ∃ k : Nat, x = k ∧ k < m ∧ k ≠ i ∧ leadsG l ((groupsL l).getD i []) ((groupsL l).getD k []) := by
  simp only [shrinkRow, List.mem_map, List.mem_filter, List.mem_range, decide_eq_true_eq]
  exact ⟨fun ⟨k, ⟨h1, h2, h3⟩, e⟩ => ⟨k, e.symm, h1, h2, h3⟩, fun ⟨k, e, h1, h2, h3⟩ => ⟨k, ⟨h1, h2, h3⟩, e.symm⟩⟩
theorem shrinkL_len (l : List (List Int)) : (shrinkL l).length = (groupsL l).length := by simp [shrinkL]
theorem shrinkL_get (l : List (List Int)) {i : Nat} (hi : i < (shrinkL l).length) : (shrinkL l)[i] = shrinkRow l i (groupsL l).length := by simp [shrinkL]
section
variable {l : List (List Int)} (hg : linksB l = true)
include hg
theorem groupsL_ne {i : Nat} (hi : i < (groupsL l).length) : 0 < (groupsL l)[i].length := by
  obtain ⟨k, hk, e, _⟩ := (groupsL_facts hg).2.2 i hi
  rw [e]; exact List.length_pos_of_mem (self_groupL hg hk)
theorem groupsL_disj {i j : Nat} (hi : i < (groupsL l).length) (hj : j < (groupsL l).length) {x : Int} (h1 : x ∈ (groupsL l)[i]) (h2 : x ∈ (groupsL l)[j]) : i = j := by
  have hn := (groupsL_facts hg).1
  have hp := (List.pairwise_flatten.1 hn).2
  rcases Nat.lt_trichotomy i j with h | h | h
  · exact absurd rfl (List.pairwise_iff_getElem.1 hp i j hi hj h x h1 x h2)
  · exact h
  · exact absurd rfl (List.pairwise_iff_getElem.1 hp j i hj hi h x h2 x h1)
theorem groupsL_len : (groupsL l).length ≤ l.length := by
  have h : ∀ n, n ≤ (groupsL l).length → n ≤ ((groupsL l).take n).flatten.length := by
    intro n
    induction n with
    | zero => simp
    | succ n ih =>
      intro hn
      rw [flat_take (by omega), List.length_append]
      have := groupsL_ne hg (i := n) (by omega)
      have := ih (by omega)
      omega
  have := h _ (Nat.le_refl _)
  rw [List.take_length, groupsL_flat hg] at this
  exact this
theorem shrink_lt {i : Nat} (hi : i < (groupsL l).length) {x : Int} (hx : x ∈ shrinkRow l i (groupsL l).length) : 0 ≤ x ∧ x < i := by
  obtain ⟨k, rfl, hk, hne, a, ha, b, he, hb⟩ := mem_shrinkRow.1 hx
  rw [getD_in hi] at ha
  rw [getD_in hk] at hb
  obtain ⟨n, hn, e, hr⟩ := (groupsL_facts hg).2.2 i hi
  rw [e] at ha
  have := hr b (((mem_groupL hg hn).1 ha).1.step he)
  obtain ⟨g, hgm, hbg⟩ := List.mem_flatten.1 this
  obtain ⟨j, hj, rfl⟩ := List.getElem_of_mem hgm
  have hj1 : j < i + 1 := by simp at hj; omega
  have hj2 : j < (groupsL l).length := by simp at hj; omega
  rw [List.getElem_take] at hbg
  have := groupsL_disj hg hj2 hk hbg hb
  omega
theorem shrink_links : linksB (shrinkL l) = true := by
  obtain ⟨l12, _⟩ := linksB_facts hg
  have hlen := groupsL_len hg
  simp only [linksB, Bool.and_eq_true, decide_eq_true_eq]
  refine ⟨by rw [shrinkL_len]; omega, List.all_eq_true.2 fun xs hx => ?_⟩
  obtain ⟨i, hi, rfl⟩ := List.getElem_of_mem hx
  rw [shrinkL_get]
  have hi2 : i < (groupsL l).length := by rw [shrinkL_len] at hi; exact hi
  simp only [risB, decide_eq_true_eq]
  refine ⟨fun x hx => ?_, shrinkRow_rising _ _ _⟩
  have := shrink_lt hg hi2 hx
  rw [shrinkL_len]; omega
theorem shrink_edge {a b : Int} (e : Edge (shrinkL l) a b) : b < a := by
  obtain ⟨i, hi, rfl, hb⟩ := e
  rw [shrinkL_get] at hb
  exact (shrink_lt hg (by rw [shrinkL_len] at hi; exact hi) hb).2
theorem shrink_rch {a b : Int} (r : Rch (shrinkL l) a b) : b ≤ a := by
  induction r with
  | refl => exact Int.le_refl _
  | step _ e ih => have := shrink_edge hg e; omega
end

open Classical in
/-- nothing leads to itself -/
noncomputable def roundB (l : List (List Int)) : Bool := decide (∀ i (hi : i < l.length), (groupL l (i : Int)).length ≤ 1 ∧ (i : Int) ∉ l[i])
theorem shrink_round {l : List (List Int)} (hg : linksB l = true) : roundB (shrinkL l) = true := by
  simp only [roundB, decide_eq_true_eq]
  have hl := shrink_links hg
  intro i hi
  have hin : InR (shrinkL l) (i : Int) := ⟨by omega, by omega⟩
  refine ⟨?_, fun h => by have := shrink_edge hg (memE_of hi h); omega⟩
  have hn : (groupL (shrinkL l) (i : Int)).Nodup := (groupL_rising _ _).imp fun h => by omega
  have := hn.length_le_of_subset (l₂ := [(i : Int)]) fun x hx => by
    obtain ⟨r1, r2⟩ := (mem_groupL hl hin).1 hx
    have := shrink_rch hg r1
    have := shrink_rch hg r2
    simp; omega
  simpa using this

theorem IsRoundless_ok {h : Heap} {v : V} {l : List (List Int)} {F : List Nat} (hs : SdF h v l F) :
    ∃ r h', call p 511 [v] h = some (r, h') ∧ r = .tup [.bool (linksB l && roundB l), .bool (linksB l)] ∧ Keeps h h' ∧ h.length ≤ h'.length := by
  obtain ⟨_, h1, e1, rfl, k1, l1⟩ := GoodLinks_ok hs
  refine go (fn := g511) rfl rfl fun R hR => ?_
  cases hg : linksB l with
  | false =>
    rw [hg] at e1; simp [g511, e1]
    exact hR _ _ ⟨by simp [hg], k1, l1⟩
  | true =>
    rw [hg] at e1
    have bad : ∀ {i : Nat} (hi : i < l.length), ¬ ((groupL l (i : Int)).length ≤ 1 ∧ (i : Int) ∉ l[i]) → roundB l = false := fun hi hn => by
      simp only [roundB, decide_eq_false_iff_not]; exact fun h => hn (h _ hi)
    simp [g511, e1, hs.len]
    refine Wc_upM (M := [2, 3, 4, 5, 11, 12, 13, 14, 15, 16, 17, 18, 19, 20, 21, 22, 23, 24, 25, 26]) rfl l.length (fun i s => s.σ 11 = .v (vi i) ∧ Keeps h s.h ∧ h.length ≤ s.h.length ∧ ∀ j, j < i → ∀ (hj : j < l.length), (groupL l (j : Int)).length ≤ 1 ∧ (j : Int) ∉ l[j]) 0
      ⟨by simp, k1, l1, by simp⟩ fun i s ⟨g11, hk, hl, hall⟩ hM J hJ => ?_
    by_cases hi : i < l.length
    · have hs' := hs.keep hk
      have hin : InR l (i : Int) := ⟨by omega, by omega⟩
      obtain ⟨x, F2, ex, hx, _⟩ := hs'.loadL i hi
      obtain ⟨r, h2, e2, G, s2, f2, k2, l2⟩ := group_ok hs' hg (i : Int) hin
      have hx2 := hx.keep k2
      have e3 := containsI_eq hx2.sl (i : Int)
      by_cases hgl : 1 < (groupL l (i : Int)).length
      · have hgl2 : (1 : Int) < (groupL l (i : Int)).length := by omega
        simp [g511_0, hM, g11, hi, hs'.idx 1 .i64 i hi, ex, e2, s2.len, hgl2, hgl]
        exact hR _ _ ⟨by simp [bad hi fun h => absurd h.1 (by omega), hg], hk.trans k2, by omega⟩
      · have hgl2 : ¬ (1 : Int) < (groupL l (i : Int)).length := by omega
        by_cases hm : (i : Int) ∈ l[i]
        · rw [decide_eq_true hm] at e3
          simp [g511_0, hM, g11, hi, hs'.idx 1 .i64 i hi, ex, e2, s2.len, hgl, hgl2, e3]
          exact hR _ _ ⟨by simp [bad hi fun h => h.2 hm, hg], hk.trans k2, by omega⟩
        · rw [decide_eq_false hm] at e3
          simp [g511_0, hM, g11, hi, hs'.idx 1 .i64 i hi, ex, e2, s2.len, hgl, hgl2, e3, hs.step hi]
          refine hJ _ hi ⟨by simp, hk.trans k2, by show h.length ≤ h2.length; omega, fun j hj hjl => ?_⟩
          rcases Nat.lt_or_eq_of_le (Nat.le_of_lt_succ hj) with h | rfl
          · exact hall j h hjl
          · exact ⟨by omega, hm⟩
    · have hr : roundB l = true := by simp only [roundB, decide_eq_true_eq]; exact fun j hj => hall j (by omega) hj
      simp [g511_0, hM, g11, hi]
      exact hR _ _ ⟨by simp [hr, hg], hk, hl⟩
theorem IsRoundlessS_ok {h : Heap} {v : V} {l : List (List Int)} {F : List Nat} (hs : SdF h v l F) :
    ∃ r h', call p 513 [v] h = some (r, h') ∧ r = .tup [.bool (linksB l && roundB l), .bool (linksB l)] ∧ Keeps h h' ∧ h.length ≤ h'.length := by
  have e1 := GoodLinksS_eq hs
  refine go (fn := g513) rfl rfl fun R hR => ?_
  cases hg : linksB l with
  | false =>
    rw [hg] at e1; simp [g513, e1]
    exact hR _ _ ⟨by simp [hg], Keeps.refl _, Nat.le_refl _⟩
  | true =>
    rw [hg] at e1
    have bad : ∀ {i : Nat} (hi : i < l.length), ¬ ((groupL l (i : Int)).length ≤ 1 ∧ (i : Int) ∉ l[i]) → roundB l = false := fun hi hn => by
      simp only [roundB, decide_eq_false_iff_not]; exact fun h => hn (h _ hi)
    simp [g513, e1, hs.len]
    refine Wc_upM (M := [2, 3, 4, 5, 11, 12, 13, 14, 15, 16, 17, 18, 19, 20, 21, 22, 23, 24, 25, 26]) rfl l.length (fun i s => s.σ 11 = .v (vi i) ∧ Keeps h s.h ∧ h.length ≤ s.h.length ∧ ∀ j, j < i → ∀ (hj : j < l.length), (groupL l (j : Int)).length ≤ 1 ∧ (j : Int) ∉ l[j]) 0
      ⟨by simp, Keeps.refl _, Nat.le_refl _, by simp⟩ fun i s ⟨g11, hk, hl, hall⟩ hM J hJ => ?_
    by_cases hi : i < l.length
    · have hs' := hs.keep hk
      have hin : InR l (i : Int) := ⟨by omega, by omega⟩
      obtain ⟨x, F2, ex, hx, _⟩ := hs'.loadL i hi
      have e3 := l1Has_eq hx.sl (i : Int)
      by_cases hm : (i : Int) ∈ l[i]
      · rw [decide_eq_true hm] at e3
        simp [g513_0, hM, g11, hi, hs'.idx 1 .i64 i hi, ex, e3]
        exact hR _ _ ⟨by simp [bad hi fun h => h.2 hm, hg], hk, hl⟩
      · rw [decide_eq_false hm] at e3
        obtain ⟨r, h2, e2, o2, k2, l2⟩ := l9Group_ok hs' hg (i : Int) hin
        by_cases hgl : 1 < (groupL l (i : Int)).length
        · have hgl2 : (1 : Int) < (groupL l (i : Int)).length := by omega
          simp [g513_0, hM, g11, hi, hs'.idx 1 .i64 i hi, ex, e2, o2.sl.len, hgl2, hgl, e3]
          exact hR _ _ ⟨by simp [bad hi fun h => absurd h.1 (by omega), hg], hk.trans k2, by omega⟩
        · have hgl2 : ¬ (1 : Int) < (groupL l (i : Int)).length := by omega
          simp [g513_0, hM, g11, hi, hs'.idx 1 .i64 i hi, ex, e2, o2.sl.len, hgl, hgl2, e3, hs.step hi]
          refine hJ _ hi ⟨by simp, hk.trans k2, by show h.length ≤ h2.length; omega, fun j hj hjl => ?_⟩
          rcases Nat.lt_or_eq_of_le (Nat.le_of_lt_succ hj) with h | rfl
          · exact hall j h hjl
          · exact ⟨by omega, hm⟩
    · have hr : roundB l = true := by simp only [roundB, decide_eq_true_eq]; exact fun j hj => hall j (by omega) hj
      simp [g513_0, hM, g11, hi]
      exact hR _ _ ⟨by simp [hr, hg], hk, hl⟩
end GL

namespace GL
open Go

theorem KeepsP.low {h h1 h2 : Heap} {n : Nat} (hk : Keeps h h1) (hp : KeepsP (fun b => b < n) h1 h2) (hn : h.length ≤ n) : Keeps h h2 := Keeps.far (n := h.length) hk hp (Nat.le_refl _) fun i hi => by omega

open Classical in
noncomputable def toQ (l : List (List Int)) (k : List Int) (x : Int) : Bool := decide (∃ z, Edge l x z ∧ z ∈ k)
theorem toQ_iff {l : List (List Int)} {k : List Int} {x : Int} : toQ l k x = true ↔ ∃ z, Edge l x z ∧ z ∈ k := by simp [toQ]
/-- from a group's node a link leads into another group: the question that 'Shrink' asks -/
theorem shrink1_ok {h : Heap} {b1 b2 : Nat} {v y : V} {l : List (List Int)} {F Gy : List Nat} {k : List Int} (hb1 : h[b1]? = some ⟨.own, [v]⟩) (hb2 : h[b2]? = some ⟨.own, [y]⟩) (hs : SdF h v l F) (hg : linksB l = true) (hy : SdF h y k Gy) {x : Int} (hx : InR l x) :
    ∃ h', call p 563 [vi x, .ptr b1 0, .ptr b2 0] h = some (.bool (toQ l k x), h') ∧ Keeps h h' ∧ h.length ≤ h'.length := by
  have r1 : rdH h b1 0 1 = some [v] := by rw [rdH_at hb1 (by simp)]; rfl
  have r2 : rdH h b2 0 1 = some [y] := by rw [rdH_at hb2 (by simp)]; rfl
  obtain ⟨n, rfl⟩ := Int.eq_ofNat_of_zero_le hx.1
  have hn : n < l.length := by have := hx.2; omega
  obtain ⟨w, F2, ew, hw, _⟩ := hs.loadL n hn
  have iw := hs.idx 1 .i64 n hn
  simp only [Nat.mul_one] at iw
  obtain ⟨l12, hf⟩ := linksB_facts hg
  obtain ⟨r, h2, e2, G2, s2, f2, k2, l2⟩ := both_ok hw.sl hy.sl (by have := (hf n hn).2.2; omega)
  have hmf := meets_filter l[n] k
  have hz := s2.len
  generalize (l[n].filter fun n => decide (n ∈ k)).length = L at hz hmf
  have hq : toQ l k (n : Int) = decide (0 < L) := by
    rw [Bool.eq_iff_iff, toQ_iff, decide_eq_true_iff]
    constructor
    · rintro ⟨z, ⟨n', hn', e, hz⟩, hk⟩
      have : n' = n := by omega
      subst this
      have : ¬ L = 0 := fun h0 => hmf.1 h0 ⟨z, hz, hk⟩
      omega
    · intro h0
      have : meets l[n] k := Classical.byContradiction fun h => by have := hmf.2 h; omega
      obtain ⟨z, hz, hk⟩ := this
      exact ⟨z, memE_of hn hz, hk⟩
  rw [hq]
  have : ∃ r h'', call p 563 [vi n, .ptr b1 0, .ptr b2 0] h = some (r, h'') ∧ r = .bool (decide (0 < L)) ∧ h'' = h2 := by
    refine go (fn := g563) rfl rfl fun R hR => ?_
    by_cases h0 : 0 < L
    · simp [g563, r1, r2, iw, ew, e2, hz, h0]
      exact hR _ _ ⟨by simp [h0], rfl⟩
    · simp [g563, r1, r2, iw, ew, e2, hz, h0]
      exact hR _ _ ⟨by simp [h0], rfl⟩
  obtain ⟨_, _, e, rfl, rfl⟩ := this
  exact ⟨_, e, k2, l2⟩

theorem Shrink_ok {h : Heap} {v : V} {l : List (List Int)} {F : List Nat} (hs : SdF h v l F) :
    ∃ r h', call p 509 [v] h = some (r, h') ∧ ∃ o G, r = .tup [o, .bool (linksB l)] ∧ SdF h' o (if linksB l = true then shrinkL l else []) G ∧ Keeps h h' ∧ h.length ≤ h'.length := by
  have k0 : Keeps h (h ++ [⟨.own, [v]⟩]) := Keeps.append _ _
  have hb0 : (h ++ [⟨.own, [v]⟩])[h.length]? = some ⟨.own, [v]⟩ := get_last _ _
  have r0 : rdH (h ++ [⟨.own, [v]⟩]) h.length 0 1 = some [v] := by rw [rdH_at hb0 (by simp)]; rfl
  obtain ⟨_, h1, e1, rfl, k1, l1⟩ := GoodLinks_ok (hs.keep k0)
  refine go (fn := g509) rfl rfl fun R hR => ?_
  cases hg : linksB l with
  | false =>
    rw [hg] at e1
    simp at l1
    simp [g509, hs.cells, hs.cell, r0, e1]
    exact hR _ _ ⟨.nils, [], by rw [hg], by simp [hg]; exact SdF.nil, k0.trans k1, by omega⟩
  | true =>
    rw [hg] at e1
    have r1 := rdH_keep k1 r0
    have hb1 := k1 _ _ hb0 (by simp)
    have hs1 := (hs.keep k0).keep k1
    obtain ⟨gv, h2, e2, G2, s2, k2, l2⟩ := groups_ok hs1 hg
    have hgl := groupsL_len hg
    obtain ⟨l12, _⟩ := linksB_facts hg
    have kl := Keeps.append h2 [⟨.own, []⟩]
    have k02 := (k0.trans k1).trans k2
    have hb3 := kl _ _ (k2 _ _ hb1 (by simp)) (by simp)
    have s3 := s2.keep kl
    have hs3 := (hs1.keep k2).keep kl
    simp at l1
    simp [g509, hs.cells, hs.cell, r0, e1, r1, e2, fillL, s2.len]
    refine Wc_upM (M := [5, 6, 7, 8, 9, 10, 11, 20, 21, 22, 23, 24, 25, 26, 27, 28, 29, 30, 31, 32, 33, 34, 35, 36, 37, 38, 39, 40, 41, 42, 43, 44, 45, 46, 47, 48, 49, 50, 51]) rfl (groupsL l).length
      (fun i s => i ≤ (groupsL l).length ∧ s.σ 20 = .v (vi i) ∧ (∃ v5 Go, s.σ 5 = .v v5 ∧ Od h2.length s.h v5 ((List.range i).map fun i => shrinkRow l i (groupsL l).length) Go) ∧ KeepsP (fun b => b < h2.length) h2 s.h ∧ h2.length ≤ s.h.length) 0
      ⟨by omega, by simp, ⟨.slice h2.length 0 0 (.k 0), [], by simp, Od.empty (Nat.le_refl _) (by simp)⟩, kl.p _, by simp⟩ fun i s ⟨gi, g20, ⟨v5, Go, g5, hoo⟩, hk, hl⟩ hM J hJ => ?_
    have hlow : ∀ {b}, b ∈ G2 → b < h2.length := fun hb => by obtain ⟨blk, h1, _⟩ := s2.lt hb; exact get_lt h1
    have hlowF : ∀ {b}, b ∈ F → b < h2.length := fun hb => by obtain ⟨blk, h1, _⟩ := (hs1.keep k2).lt hb; exact get_lt h1
    by_cases hi : i < (groupsL l).length
    · have s2s := s2.keeps (hk.mono fun b hb => hlow hb)
      have hss := (hs1.keep k2).keeps (hk.mono fun b hb => hlowF hb)
      have hbs := hk _ _ (get_lt (k2 _ _ hb1 (by simp))) (k2 _ _ hb1 (by simp)) (by simp)
      obtain ⟨x, F2, ex, hx, hF2⟩ := s2s.loadL i hi
      have w1 : IntKind.i64.wrap ((i : Int) + 1) = (i + 1 : Nat) := by rw [IntWalk.i64_in] <;> omega
      obtain ⟨kk, hkk, ekk, _⟩ := (groupsL_facts hg).2.2 i hi
      have kls := Keeps.append s.h [⟨.own, []⟩]
      simp [g509_1, hM, g20, g5, hi, s2s.idx 1 .i64 i hi, ex, fillL, s2.len]
      refine Wc_upM (M := [8, 9, 10, 11, 28, 29, 30, 31, 32, 33, 34, 35, 36, 37, 38, 39, 40, 41, 42, 43, 44, 45, 46]) rfl (groupsL l).length
        (fun j t => j ≤ (groupsL l).length ∧ t.σ 28 = .v (vi j) ∧ (∃ v8, t.σ 8 = .v v8 ∧ Out s.h.length t.h v8 (shrinkRow l i j)) ∧ KeepsP (fun b => b < s.h.length) s.h t.h ∧ s.h.length ≤ t.h.length) 0
        ⟨by omega, by simp, ⟨.slice s.h.length 0 0 (.k 0), by simp, by simpa [shrinkRow] using Out.empty (Nat.le_refl _) (by simp)⟩, kls.p _, by simp⟩ fun j t ⟨gj, g28, ⟨v8, g8, ho⟩, hkt, hlt⟩ hM2 J2 hJ2 => ?_
      by_cases hj : j < (groupsL l).length
      · have lowS : ∀ {b}, b < h2.length → b < s.h.length := fun hb => by omega
        have s2t := s2s.keeps (hkt.mono fun b hb => lowS (hlow hb))
        have hst := hss.keeps (hkt.mono fun b hb => lowS (hlowF hb))
        have hbt := hkt _ _ (get_lt hbs) hbs (by simp)
        have hxt := hx.keeps (hkt.mono fun b hb => lowS (hlow (hF2 b hb)))
        obtain ⟨y, F3, ey, hy, _⟩ := s2t.loadL j hj
        have w2 : IntKind.i64.wrap ((j : Int) + 1) = (j + 1 : Nat) := by rw [IntWalk.i64_in] <;> omega
        -- a box for the other group
        obtain ⟨H, hH⟩ : ∃ H : Heap, H = t.h ++ [⟨.own, [y]⟩] := ⟨_, rfl⟩
        have ka : Keeps t.h H := by rw [hH]; exact Keeps.append _ _
        have hbH : H[t.h.length]? = some ⟨.own, [y]⟩ := by rw [hH]; exact get_last _ _
        have est : wrH (t.h ++ [⟨.own, [.nils]⟩]) t.h.length 0 [y] = some H := by
          rw [wrH_at (get_last _ _) rfl, hH]; simp [lay]
        have hlH : t.h.length ≤ H.length := by rw [hH]; simp
        obtain ⟨_, h4, e4, rfl, k4, l4⟩ := containsIg_ok (hxt.keep ka).sl (f := 563) (capt := [.ptr h.length 0, .ptr t.h.length 0]) (q := toQ l (groupsL l)[j]) fun h' hk' n hn => by
          have hnin : InR l n := by rw [ekk] at hn; exact groupL_in hg hkk hn
          exact shrink1_ok (hk' _ _ (ka _ _ hbt (by simp)) (by simp)) (hk' _ _ hbH (by simp)) ((hst.keep ka).keep hk') hg ((hy.keep ka).keep hk') hnin
        have hq : ((groupsL l)[i].any (toQ l (groupsL l)[j])) = true ↔ leadsG l ((groupsL l).getD i []) ((groupsL l).getD j []) := by
          rw [getD_in hi, getD_in hj, List.any_eq_true]
          simp [leadsG, toQ_iff]
        have hsucc := shrinkRow_succ l i j
        generalize ((groupsL l)[i].any (toQ l (groupsL l)[j])) = q at e4 hq
        have ho4 := ho.keeps ((ka.trans k4).p fun _ => True) (fun _ _ => trivial) (by omega)
        have lowk : KeepsP (fun b => b < s.h.length) s.h h4 := hkt.trans ((ka.trans k4).p _)
        have hlr : (shrinkRow l i j).length ≤ 2 ^ 20 := by
          simp only [shrinkRow, List.length_map]
          exact Nat.le_trans (List.length_filter_le ..) (by simp; omega)
        by_cases hij : i = j
        · subst hij
          rw [if_neg (fun h => h.1 rfl)] at hsucc
          simp [g509_0, hM2, hM, g28, g8, hj, s2t.idx 1 .i64 i hj, ey, hy.cells, hy.cell, est, e4, w2, -Int.natCast_add]
          exact hJ2 _ hj ⟨hj, by simp, ⟨v8, by simp [g8], by rw [hsucc]; exact ho4⟩, lowk, by show s.h.length ≤ h4.length; omega⟩
        · have hij2 : ¬ (i : Int) = (j : Int) := by omega
          cases q with
          | false =>
            rw [if_neg (fun h => by have := hq.2 h.2; cases this)] at hsucc
            simp [g509_0, hM2, hM, g28, g8, hj, hij, hij2, s2t.idx 1 .i64 j hj, ey, hy.cells, hy.cell, est, e4, w2, -Int.natCast_add]
            exact hJ2 _ hj ⟨hj, by simp, ⟨v8, by simp [g8], by rw [hsucc]; exact ho4⟩, lowk, by show s.h.length ≤ h4.length; omega⟩
          | true =>
            rw [if_pos ⟨fun h => hij h.symm, hq.1 rfl⟩] at hsucc
            obtain ⟨v9, h5, e5, o5, k5, l5⟩ := ho4.one (j : Int) hlr
            simp [g509_0, hM2, hM, g28, g8, hj, hij, hij2, s2t.idx 1 .i64 j hj, ey, hy.cells, hy.cell, est, e4, fillL, rdS_last, e5, w2, -Int.natCast_add]
            exact hJ2 _ hj ⟨hj, by simp, ⟨v9, by simp, by rw [hsucc]; exact o5⟩, lowk.trans (k5.mono fun b hb hv => by have := (ho4.ge hv).1; omega), by show s.h.length ≤ h5.length; omega⟩
      · have : j = (groupsL l).length := by omega
        subst this
        obtain ⟨Gr, sr, fr⟩ := ho.fr
        have klt := Keeps.append t.h [⟨.own, [v8]⟩]
        have lowv : ∀ b, vB v5 b → b < s.h.length := fun b hb => (hoo.ge hb).2
        have hGol : ∀ b ∈ Go, b < s.h.length := fun b hb => by
          obtain ⟨F', hF', h3⟩ := hoo.sd
          have : b ∈ F' := by rcases h3 with rfl | ⟨rfl, _⟩; exact hb; exact List.mem_cons_of_mem _ hb
          obtain ⟨blk, h1, _⟩ := hF'.lt this
          exact get_lt h1
        have hoo3 : Od h2.length (t.h ++ [⟨.own, [v8]⟩]) v5 ((List.range i).map fun i => shrinkRow l i (groupsL l).length) Go := hoo.keeps (hkt.trans (klt.p _)) lowv hGol (by simp; omega)
        obtain ⟨v6, h7, e7, o7, k7, l7, _⟩ := hoo3.app (zs := [shrinkRow l i (groupsL l).length]) (ys := [v8]) (G := Gr) (by simp) (.one (show Data.rep _ (shrinkRow l i (groupsL l).length) [v8] Gr from ⟨v8, rfl, sr.keep klt⟩)) (fun b hb hv => by have := fr.ge b hb; have := lowv b hv; omega) (bytes := 24) (by decide) (by simp; omega) (k := 1) rfl (n := 1) rfl
        simp at l7
        simp [g509_0, hM2, hM, g28, g8, g5, g20, sr.cells, sr.cell, fillL, rdS_last, e7, w1, -Int.natCast_add]
        refine hJ _ hi ⟨hi, by simp, ⟨v6, Go ++ Gr, by simp, by rw [List.range_succ, List.map_append]; exact o7⟩, (hk.trans ((hkt.trans (klt.p _)).mono fun b hb => by omega)).trans (k7.mono fun b hb hv => by have := (hoo.ge hv).1; omega), by show h2.length ≤ h7.length; omega⟩
    · have : i = (groupsL l).length := by omega
      subst this
      obtain ⟨F', hF', _⟩ := hoo.sd
      simp [g509_1, hM, g20, g5]
      exact hR _ _ ⟨v5, F', by rw [hg], by simp [hg]; exact hF', KeepsP.low k02 hk (by omega), by omega⟩
end GL

namespace GL
open Go

theorem memE_iff {l : List (List Int)} {k : Nat} (hk : k < l.length) {y : Int} : Edge l (k : Int) y ↔ y ∈ l[k] := by
  constructor
  · rintro ⟨k', hk', e, h⟩
    have : k' = k := by omega
    subst this; exact h
  · exact memE_of hk
theorem ris_put {row : List Int} {k : Nat} (hr : row.Pairwise (· < ·)) (hlt : ∀ x ∈ row, x < k) {ys : List Int} (hy : ys.Pairwise (· < ·)) (hm : ∀ x, x ∈ ys ↔ x ∈ row ∨ x = (k : Int)) : ys = row ++ [(k : Int)] :=
  rising_ext hy (by rw [List.pairwise_append]; exact ⟨hr, by simp, fun a ha b hb => by simp at hb; subst hb; exact hlt a ha⟩) fun x => by rw [hm]; simp
theorem shrinkRow_lt (l : List (List Int)) (i m : Nat) : ∀ x ∈ shrinkRow l i m, x < m := fun x hx => by
  obtain ⟨k, rfl, hk, _⟩ := mem_shrinkRow.1 hx; omega

open Classical in
theorem ShrinkS_ok {h : Heap} {v : V} {l : List (List Int)} {F : List Nat} (hs : SdF h v l F) :
    ∃ r h', call p 510 [v] h = some (r, h') ∧ ∃ o G, r = .tup [o, .bool (linksB l)] ∧ SdF h' o (if linksB l = true then shrinkL l else []) G ∧ Keeps h h' ∧ h.length ≤ h'.length := by
  have e1 := GoodLinksS_eq hs
  refine go (fn := g510) rfl rfl fun R hR => ?_
  cases hg : linksB l with
  | false =>
    rw [hg] at e1
    simp [g510, e1]
    exact hR _ _ ⟨.nils, [], by rw [hg], by simp [hg]; exact SdF.nil, Keeps.refl _, Nat.le_refl _⟩
  | true =>
    rw [hg] at e1
    obtain ⟨gv, h2, e2, G2, s2, k2, l2⟩ := l9Groups_ok hs hg
    have hgl := groupsL_len hg
    obtain ⟨l12, _⟩ := linksB_facts hg
    have hlow : ∀ {b}, b ∈ G2 → b < h2.length := fun hb => by obtain ⟨blk, h1, _⟩ := s2.lt hb; exact get_lt h1
    have hs2 := hs.keep k2
    have hlowF : ∀ {b}, b ∈ F → b < h2.length := fun hb => by obtain ⟨blk, h1, _⟩ := hs2.lt hb; exact get_lt h1
    simp [g510, e1, e2, s2.len]
    refine Wc_upM (M := [5, 6, 7, 8, 9, 10, 12, 14, 22, 23, 24, 25, 26, 27, 28, 29, 30, 31, 32, 33, 34, 35, 36, 37, 38, 39, 40, 41, 42, 43, 44, 45, 46, 47, 48, 49, 50, 51, 52, 53, 54, 55, 56, 57, 58, 59, 60, 61, 62, 63, 64, 65, 66, 67]) rfl (groupsL l).length
      (fun i s => i ≤ (groupsL l).length ∧ s.σ 22 = .v (vi i) ∧ (∃ v5 Go, s.σ 5 = .v v5 ∧ Od h2.length s.h v5 ((List.range i).map fun i => shrinkRow l i (groupsL l).length) Go) ∧ KeepsP (fun b => b < h2.length) h2 s.h ∧ h2.length ≤ s.h.length) 0
      ⟨by omega, by simp, ⟨.nils, [], by simp, Od.nil (Nat.le_refl _)⟩, KeepsP.refl _ _, Nat.le_refl _⟩ fun i s ⟨gi, g22, ⟨v5, Go, g5, hoo⟩, hk, hl⟩ hM J hJ => ?_
    by_cases hi : i < (groupsL l).length
    · have s2s := s2.keeps (hk.mono fun b hb => hlow hb)
      have hss := hs2.keeps (hk.mono fun b hb => hlowF hb)
      obtain ⟨x, F2, ex, hx, hF2⟩ := s2s.loadL i hi
      have w1 : IntKind.i64.wrap ((i : Int) + 1) = (i + 1 : Nat) := by rw [IntWalk.i64_in] <;> omega
      obtain ⟨kk, hkk, ekk, _⟩ := (groupsL_facts hg).2.2 i hi
      simp [g510_3, hM, g22, g5, hi, s2s.idx 1 .i64 i hi, ex, s2.len]
      refine Wc_upM (M := [8, 9, 10, 12, 14, 29, 30, 31, 32, 33, 34, 35, 36, 37, 38, 39, 40, 41, 42, 43, 44, 45, 46, 47, 48, 49, 50, 51, 52, 53, 54, 55, 56, 57, 58, 59, 60, 61, 62]) rfl (groupsL l).length
        (fun j t => j ≤ (groupsL l).length ∧ t.σ 29 = .v (vi j) ∧ (∃ v8 G8, t.σ 8 = .v v8 ∧ SdF t.h v8 (shrinkRow l i j) G8 ∧ ∀ b ∈ G8, s.h.length ≤ b) ∧ Keeps s.h t.h ∧ s.h.length ≤ t.h.length) 0
        ⟨by omega, by simp, ⟨.nils, [], by simp, by simpa [shrinkRow] using SdF.nil, by simp⟩, Keeps.refl _, Nat.le_refl _⟩ fun j t ⟨gj, g29, ⟨v8, G8, g8, h8, b8⟩, hkt, hlt⟩ hM2 J2 hJ2 => ?_
      by_cases hj : j < (groupsL l).length
      · have s2t := s2s.keep hkt
        have hst := hss.keep hkt
        have hxt := hx.keep hkt
        obtain ⟨y, F3, ey, hy, _⟩ := s2t.loadL j hj
        have w2 : IntKind.i64.wrap ((j : Int) + 1) = (j + 1 : Nat) := by rw [IntWalk.i64_in] <;> omega
        have hrl : (shrinkRow l i j).length ≤ 2 ^ 19 := by
          simp only [shrinkRow, List.length_map]
          exact Nat.le_trans (List.length_filter_le ..) (by simp; omega)
        simp [g510_2, hM2, hM, g29, g8, hj, s2t.idx 1 .i64 j hj, ey, hx.len]
        -- the row so far, with this one if a link led into it
        refine Wc_upM (M := [8, 12, 14, 36, 37, 38, 39, 40, 41, 42, 43, 44, 45, 46, 47, 48, 49, 50, 51, 52, 53, 54, 55, 56, 57, 58, 59, 60, 61]) rfl (groupsL l)[i].length
          (fun a u => a ≤ (groupsL l)[i].length ∧ u.σ 36 = .v (vi a) ∧ (∃ v8 G8, u.σ 8 = .v v8 ∧ SdF u.h v8 (if j ≠ i ∧ leadsG l ((groupsL l)[i].take a) (groupsL l)[j] then shrinkRow l i j ++ [(j : Int)] else shrinkRow l i j) G8 ∧ ∀ b ∈ G8, s.h.length ≤ b) ∧ Keeps t.h u.h ∧ t.h.length ≤ u.h.length) 0
          ⟨by omega, by simp, ⟨v8, G8, by simp [g8], by rw [if_neg (fun h => by obtain ⟨_, x, hx, _⟩ := h; simp at hx)]; exact h8, b8⟩, Keeps.refl _, Nat.le_refl _⟩ fun a u ⟨ga, g36, ⟨v8, G8, g8, h8, b8⟩, hku, hlu⟩ hM3 J3 hJ3 => ?_
        by_cases ha : a < (groupsL l)[i].length
        · have hxu := hxt.keep hku
          have ea := hxu.sl.loadI a ha
          have ia := hxu.idx 1 .i64 a ha
          simp only [Nat.mul_one] at ia
          have hnin : InR l (groupsL l)[i][a] := groupL_in hg hkk (by rw [← ekk]; exact List.getElem_mem ha)
          obtain ⟨n, hn0⟩ := Int.eq_ofNat_of_zero_le hnin.1
          have hn : n < l.length := by have := hnin.2; omega
          obtain ⟨w, F4, ew, hw, _⟩ := (hst.keep hku).loadL n hn
          have iw := hst.idx 1 .i64 n hn
          simp only [Nat.mul_one] at iw
          have w3 : IntKind.i64.wrap ((a : Int) + 1) = (a + 1 : Nat) := by have := hx.bd; rw [IntWalk.i64_in] <;> omega
          rw [hn0] at ea
          simp [g510_1, hM3, hM2, hM, g36, ha, ia, ea, iw, ew, hw.len]
          refine Wc_upM (M := [8, 14, 45, 46, 47, 48, 49, 50, 51, 52, 53, 54, 55, 56, 57, 58, 59, 60]) rfl l[n].length
            (fun c q => c ≤ l[n].length ∧ q.σ 45 = .v (vi c) ∧ (∃ v8 G8, q.σ 8 = .v v8 ∧ SdF q.h v8 (if j ≠ i ∧ (leadsG l ((groupsL l)[i].take a) (groupsL l)[j] ∨ ∃ y ∈ l[n].take c, y ∈ (groupsL l)[j]) then shrinkRow l i j ++ [(j : Int)] else shrinkRow l i j) G8 ∧ ∀ b ∈ G8, s.h.length ≤ b) ∧ Keeps u.h q.h ∧ u.h.length ≤ q.h.length) 0
            ⟨by omega, by simp, ⟨v8, G8, by simp [g8], by simpa using h8, b8⟩, Keeps.refl _, Nat.le_refl _⟩ fun c q ⟨gc, g45, ⟨v8, G8, g8, h8, b8⟩, hkq, hlq⟩ hM4 J4 hJ4 => ?_
          by_cases hc : c < l[n].length
          · have hwq := hw.keep hkq
            have ec := hwq.sl.loadI c hc
            have ic := hwq.idx 1 .i64 c hc
            simp only [Nat.mul_one] at ic
            have w4 : IntKind.i64.wrap ((c : Int) + 1) = (c + 1 : Nat) := by have := hw.bd; rw [IntWalk.i64_in] <;> omega
            have hyq := (hy.keep hku).keep hkq
            have e5 := l1Has_eq hyq.sl l[n][c]
            have hstep : (∃ y ∈ l[n].take (c + 1), y ∈ (groupsL l)[j]) ↔ (∃ y ∈ l[n].take c, y ∈ (groupsL l)[j]) ∨ l[n][c] ∈ (groupsL l)[j] := by
              constructor
              · rintro ⟨y, h1, h2⟩
                rcases (mem_take_succ hc).1 h1 with h | rfl
                · exact .inl ⟨y, h, h2⟩
                · exact .inr h2
              · rintro (⟨y, h1, h2⟩ | h)
                · exact ⟨y, (mem_take_succ hc).2 (.inl h1), h2⟩
                · exact ⟨_, (mem_take_succ hc).2 (.inr rfl), h⟩
            by_cases hij : j = i
            · subst hij
              rw [if_neg (fun h => h.1 rfl)] at h8
              simp [g510_0, hM4, hM3, hM2, hM, g45, g8, hc, ic, ec, w4, -Int.natCast_add]
              exact hJ4 _ hc ⟨hc, by simp, ⟨v8, G8, by simp [g8], by rw [if_neg (fun h => h.1 rfl)]; exact h8, b8⟩, hkq, hlq⟩
            · have hij2 : ¬ (j : Int) = (i : Int) := by omega
              by_cases hm : l[n][c] ∈ (groupsL l)[j]
              · rw [decide_eq_true hm] at e5
                -- put, once
                have hput : ∃ r h', call p 410 [v8, vi j] q.h = some (r, h') ∧ ∃ G, SdF h' r (shrinkRow l i j ++ [(j : Int)]) G ∧ (∀ b ∈ G, b ∈ G8 ∨ q.h.length ≤ b) ∧ Keeps q.h h' ∧ q.h.length ≤ h'.length := by
                  have hrr : (shrinkRow l i j ++ [(j : Int)]).Pairwise (· < ·) := by
                    rw [List.pairwise_append]; exact ⟨shrinkRow_rising _ _ _, by simp, fun x hx y hy => by simp at hy; subst hy; exact shrinkRow_lt _ _ _ x hx⟩
                  by_cases hc2 : j ≠ i ∧ (leadsG l ((groupsL l)[i].take a) (groupsL l)[j] ∨ ∃ y ∈ l[n].take c, y ∈ (groupsL l)[j])
                  · rw [if_pos hc2] at h8
                    obtain ⟨r, h6, e6, ys, G6, s6, r6, m6, _, G6s, k6, l6⟩ := l1Put_ok h8 hrr (by simp; omega) (j : Int)
                    have : ys = shrinkRow l i j ++ [(j : Int)] := rising_ext r6 hrr fun x => by rw [m6]; simp
                    rw [this] at s6
                    exact ⟨r, h6, e6, G6, s6, G6s, k6, l6⟩
                  · rw [if_neg hc2] at h8
                    obtain ⟨r, h6, e6, ys, G6, s6, r6, m6, _, G6s, k6, l6⟩ := l1Put_ok h8 (shrinkRow_rising _ _ _) (by omega) (j : Int)
                    rw [ris_put (shrinkRow_rising l i j) (shrinkRow_lt l i j) r6 m6] at s6
                    exact ⟨r, h6, e6, G6, s6, G6s, k6, l6⟩
                obtain ⟨v9, h6, e6, G6, s6, G6s, k6, l6⟩ := hput
                simp [g510_0, hM4, hM3, hM2, hM, g45, g8, hc, ic, ec, hij, hij2, e5, e6, w4, -Int.natCast_add]
                refine hJ4 _ hc ⟨hc, by simp, ⟨v9, G6, by simp, by rw [if_pos ⟨hij, .inr (hstep.2 (.inr hm))⟩]; exact s6, fun b hb => ?_⟩, hkq.trans k6, by show u.h.length ≤ h6.length; omega⟩
                rcases G6s b hb with h | h
                · exact b8 b h
                · omega
              · rw [decide_eq_false hm] at e5
                simp [g510_0, hM4, hM3, hM2, hM, g45, g8, hc, ic, ec, hij, hij2, e5, w4, -Int.natCast_add]
                refine hJ4 _ hc ⟨hc, by simp, ⟨v8, G8, by simp [g8], ?_, b8⟩, hkq, hlq⟩
                have : (j ≠ i ∧ (leadsG l ((groupsL l)[i].take a) (groupsL l)[j] ∨ ∃ y ∈ l[n].take (c + 1), y ∈ (groupsL l)[j])) ↔ (j ≠ i ∧ (leadsG l ((groupsL l)[i].take a) (groupsL l)[j] ∨ ∃ y ∈ l[n].take c, y ∈ (groupsL l)[j])) := by
                  rw [hstep]
                  simp [hm]
                by_cases hc2 : j ≠ i ∧ (leadsG l ((groupsL l)[i].take a) (groupsL l)[j] ∨ ∃ y ∈ l[n].take c, y ∈ (groupsL l)[j])
                · rw [if_pos hc2] at h8; rw [if_pos (this.2 hc2)]; exact h8
                · rw [if_neg hc2] at h8; rw [if_neg fun h => hc2 (this.1 h)]; exact h8
          · have hcl : c = l[n].length := by omega
            subst hcl
            rw [List.take_length] at h8
            have : (j ≠ i ∧ leadsG l ((groupsL l)[i].take (a + 1)) (groupsL l)[j]) ↔ (j ≠ i ∧ (leadsG l ((groupsL l)[i].take a) (groupsL l)[j] ∨ ∃ y ∈ l[n], y ∈ (groupsL l)[j])) := by
              have : leadsG l ((groupsL l)[i].take (a + 1)) (groupsL l)[j] ↔ leadsG l ((groupsL l)[i].take a) (groupsL l)[j] ∨ ∃ y ∈ l[n], y ∈ (groupsL l)[j] := by
                constructor
                · rintro ⟨x, hx, y, he, hy⟩
                  rcases (mem_take_succ ha).1 hx with h | rfl
                  · exact .inl ⟨x, h, y, he, hy⟩
                  · rw [hn0] at he; exact .inr ⟨y, (memE_iff hn).1 he, hy⟩
                · rintro (⟨x, hx, y, he, hy⟩ | ⟨y, hy1, hy2⟩)
                  · exact ⟨x, (mem_take_succ ha).2 (.inl hx), y, he, hy⟩
                  · exact ⟨_, (mem_take_succ ha).2 (.inr rfl), y, by rw [hn0]; exact (memE_iff hn).2 hy1, hy2⟩
              rw [this]
            simp [g510_0, hM4, hM3, hM2, hM, g45, g36, w3, -Int.natCast_add]
            exact hJ3 _ ha ⟨ha, by simp, ⟨v8, G8, by simp [g8], by
              by_cases hc2 : j ≠ i ∧ (leadsG l ((groupsL l)[i].take a) (groupsL l)[j] ∨ ∃ y ∈ l[n], y ∈ (groupsL l)[j])
              · rw [if_pos hc2] at h8; rw [if_pos (this.2 hc2)]; exact h8
              · rw [if_neg hc2] at h8; rw [if_neg fun h => hc2 (this.1 h)]; exact h8, b8⟩, hku.trans hkq, by show t.h.length ≤ q.h.length; omega⟩
        · have hal : a = (groupsL l)[i].length := by omega
          subst hal
          rw [List.take_length] at h8
          have hsucc := shrinkRow_succ l i j
          rw [getD_in hi, getD_in hj] at hsucc
          simp [g510_1, hM3, hM2, hM, g36, g29, w2, -Int.natCast_add]
          exact hJ2 _ hj ⟨hj, by simp, ⟨v8, G8, by simp [g8], by rw [hsucc]; exact h8, b8⟩, hkt.trans hku, by show s.h.length ≤ u.h.length; omega⟩
      · have : j = (groupsL l).length := by omega
        subst this
        have klt := Keeps.append t.h [⟨.own, [v8]⟩]
        have lowv : ∀ b, vB v5 b → b < s.h.length := fun b hb => (hoo.ge hb).2
        have hoo3 : Od h2.length (t.h ++ [⟨.own, [v8]⟩]) v5 ((List.range i).map fun i => shrinkRow l i (groupsL l).length) Go := hoo.keeps ((hkt.trans klt).p fun _ => True) (fun _ _ => trivial) (fun _ _ => trivial) (by simp; omega)
        obtain ⟨v6, h7, e7, o7, k7, l7, _⟩ := hoo3.app (zs := [shrinkRow l i (groupsL l).length]) (ys := [v8]) (G := G8) (by simp) (.one (show Data.rep _ (shrinkRow l i (groupsL l).length) [v8] G8 from ⟨v8, rfl, h8.keep klt⟩)) (fun b hb hv => by have := b8 b hb; have := lowv b hv; omega) (bytes := 24) (by decide) (by simp; omega) (k := 1) rfl (n := 1) rfl
        simp at l7
        simp [g510_2, hM2, hM, g29, g8, g5, g22, h8.cells, h8.cell, fillL, rdS_last, e7, w1, -Int.natCast_add]
        refine hJ _ hi ⟨hi, by simp, ⟨v6, Go ++ G8, by simp, by rw [List.range_succ, List.map_append]; exact o7⟩, (hk.trans ((hkt.trans klt).p _)).trans (k7.mono fun b hb hv => by have := (hoo.ge hv).1; omega), by show h2.length ≤ h7.length; omega⟩
    · have : i = (groupsL l).length := by omega
      subst this
      obtain ⟨F', hF', _⟩ := hoo.sd
      simp [g510_3, hM, g22, g5]
      exact hR _ _ ⟨v5, F', by rw [hg], by simp [hg]; exact hF', KeepsP.low k2 hk l2, by omega⟩
end GL

namespace GL
open Go

theorem drawShrink_ok {h : Heap} {v : V} {bs : List Byte} (hs : Sl h v bs) : ∃ w h', call p 508 [v] h = some (w, h') ∧ ∃ (xs : List (List Int)) (F : List Nat), SdF h' w xs F ∧ Keeps h h' ∧ h.length ≤ h'.length := by
  obtain ⟨w, h1, e1, xs, F, s1, k1, l1⟩ := drawGoodLinks_ok hs
  refine go (fn := g508) rfl rfl fun R hR => ?_
  simp [g508, e1]
  exact hR _ _ ⟨xs, F, s1, k1, l1⟩
theorem drawRound_ok {h : Heap} {v : V} {bs : List Byte} (hs : Sl h v bs) : ∃ w h', call p 512 [v] h = some (w, h') ∧ ∃ (xs : List (List Int)) (F : List Nat), SdF h' w xs F ∧ Keeps h h' ∧ h.length ≤ h'.length := by
  obtain ⟨w, h1, e1, xs, F, s1, k1, l1⟩ := drawGoodLinks_ok hs
  refine go (fn := g512) rfl rfl fun R hR => ?_
  simp [g512, e1]
  exact hR _ _ ⟨xs, F, s1, k1, l1⟩
theorem shrunk_tail {H : Heap} {vb : V} {bs : List Byte} (hb : Sl H vb bs) : ∃ (u : V) (h1 : Heap) (a b : Bool) (h2 h3 : Heap),
    call p 512 [vb] H = some (u, h1) ∧ call p 511 [u] h1 = some (.tup [.bool a, .bool b], h2) ∧ call p 513 [u] h2 = some (.tup [.bool a, .bool b], h3) := by
  obtain ⟨u, h1, e1, xs, F, s1, k1, l1⟩ := drawRound_ok hb
  obtain ⟨_, h2, e2, rfl, k2, l2⟩ := IsRoundless_ok s1
  obtain ⟨_, h3, e3, rfl, k3, l3⟩ := IsRoundlessS_ok (s1.keep k2)
  exact ⟨u, h1, _, _, h2, h3, e1, e2, e3⟩

set_option maxRecDepth 20000 in
theorem FnShrunk_ok {h : Heap} {va vb : V} {as bs : List Byte} (ha : Sl h va as) (hb : Sl h vb bs) : ∃ r h', call p 507 [va, vb] h = some (r, h') ∧ r = .bool true := by
  refine go (fn := g507) rfl rfl fun R hR => ?_
  by_cases hbig : (1048576 : Int) < IntKind.i64.wrap ((as.length : Int) + bs.length)
  · simp [g507, ha.len, hb.len, hbig]
    exact hR _ _ rfl
  · obtain ⟨w, h1, e1, l, F, c1, k1, l1⟩ := drawShrink_ok ha
    obtain ⟨_, h2, e2, g, G2, rfl, s2, k2, l2⟩ := Shrink_ok c1
    obtain ⟨_, h3, e3, g', G3, rfl, s3, k3, l3⟩ := ShrinkS_ok (c1.keep k2)
    have e4 := sameRows_same (s2.keep k3) s3
    have b3 := hb.keeps ((k1.trans k2).trans k3)
    cases hg : linksB l with
    | false =>
      rw [hg] at e2 e3
      obtain ⟨u, t1, qa, qb, t2, t3, f1, f2, f3⟩ := shrunk_tail b3
      simp [g507, ha.len, hb.len, hbig, e1, e2, e3, e4, f1, f2, f3]
      exact hR _ _ rfl
    | true =>
      rw [hg] at e2 e3
      rw [hg, if_pos rfl] at s2
      have s2' := s2.keep k3
      obtain ⟨_, h5, e5, rfl, k5, l5⟩ := IsRoundless_ok s2'
      rw [shrink_links hg, shrink_round hg] at e5
      obtain ⟨_, h6, e6, gg, G6, rfl, s6, k6, l6⟩ := GroupsOf_ok (c1.keep ((k2.trans k3).trans k5))
      rw [hg] at e6
      rw [hg, if_pos rfl] at s6
      have s26 := (s2'.keep k5).keep k6
      have hlen := shrinkL_len l
      have e7 := s26.len
      rw [hlen] at e7
      simp [g507, ha.len, hb.len, hbig, e1, e2, e3, e4, e5, e6, e7, s6.len]
      refine Wc_upM (M := [4, 14, 15, 17, 80, 81, 82, 83, 84, 85, 86, 87, 88, 89, 90, 91, 92, 93, 94, 95]) rfl (groupsL l).length (fun i s => s.σ 80 = .v (vi i) ∧ s.h = h6) 0 (by simp) fun i s ⟨g80, gh⟩ hM J hJ => ?_
      by_cases hi : i < (groupsL l).length
      · have hi2 : i < (shrinkL l).length := by omega
        obtain ⟨x, F2, ex, hx, _⟩ := s26.loadL i hi2
        rw [shrinkL_get] at hx
        simp [g507_1, hM, g80, gh, hi, s26.idx 1 .i64 i hi2, ex, hx.len]
        refine Wc_upM (M := [4, 17, 87, 88, 89, 90, 91, 92, 93, 94]) rfl (shrinkRow l i (groupsL l).length).length (fun j t => t.σ 87 = .v (vi j) ∧ t.h = h6) 0 (by simp) fun j t ⟨g87, gh2⟩ hM2 J2 hJ2 => ?_
        by_cases hj : j < (shrinkRow l i (groupsL l).length).length
        · have hlt := shrink_lt hg hi (List.getElem_mem hj)
          have hlt2 : ¬ (i : Int) ≤ (shrinkRow l i (groupsL l).length)[j] := by omega
          have ix := hx.idx 1 .i64 j hj
          simp only [Nat.mul_one] at ix
          simp [g507_0, hM2, hM, g87, gh2, hj, ix, hx.sl.loadI j hj, hlt2, hx.step hj]
          exact hJ2 _ hj ⟨by simp, rfl⟩
        · have w1 : IntKind.i64.wrap ((i : Int) + 1) = (i + 1 : Nat) := by have := s6.bd; rw [IntWalk.i64_in] <;> omega
          simp [g507_0, hM2, hM, g87, gh2, hj, g80, w1, -Int.natCast_add]
          exact hJ _ hi ⟨by simp, rfl⟩
      · obtain ⟨u, t1, qa, qb, t2, t3, f1, f2, f3⟩ := shrunk_tail (b3.keeps (k5.trans k6))
        simp [g507_1, hM, g80, gh, hi, f1, f2, f3]
        exact hR _ _ rfl
end GL

