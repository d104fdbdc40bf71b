import Derived.ChangeArms
import Derived.IntWalk
import Derived.WideShapes
import Derived.Test.YtgmjabiadkailaaGreatGuFnExactSameOutcomeB
/- What the functions of the law do, on the machine. -/
set_option linter.unusedSimpArgs false
set_option linter.unusedVariables false
set_option linter.unnecessarySimpa false
namespace GL
open Go

theorem mem_readyL {l : List (List Int)} {ds : List Int} {n : Int} : n ∈ readyL l ds ↔ n ∈ ds ∧ ∀ x ∈ reachL l n, x ∈ ds := by
  simp [readyL, List.mem_filter]
theorem nextL_congr {l : List (List Int)} {ds ds' c : List Int} (h : ∀ x, x ∈ ds ↔ x ∈ ds') : nextL l ds c = nextL l ds' c := by
  unfold nextL
  congr 1
  apply List.filter_congr
  intro x _
  congr 1
  refine propext ?_
  rw [mem_readyL, mem_readyL, h]
  exact and_congr_right fun _ => forall_congr' fun y => imp_congr_right fun _ => h y
noncomputable def outK (l : List (List Int)) (xs : List Int) : Nat → List Int
  | 0 => []
  | k + 1 => outK l xs k ++ nextL l (xs.take (k + 1)) (outK l xs k)
theorem nextL_len {l : List (List Int)} (hg : linksB l = true) (ds c : List Int) : (nextL l ds c).length ≤ l.length := by
  have := groupsL_flat hg
  exact Nat.le_trans (List.length_filter_le ..) (Nat.le_trans (List.length_filter_le ..) (by omega))
theorem mem_nextL {l : List (List Int)} {ds c : List Int} {x : Int} : x ∈ nextL l ds c ↔ x ∈ (groupsL l).flatten ∧ x ∈ readyL l ds ∧ x ∉ c := by
  simp only [nextL, List.mem_filter, decide_eq_true_eq, Bool.not_eq_true', decide_eq_false_iff_not, and_assoc]
theorem outK_in {l : List (List Int)} (hg : linksB l = true) (xs : List Int) (k : Nat) : ∀ x ∈ outK l xs k, InR l x := by
  induction k with
  | zero => simp [outK]
  | succ k ih =>
    intro x hx
    simp only [outK, List.mem_append] at hx
    rcases hx with hx | hx
    · exact ih x hx
    · exact ((groupsL_facts hg).2.1 x).2 (mem_nextL.1 hx).1
theorem outK_nodup {l : List (List Int)} (hg : linksB l = true) (xs : List Int) (k : Nat) : (outK l xs k).Nodup := by
  induction k with
  | zero => simp [outK]
  | succ k ih =>
    simp only [outK]
    rw [List.nodup_append]
    refine ⟨ih, ?_, fun a ha b hb e => ?_⟩
    · exact List.Sublist.nodup List.filter_sublist (List.Sublist.nodup List.filter_sublist (groupsL_facts hg).1)
    · subst e; exact (mem_nextL.1 hb).2.2 ha
theorem outK_short {l : List (List Int)} (hg : linksB l = true) (xs : List Int) (k : Nat) : (outK l xs k).length ≤ l.length := nodup_len (outK_nodup hg xs k) (outK_in hg xs k)
theorem Out.appT {α : Type} [Flat α] {lo : Nat} {h : Heap} {v w : V} {xs zs : List α} (ho : Out lo h v xs) (hs : Sl h w zs) {bytes : Nat} (hb : bytes ≤ 2 ^ 8) (hl : xs.length + zs.length ≤ 2 ^ 30) {k n : Nat} (hk : k = Flat.sz α) (hn : n = zs.length) :
    ∃ ys v' h', GL.rdS h k w n = some ys ∧ appH k bytes v n ys h = some (v', h') ∧ Out lo h' v' (xs ++ zs) ∧ KeepsP (fun i => ¬ vB v i) h h' ∧ h.length ≤ h'.length ∧ ∀ i, vB v' i → vB v i ∨ h.length ≤ i := by
  subst hk; subst hn
  have e := hs.rdS zs.length (Nat.le_refl _)
  rw [List.take_length] at e
  by_cases h0 : zs.length = 0
  · have hz : zs = [] := List.length_eq_zero_iff.1 h0
    subst hz
    have := ho.sl.len
    exact ⟨_, v, h, e, by simp [appH, this], by simpa using ho, KeepsP.refl _ _, Nat.le_refl _, fun i hi => .inl hi⟩
  · obtain ⟨v', h', e1, o', k', l', b'⟩ := ho.app zs (by omega) hb hl rfl rfl rfl
    exact ⟨_, v', h', e, e1, o', k', by omega, fun i hi => .inr (by have := b' i hi; omega)⟩
theorem doneBy_ok {h : Heap} {v w : V} {l : List (List Int)} {F : List Nat} {xs : List Int} (hs : SdF h v l F) (hx : Sl h w xs) (hg : linksB l = true) (hin : ∀ x ∈ xs, InR l x) (hl : xs.length ≤ 2 ^ 10) :
    ∃ r h', call p 604 [v, w] h = some (r, h') ∧ Out h.length h' r (outK l xs xs.length) ∧ Keeps h h' ∧ h.length ≤ h'.length := by
  obtain ⟨l12, _⟩ := linksB_facts hg
  refine go (fn := g604) rfl rfl fun R hR => ?_
  simp [g604, hx.len]
  have k0 : Keeps h (h ++ [⟨.own, []⟩, ⟨.own, []⟩]) := Keeps.append _ _
  refine Wc_upM (M := [5, 6, 8, 13, 14, 15, 16, 17, 18, 19, 20, 21, 22, 23, 24, 25, 26, 27]) rfl xs.length (fun i s => i ≤ xs.length ∧ s.σ 13 = .v (vi i) ∧ (∃ (u : V) (ys : List Int) (G : List Nat), s.σ 5 = .v u ∧ SdF s.h u ys G ∧ ys.length ≤ i ∧ ∀ x, x ∈ ys ↔ x ∈ xs.take i) ∧ (∃ o, s.σ 6 = .v o ∧ Out h.length s.h o (outK l xs i)) ∧ Keeps h s.h ∧ h.length ≤ s.h.length) 0
    ⟨by omega, by simp, ⟨.slice h.length 0 0 (.k 0), [], [], by simp, ⟨by simp, .inr ⟨h.length, 0, .k 0, rfl, Nat.le_refl 0, .inl ⟨rfl, rfl⟩⟩⟩, by simp, by simp⟩, ⟨.slice (h.length + 1) 0 0 (.k 0), by simp, by simpa [outK] using Out.empty (by omega) (by simp)⟩, k0, by simp⟩ fun i s ⟨gi, g13, ⟨u, ys, G, g5, su, hyl, hm⟩, ⟨o, g6, so⟩, hk, hln⟩ hM J hJ => ?_
  by_cases hi : i < xs.length
  · have ix := hx.idx 1 .i64 i hi
    simp only [Nat.mul_one] at ix
    have ld := (hx.keeps hk).loadI i hi
    have st := hx.step hi
    have hmt : ∀ z, z ∈ xs.take (i + 1) ↔ z ∈ xs.take i ∨ z = xs[i] := fun z => mem_take_succ hi
    have k1 : Keeps s.h (s.h ++ [⟨.own, [vi xs[i]]⟩]) := Keeps.append _ _
    have sl1 := Sl.lit (h := s.h) [xs[i]] 1 rfl [vi xs[i]] rfl (.k 1) (by simp)
    obtain ⟨G1, sd1, _⟩ := Sl.sdF sl1 (Nat.le_refl 1)
    obtain ⟨w2, h2, e2, zs, G2, s2, f2, r2, m2, k2, l2⟩ := together_ok (su.keep k1) sd1 (by simp; omega)
    have k12 := k1.trans k2
    have hzm : ∀ x, x ∈ zs ↔ x ∈ xs.take (i + 1) := fun x => by rw [m2, hm, hmt]; simp
    have hzin : ∀ x ∈ zs, InR l x := fun x hx => hin x (List.mem_of_mem_take ((hzm x).1 hx))
    have hzl : zs.length ≤ i + 1 := by
      have h1 : zs.Nodup := r2.imp fun h => by omega
      have := sub_len h1 (m := xs.take (i + 1)) fun x hx => (hzm x).1 hx
      rw [List.length_take] at this; omega
    have so2 : Out h.length h2 o (outK l xs i) := so.keeps (k12.p fun _ => True) (fun _ _ => trivial) (by simp at l2; omega)
    obtain ⟨r3, h3, e3, s3, k3, l3⟩ := nextDone_ok (hs.keep (hk.trans k12)) s2.sl so2.sl hg hzin (by omega)
    have so3 : Out h.length h3 o (outK l xs i) := so2.keeps (k3.p fun _ => True) (fun _ _ => trivial) l3
    have hnl := nextL_len hg zs (outK l xs i)
    have hol := outK_short hg xs i
    obtain ⟨ys4, v4, h4, e4, e5, o4, k4, l4⟩ := so3.appS s3 (bytes := 8) (by decide) (by omega) (k := 1) rfl (n := (nextL l zs (outK l xs i)).length) rfl
    have hnc : nextL l zs (outK l xs i) = nextL l (xs.take (i + 1)) (outK l xs i) := nextL_congr hzm
    have hkk : Keeps h h4 := so3.far ((hk.trans k12).trans k3) k4 (Nat.le_refl _)
    have s24 := s2.keep k3
    have nGv : ∀ b ∈ G2, ¬ vB o b := fun b hb hv => by have := (so.ge hv).2; have := f2.ge b hb; simp at this; omega
    have s3l := s3.len
    have s24' := s24.keeps (k4.mono nGv)
    rw [hnc] at o4 e4 e5 s3l
    generalize xs[i] = xi at *
    simp at l2
    simp [g604_0, hM, g13, g5, g6, hi, ix, ld, fillL, e2, e3, s3l, e4, e5, st]
    exact hJ _ hi ⟨hi, by simp, ⟨w2, zs, G2, by simp, s24', hzl, hzm⟩, ⟨v4, by simp, o4⟩, hkk, by show h.length ≤ h4.length; omega⟩
  · have : i = xs.length := by omega
    subst this
    simp [g604_0, hM, g13, g6]
    exact hR _ _ ⟨so, hk, hln⟩
theorem DoneByS_ok {h : Heap} {v w : V} {l : List (List Int)} {F F9 : List Nat} {xs : List Int} (hs : SdF h v l F) (hx : SdF h w xs F9) (hg : linksB l = true) (hon : onceB l.length xs = true) :
    ∃ r h', call p 588 [v, w] h = some (r, h') ∧ ∃ o, r = .tup [o, .bool true] ∧ Out h.length h' o (outK l xs xs.length) ∧ Keeps h h' ∧ h.length ≤ h'.length := by
  obtain ⟨l12, _⟩ := linksB_facts hg
  have e0 := GoodLinksS_eq hs
  rw [hg] at e0
  have e1 := l14Once_eq hx (l.length : Int) (by omega)
  rw [hon] at e1
  simp only [onceB, decide_eq_true_eq] at hon
  have hin : ∀ x ∈ xs, InR l x := fun x hx => ⟨(hon.1 x hx).1, by have := (hon.1 x hx).2; omega⟩
  have hxl := nodup_len hon.2 hin
  have hx' := hx.sl
  refine go (fn := g588) rfl rfl fun R hR => ?_
  simp [g588, e0, e1, hs.len, hx.len]
  refine Wc_upM (M := [6, 7, 9, 22, 23, 24, 25, 26, 27, 28, 29, 30, 31, 32, 33, 34, 35]) rfl xs.length (fun i s => i ≤ xs.length ∧ s.σ 22 = .v (vi i) ∧ (∃ (u : V) (ys : List Int) (G : List Nat) (o : V), s.σ 6 = .v u ∧ SdF s.h u ys G ∧ ys.Pairwise (· < ·) ∧ ys.length ≤ i ∧ (∀ b ∈ G, ¬ vB o b) ∧ (∀ x, x ∈ ys ↔ x ∈ xs.take i) ∧ s.σ 7 = .v o ∧ Out h.length s.h o (outK l xs i)) ∧ True ∧ Keeps h s.h ∧ h.length ≤ s.h.length) 0
    ⟨by omega, by simp, ⟨.nils, [], [], .nils, by simp, .nil, by simp, by simp, by simp, by simp, by simp, by simpa [outK] using Out.nil (Nat.le_refl _)⟩, trivial, Keeps.refl _, Nat.le_refl _⟩ fun i s ⟨gi, g22, ⟨u, ys, G, o, g6, su, hr, hyl, hG, hm, g7, so⟩, _, hk, hln⟩ hM J hJ => ?_
  by_cases hi : i < xs.length
  · have ix := hx.idx 1 .i64 i hi
    simp only [Nat.mul_one] at ix
    have ld := (hx'.keeps hk).loadI i hi
    have st := hx'.step hi
    have hmt : ∀ z, z ∈ xs.take (i + 1) ↔ z ∈ xs.take i ∨ z = xs[i] := fun z => mem_take_succ hi
    obtain ⟨w2, h2, e2, zs, G2, s2, r2, m2, zl, hG2, k2, l2⟩ := l1Put_ok su hr (by omega) xs[i]
    have hzm : ∀ x, x ∈ zs ↔ x ∈ xs.take (i + 1) := fun x => by rw [m2, hm, hmt]
    have hzin : ∀ x ∈ zs, InR l x := fun x hx => hin x (List.mem_of_mem_take ((hzm x).1 hx))
    have so2 : Out h.length h2 o (outK l xs i) := so.keeps (k2.p fun _ => True) (fun _ _ => trivial) l2
    obtain ⟨r3, h3, e3, s3, k3, l3⟩ := l14Next_ok (hs.keep (hk.trans k2)) s2.sl so2.sl hg hzin (by omega)
    have so3 : Out h.length h3 o (outK l xs i) := so2.keeps (k3.p fun _ => True) (fun _ _ => trivial) l3
    have hnl := nextL_len hg zs (outK l xs i)
    have hol := outK_short hg xs i
    obtain ⟨ys4, v4, h4, e4, e5, o4, k4, l4, b4⟩ := so3.appT s3 (bytes := 8) (by decide) (by omega) (k := 1) rfl (n := (nextL l zs (outK l xs i)).length) rfl
    have hnc : nextL l zs (outK l xs i) = nextL l (xs.take (i + 1)) (outK l xs i) := nextL_congr hzm
    have hkk : Keeps h h4 := so3.far ((hk.trans k2).trans k3) k4 (Nat.le_refl _)
    have nG2 : ∀ b ∈ G2, ¬ vB o b := fun b hb hv => by
      rcases hG2 b hb with h | h
      · exact hG b h hv
      · have := (so.ge hv).2; omega
    have s24' := (s2.keep k3).keeps (k4.mono nG2)
    have nG4 : ∀ b ∈ G2, ¬ vB v4 b := fun b hb hv => by
      rcases b4 b hv with h | h
      · exact nG2 b hb h
      · have := s2.ltF hb; omega
    have s3l := s3.len
    rw [hnc] at o4 e4 e5 s3l
    generalize xs[i] = xi at *
    simp [g588_0, hM, g22, g6, g7, hi, ix, ld, e2, e3, s3l, e4, e5, st]
    exact hJ _ hi ⟨hi, by simp, ⟨w2, zs, G2, v4, by simp, s24', r2, by omega, nG4, hzm, by simp, o4⟩, trivial, hkk, by show h.length ≤ h4.length; omega⟩
  · have : i = xs.length := by omega
    subst this
    simp [g588_0, hM, g22, g7]
    exact hR _ _ ⟨o, rfl, so, hk, hln⟩
end GL

namespace GL
open Go

theorem links_good {c : Hs} (hb : houseB c = true) : linksB (linksR c.heard c.groups) = true ∧ (linksR c.heard c.groups).length = c.heard.deeds.length := by
  obtain ⟨hg, hgl, h8⟩ := houseB_facts hb
  have hq : allQ c.heard c.groups = true := hb
  have hl : (linksR c.heard c.groups).length = c.heard.deeds.length := by simp [linksR, hq, allP, hgl]
  refine ⟨?_, hl⟩
  simp only [linksB, Bool.and_eq_true, decide_eq_true_eq]
  refine ⟨by omega, List.all_eq_true.2 fun xs hx => ?_⟩
  rw [hl]
  simp only [linksR, hq, if_true] at hx
  obtain ⟨i, hi, rfl⟩ := List.mem_map.1 hx
  have hi' : i < c.groups.length := List.mem_range.1 hi
  simp only [allQ, Bool.and_eq_true, decide_eq_true_eq] at hq
  have hgq := List.all_eq_true.1 hq.2 _ (List.getElem_mem hi')
  have hgd : c.groups.getD i [] = c.groups[i] := by rw [List.getD_eq_getElem?_getD, List.getElem?_eq_getElem hi']; rfl
  rw [hgd]
  simp only [risB, decide_eq_true_eq]
  refine ⟨fun x hx => ?_, ofL_rising _ _ _⟩
  obtain ⟨p, hp, hxp⟩ := (mem_ofL hg (groupQ_in hgq)).1 hx
  have := depsL_in hg (groupQ_in hgq p hp) hxp
  omega
noncomputable def soO (c : Hs) (r : Int) (k : Nat) : Oc := outF c.heard (outK (linksR c.heard c.groups) ((rowAt c.heard r).take k) ((rowAt c.heard r).take k).length)
def placeQ (c : Hs) (r : Int) : Bool := houseB c && decide (0 ≤ r ∧ r ≤ c.heard.no - 1)
theorem l17Place_ok {h : Heap} {v : V} {c : Hs} {F : List Nat} (hc : HsV h v c F) (r : Int) : ∃ w h', call p 770 [v, vi r] h = some (w, h') ∧ w = .bool (placeQ c r) ∧ Keeps h h' ∧ h.length ≤ h'.length := by
  obtain ⟨_, h1, e1, rfl, k1, l1⟩ := GoodHouseS_ok hc
  obtain ⟨x, y, z, F1, F2, F3, rfl, rfl, hx, hy, hz⟩ := hc
  refine go (fn := g770) rfl rfl fun R hR => ?_
  cases hb : houseB c with
  | false =>
    rw [hb] at e1
    simp [g770, fillL, upd, hx.cells, hx.cell, hy.cells, hy.cell, hz.cells, hz.cell, e1]
    exact hR _ _ ⟨by simp [placeQ, hb], k1, l1⟩
  | true =>
    rw [hb] at e1
    obtain ⟨hg, _⟩ := houseB_facts hb
    obtain ⟨hno, _⟩ := goodH_facts hg
    have w1 : IntKind.i64.wrap (c.heard.no - 1) = c.heard.no - 1 := by rw [IntWalk.i64_in] <;> omega
    simp [g770, fillL, upd, hx.cells, hx.cell, hy.cells, hy.cell, hz.cells, hz.cell, e1, w1, -Bool.decide_and]
    exact hR _ _ ⟨by simp [placeQ, hb], k1, l1⟩
/-- a row, as far as it goes -/
theorem row_pre {c : Hs} {r : Int} (hp : placeQ c r = true) (k : Nat) : goodH c.heard = true ∧ houseB c = true ∧ (0 ≤ r ∧ r < (c.heard.rows.length : Int)) ∧ ((rowAt c.heard r).length = c.heard.deeds.length) ∧ onceB c.heard.deeds.length ((rowAt c.heard r).take k) = true ∧ (∀ x ∈ (rowAt c.heard r).take k, InR (linksR c.heard c.groups) x) := by
  simp only [placeQ, Bool.and_eq_true, decide_eq_true_eq] at hp
  obtain ⟨hb, hr⟩ := hp
  obtain ⟨hg, hgl, h8⟩ := houseB_facts hb
  obtain ⟨r0, r1, hmem⟩ := rows_get hg hr
  obtain ⟨_, _, _, hrows⟩ := goodH_facts hg
  obtain ⟨hlen, hin, hnd, _⟩ := hrows _ hmem
  obtain ⟨_, hll⟩ := links_good hb
  refine ⟨hg, hb, ⟨r0, r1⟩, hlen, ?_, fun x hx => ?_⟩
  · simp only [onceB, decide_eq_true_eq]
    exact ⟨fun x hx => by have := hin x (List.mem_of_mem_take hx); omega, List.Sublist.nodup (List.take_sublist ..) hnd⟩
  · have := hin x (List.mem_of_mem_take hx)
    exact ⟨this.1, by rw [hll]; exact this.2⟩
theorem l17So_ok {h : Heap} {v : V} {c : Hs} {F : List Nat} (hc : HsV h v c F) {r : Int} (hp : placeQ c r = true) (k : Nat) (hk : k ≤ c.heard.deeds.length) :
    ∃ w h', call p 771 [v, vi r, vi k] h = some (w, h') ∧ ∃ G, OcV h' w (soO c r k) G ∧ (∀ i ∈ G, h.length ≤ i) ∧ Keeps h h' ∧ h.length ≤ h'.length := by
  obtain ⟨hg, hb, hr, hlen, hon, hin⟩ := row_pre hp k
  obtain ⟨hlk, hll⟩ := links_good hb
  obtain ⟨_, h8, _⟩ := goodH_facts hg
  have hcc := hc
  obtain ⟨x, y, z, F1, F2, F3, rfl, rfl, hx, hy, hz⟩ := hc
  obtain ⟨_, h1, e1, o1, G1, rfl, s1, k1, l1⟩ := AllDepsS_ok (c := c.heard) ⟨x, y, F1, F2, rfl, rfl, hx, hy⟩ hz
  have hq : allQ c.heard c.groups = true := hb
  rw [hq] at e1
  have e1' : ∃ h1', call p 774 [.agg [vi c.heard.no, x, y, z]] h = some (o1, h1') ∧ h1' = h1 := by
    obtain ⟨w, h', e, hw, hh⟩ : ∃ w h', call p 774 [.agg [vi c.heard.no, x, y, z]] h = some (w, h') ∧ w = o1 ∧ h' = h1 := by
      refine go (fn := g774) rfl rfl fun R hR => ?_
      simp [g774, fillL, upd, hx.cells, hx.cell, hy.cells, hy.cell, hz.cells, hz.cell, e1]
      exact hR _ _ ⟨rfl, rfl⟩
    exact ⟨h', by rw [e, hw], hh⟩
  obtain ⟨_, e2, rfl⟩ := e1'
  obtain ⟨u, Gu, i1, ld1, su, _⟩ := readL hy hr
  have su1 : SdF h u (rowAt c.heard r) Gu := su
  have ld1' := rdH_keep k1 ld1
  obtain ⟨pu, Gp, ep, sp, _⟩ := (su1.keep k1).pre (i := k) (by omega)
  have hon' : onceB (linksR c.heard c.groups).length ((rowAt c.heard r).take k) = true := by rw [hll]; exact hon
  obtain ⟨_, h2, e3, o2, rfl, s2, k2, l2⟩ := DoneByS_ok s1 sp hlk hon'
  have hol := outK_short hlk ((rowAt c.heard r).take k) ((rowAt c.heard r).take k).length
  have hoi := outK_in hlk ((rowAt c.heard r).take k) ((rowAt c.heard r).take k).length
  obtain ⟨r3, h3, e4, G3, c3, f3, k3, l3⟩ := l17By_ok (hcc.keep (k1.trans k2)) hg s2.sl (fun p hp => by have := hoi p hp; exact ⟨this.1, by have := this.2; rw [hll] at this; exact this⟩) (by omega)
  have c3' := c3
  obtain ⟨a, b, d, _, _, _, rfl, _, ga, gb, gd⟩ := c3'
  refine go (fn := g771) rfl rfl fun R hR => ?_
  simp [g771, fillL, upd, hx.cells, hx.cell, hy.cells, hy.cell, hz.cells, hz.cell, i1, ld1, ld1', e2, stable, bounds, takeB, ep, e3, e4, resV, mkV, ga.cells, ga.cell, gb.cells, gb.cell, gd.cells, gd.cell]
  exact hR _ _ ⟨G3, c3, fun i hi => by have := f3 i hi; omega, (k1.trans k2).trans k3, by omega⟩
def sfB (c : Hs) (r k : Int) : Bool := placeQ c r && decide (0 ≤ k ∧ k ≤ (c.heard.deeds.length : Int))
noncomputable def sfR (c : Hs) (r k : Int) : Oc := if sfB c r k = true then soO c r k.toNat else zO
theorem OutcomeSoFar_ok {h : Heap} {v : V} {c : Hs} {F : List Nat} (hc : HsV h v c F) (r k : Int) :
    ∃ w h', call p 721 [v, vi r, vi k] h = some (w, h') ∧ ∃ o G, w = .tup [o, .bool (sfB c r k)] ∧ OcV h' o (sfR c r k) G ∧ Fresh h.length h' G ∧ Keeps h h' ∧ h.length ≤ h'.length := by
  obtain ⟨_, h1, e1, o1, G1, rfl, s1, f1, k1, l1⟩ := LinksOf_ok hc
  have hcc := hc
  obtain ⟨x, y, z, F1, F2, F3, rfl, rfl, hx, hy, hz⟩ := hc
  refine go (fn := g721) rfl rfl fun R hR => ?_
  have fin : sfB c r k = false → R (.tup [.agg [.nils, .nils, .nils], .bool false]) h1 := fun hb => hR _ _ ⟨_, [], by rw [hb], by simp only [sfR, hb]; exact zO_v h1, Fresh.nil, k1, l1⟩
  cases hb : houseB c with
  | false =>
    rw [hb] at e1
    simp [g721, fillL, upd, hx.cells, hx.cell, hy.cells, hy.cell, hz.cells, hz.cell, e1, resV, mkV]
    exact fin (by simp [sfB, placeQ, hb])
  | true =>
    rw [hb] at e1
    obtain ⟨hg, _⟩ := houseB_facts hb
    obtain ⟨hno, h8, _⟩ := goodH_facts hg
    have w1 : IntKind.i64.wrap (c.heard.no - 1) = c.heard.no - 1 := by rw [IntWalk.i64_in] <;> omega
    by_cases hr : 0 ≤ r ∧ r ≤ c.heard.no - 1
    · by_cases hkk : 0 ≤ k ∧ k ≤ (c.heard.deeds.length : Int)
      · have hp : placeQ c r = true := by simp only [placeQ, hb, decide_eq_true hr, Bool.and_self]
        have hs : sfB c r k = true := by simp only [sfB, hp, decide_eq_true hkk, Bool.and_self]
        obtain ⟨n, rfl⟩ : ∃ n : Nat, k = n := ⟨k.toNat, by omega⟩
        obtain ⟨_, _, hrr, hlen, hon, hin⟩ := row_pre hp n
        obtain ⟨hlk, hll⟩ := links_good hb
        obtain ⟨u, Gu, i1, ld1, su, _⟩ := readL (hy.keep k1) hrr
        have su1 : SdF h1 u (rowAt c.heard r) Gu := su
        obtain ⟨pu, Gp, ep, sp, _⟩ := su1.pre (i := n) (by omega)
        obtain ⟨r2, h2, e2, s2, k2, l2⟩ := doneBy_ok s1 sp.sl hlk hin (by rw [List.length_take]; omega)
        have hol := outK_short hlk ((rowAt c.heard r).take n) ((rowAt c.heard r).take n).length
        have hoi := outK_in hlk ((rowAt c.heard r).take n) ((rowAt c.heard r).take n).length
        obtain ⟨r3, h3, e4, G3, c3, f3, k3, l3⟩ := outcome_ok (hcc.keep (k1.trans k2)) hg s2.sl (fun p hp => by have := hoi p hp; exact ⟨this.1, by have := this.2; rw [hll] at this; exact this⟩) (by omega)
        have c3' := c3
        obtain ⟨a, b, d, _, _, _, rfl, _, ga, gb, gd⟩ := c3'
        simp [g721, fillL, upd, hx.cells, hx.cell, hy.cells, hy.cell, hz.cells, hz.cell, hx.len, e1, w1, hr, hkk.2, i1, ld1, bounds, takeB, ep, e2, e4, resV, mkV, ga.cells, ga.cell, gb.cells, gb.cell, gd.cells, gd.cell]
        exact hR _ _ ⟨_, G3, by rw [hs], by simp only [sfR, hs, if_true, Int.toNat_natCast]; exact c3, f3.mono (by omega), (k1.trans k2).trans k3, by omega⟩
      · have hk2 : decide (0 ≤ k ∧ k ≤ (c.heard.deeds.length : Int)) = false := decide_eq_false hkk
        simp [g721, fillL, upd, hx.cells, hx.cell, hy.cells, hy.cell, hz.cells, hz.cell, hx.len, e1, w1, hr, hk2, resV, mkV, -Bool.decide_and]
        exact fin (by simp only [sfB, hk2, Bool.and_false])
    · have hr2 : decide (0 ≤ r ∧ r ≤ c.heard.no - 1) = false := decide_eq_false hr
      simp [g721, fillL, upd, hx.cells, hx.cell, hy.cells, hy.cell, hz.cells, hz.cell, hx.len, e1, w1, hr2, resV, mkV, -Bool.decide_and]
      exact fin (by simp only [sfB, placeQ, hr2, Bool.and_false, Bool.false_and])
end GL

namespace GL
open Go

theorem sf_at (c : Hs) (r : Int) : sfB c r (c.heard.deeds.length : Int) = placeQ c r := by
  simp only [sfB]
  rw [decide_eq_true (show 0 ≤ (c.heard.deeds.length : Int) ∧ (c.heard.deeds.length : Int) ≤ c.heard.deeds.length by omega), Bool.and_true]
noncomputable def atR (c : Hs) (r : Int) : Oc := sfR c r (c.heard.deeds.length : Int)
theorem OutcomeAt_ok {h : Heap} {v : V} {c : Hs} {F : List Nat} (hc : HsV h v c F) (r : Int) :
    ∃ w h', call p 724 [v, vi r] h = some (w, h') ∧ ∃ o G, w = .tup [o, .bool (placeQ c r)] ∧ OcV h' o (atR c r) G ∧ Fresh h.length h' G ∧ Keeps h h' ∧ h.length ≤ h'.length := by
  obtain ⟨_, h1, e1, o, G, rfl, c1, f1, k1, l1⟩ := OutcomeSoFar_ok hc r (c.heard.deeds.length : Int)
  rw [sf_at] at e1
  have c1' := c1
  obtain ⟨x, y, z, F1, F2, F3, rfl, rfl, hx, hy, hz⟩ := hc
  obtain ⟨a, b, d, _, _, _, rfl, _, ga, gb, gd⟩ := c1'
  refine go (fn := g724) rfl rfl fun R hR => ?_
  simp [g724, fillL, upd, hx.cells, hx.cell, hy.cells, hy.cell, hz.cells, hz.cell, hx.len, e1, resV, mkV, ga.cells, ga.cell, gb.cells, gb.cell, gd.cells, gd.cell]
  exact hR _ _ ⟨_, G, rfl, c1, f1, k1, l1⟩
end GL

namespace GL
open Go

end GL

namespace GL
open Go

def sameQ (a b : Oc) : Bool := decide (a.keys = b.keys) && decide (a.seen = b.seen)
theorem areSame_eq {h : Heap} {v w : V} {a b : Oc} {F G : List Nat} (hc : OcV h v a F) (hd : OcV h w b G) : call p 773 [v, w] h = some (.bool (sameQ a b), h) := by
  obtain ⟨x, y, z, F1, F2, F3, rfl, rfl, hx, hy, hz⟩ := hc
  obtain ⟨a', b', d', G1, G2, G3, rfl, rfl, ga, gb, gd⟩ := hd
  have e1 := Equal_eq hy.sl gb.sl
  have e2 := Equal_eq hz.sl gd.sl
  refine go_eq (fn := g773) rfl rfl fun R hR => ?_
  by_cases hk : a.keys = b.keys
  · rw [decide_eq_true hk] at e1
    simp [g773, fillL, upd, hx.cells, hx.cell, hy.cells, hy.cell, hz.cells, hz.cell, ga.cells, ga.cell, gb.cells, gb.cell, gd.cells, gd.cell, e1, e2]; simpa [sameQ, hk] using hR
  · rw [decide_eq_false hk] at e1
    simp [g773, fillL, upd, hx.cells, hx.cell, hy.cells, hy.cell, hz.cells, hz.cell, ga.cells, ga.cell, gb.cells, gb.cell, gd.cells, gd.cell, e1]; simpa [sameQ, hk] using hR
theorem l17Same_eq {h : Heap} {v w : V} {a b : Oc} {F G : List Nat} (hc : OcV h v a F) (hd : OcV h w b G) : call p 772 [v, w] h = some (.bool (sameQ a b), h) := by
  obtain ⟨x, y, z, F1, F2, F3, rfl, rfl, hx, hy, hz⟩ := hc
  obtain ⟨a', b', d', G1, G2, G3, rfl, rfl, ga, gb, gd⟩ := hd
  have e1 := l1Same_eq hy.sl gb.sl
  have e2 := l1Same_eq hz.sl gd.sl
  refine go_eq (fn := g772) rfl rfl fun R hR => ?_
  by_cases hk : a.keys = b.keys
  · rw [decide_eq_true hk] at e1
    simp [g772, fillL, upd, hx.cells, hx.cell, hy.cells, hy.cell, hz.cells, hz.cell, ga.cells, ga.cell, gb.cells, gb.cell, gd.cells, gd.cell, e1, e2]; simpa [sameQ, hk] using hR
  · rw [decide_eq_false hk] at e1
    simp [g772, fillL, upd, hx.cells, hx.cell, hy.cells, hy.cell, hz.cells, hz.cell, ga.cells, ga.cell, gb.cells, gb.cell, gd.cells, gd.cell, e1]; simpa [sameQ, hk] using hR
def twoQ (c : Hs) (r q : Int) : Bool := placeQ c r && placeQ c q
noncomputable def twoA (c : Hs) (r q : Int) : Bool := twoQ c r q && sameQ (atR c r) (atR c q)
theorem SameOutcome_ok {h : Heap} {v : V} {c : Hs} {F : List Nat} (hc : HsV h v c F) (r q : Int) :
    ∃ w h', call p 715 [v, vi r, vi q] h = some (w, h') ∧ w = .tup [.bool (twoA c r q), .bool (twoQ c r q)] ∧ Keeps h h' ∧ h.length ≤ h'.length := by
  obtain ⟨_, h1, e1, o1, G1, rfl, c1, f1, k1, l1⟩ := OutcomeAt_ok hc r
  obtain ⟨_, h2, e2, o2, G2, rfl, c2, f2, k2, l2⟩ := OutcomeAt_ok (hc.keep k1) q
  have e3 := areSame_eq (c1.keep k2) c2
  obtain ⟨x, y, z, F1, F2, F3, rfl, rfl, hx, hy, hz⟩ := hc
  have ht : twoA c r q = (placeQ c r && placeQ c q && sameQ (atR c r) (atR c q)) := rfl
  have hq : twoQ c r q = (placeQ c r && placeQ c q) := rfl
  rw [ht, hq]
  generalize sameQ (atR c r) (atR c q) = sm at *
  obtain ⟨a, b, d, _, _, _, rfl, _, ga, gb, gd⟩ := c1
  obtain ⟨a2, b2, d2, _, _, _, rfl, _, ga2, gb2, gd2⟩ := c2
  refine go (fn := g715) rfl rfl fun R hR => ?_
  generalize placeQ c r = p1 at *
  generalize placeQ c q = p2 at *
  cases p1 <;> cases p2 <;> simp [g715, fillL, upd, hx.cells, hx.cell, hy.cells, hy.cell, hz.cells, hz.cell, e1, e2, e3, ga.cells, ga.cell, gb.cells, gb.cell, gd.cells, gd.cell, ga2.cells, ga2.cell, gb2.cells, gb2.cell, gd2.cells, gd2.cell] <;> exact hR _ _ ⟨by simp, k1.trans k2, by omega⟩
theorem SameOutcomeS_ok {h : Heap} {v : V} {c : Hs} {F : List Nat} (hc : HsV h v c F) (r q : Int) :
    ∃ w h', call p 714 [v, vi r, vi q] h = some (w, h') ∧ w = .tup [.bool (twoA c r q), .bool (twoQ c r q)] ∧ Keeps h h' ∧ h.length ≤ h'.length := by
  obtain ⟨_, h1, e1, rfl, k1, l1⟩ := l17Place_ok hc r
  obtain ⟨_, h2, e2, rfl, k2, l2⟩ := l17Place_ok (hc.keep k1) q
  have hcc := hc
  obtain ⟨x, y, z, F1, F2, F3, rfl, rfl, hx, hy, hz⟩ := hc
  refine go (fn := g714) rfl rfl fun R hR => ?_
  cases hp1 : placeQ c r with
  | false =>
    rw [hp1] at e1
    simp [g714, fillL, upd, hx.cells, hx.cell, hy.cells, hy.cell, hz.cells, hz.cell, e1]
    exact hR _ _ ⟨by simp [twoA, twoQ, hp1], k1, l1⟩
  | true =>
    rw [hp1] at e1
    cases hp2 : placeQ c q with
    | false =>
      rw [hp2] at e2
      simp [g714, fillL, upd, hx.cells, hx.cell, hy.cells, hy.cell, hz.cells, hz.cell, e1, e2]
      exact hR _ _ ⟨by simp [twoA, twoQ, hp2], k1.trans k2, by omega⟩
    | true =>
      rw [hp2] at e2
      have k12 := k1.trans k2
      obtain ⟨r3, h3, e3, G3, c3, f3, k3, l3⟩ := l17So_ok (hcc.keep k12) hp1 c.heard.deeds.length (Nat.le_refl _)
      obtain ⟨r4, h4, e4, G4, c4, f4, k4, l4⟩ := l17So_ok (hcc.keep (k12.trans k3)) hp2 c.heard.deeds.length (Nat.le_refl _)
      have e5 := l17Same_eq (c3.keep k4) c4
      have h1' : soO c r c.heard.deeds.length = atR c r := by simp only [atR, sfR, sf_at, hp1, if_true, Int.toNat_natCast]
      have h2' : soO c q c.heard.deeds.length = atR c q := by simp only [atR, sfR, sf_at, hp2, if_true, Int.toNat_natCast]
      rw [h1', h2'] at e5
      have ht : twoA c r q = sameQ (atR c r) (atR c q) := by simp [twoA, twoQ, hp1, hp2]
      rw [← ht] at e5
      simp [g714, fillL, upd, hx.cells, hx.cell, hy.cells, hy.cell, hz.cells, hz.cell, hx.len, e1, e2, e3, e4, e5]
      exact hR _ _ ⟨by simp [twoQ, hp1, hp2], (k12.trans k3).trans k4, by omega⟩
theorem FnExactSameOutcome_ok {h : Heap} {va : V} {c : Hs} {F : List Nat} (hc : HsV h va c F) (r q : Int) : ∃ w h', call p 713 [va, vi r, vi q] h = some (w, h') ∧ w = .bool true := by
  refine go (fn := g713) rfl rfl fun R hR => ?_
  obtain ⟨n, en, hn⟩ := szHouse_eq hc
  have hcc := hc
  obtain ⟨x, y, z, F1, F2, F3, rfl, hF, hx, hy, hz⟩ := hc
  by_cases hneg : n < 0
  · simp [g713, fillL, upd, hx.cells, hx.cell, hy.cells, hy.cell, hz.cells, hz.cell, en, hneg]
    exact hR _ _ rfl
  · have hsm : smS c := by
      rcases hn with h | h
      · exact absurd h hneg
      · exact h
    obtain ⟨r1, h1, e1, G1, c1, f1, k1, l1⟩ := toHouse_ok hcc hsm
    obtain ⟨_, h2, e2, rfl, k2, l2⟩ := SameOutcomeS_ok c1 r q
    have k12 := k1.trans k2
    obtain ⟨r3, h3, e3, G3, c3, f3, k3, l3⟩ := toHouse_ok (hcc.keep k12) hsm
    obtain ⟨_, h4, e4, rfl, k4, l4⟩ := SameOutcome_ok c3 r q
    obtain ⟨r5, h5, e5, G5, c5, f5, k5, l5⟩ := toHouse_ok (hcc.keep ((k12.trans k3).trans k4)) hsm
    have e6 := eqHouse_same (c3.keep (k4.trans k5)) c5
    generalize twoA c r q = ok at *
    generalize twoQ c r q = fr at *
    obtain ⟨x1, y1, z1, _, _, _, rfl, _, p1, q1, s1⟩ := c1
    obtain ⟨x3, y3, z3, _, _, _, rfl, _, p3, q3, s3⟩ := c3
    obtain ⟨x5, y5, z5, _, _, _, rfl, _, p5, q5, s5⟩ := c5
    simp [g713, fillL, upd, resV, mkV, hx.cells, hx.cell, hy.cells, hy.cell, hz.cells, hz.cell, p1.cells, p1.cell, q1.cells, q1.cell, s1.cells, s1.cell, p3.cells, p3.cell, q3.cells, q3.cell, s3.cells, s3.cell, p5.cells, p5.cell, q5.cells, q5.cell, s5.cells, s5.cell, en, hneg, e1, e2, e3, e4, e5, e6]
    exact hR _ _ rfl
theorem FnExactSameOutcome_law {h : Heap} {x0 x1 x2 : V} {c : Hs} {r k : Int} {F0 F1 F2 : List Nat} (r0 : RepA h x0 c F0 true) (r1 : RepA h x1 r F1 false) (r2 : RepA h x2 k F2 false) : ∃ w h', call p 713 [x0, x1, x2] h = some (w, h') ∧ w = .bool true := by
  obtain ⟨vs, rfl, _, x, y, z, G1, G2, G3, rfl, rfl, hx, hy, hz⟩ := r0
  obtain ⟨u1, rfl, s1, rfl, _⟩ := r1
  obtain ⟨u2, rfl, s2, rfl, _⟩ := r2
  exact FnExactSameOutcome_ok (c := c) (F := G1 ++ G2 ++ G3) ⟨x, y, z, G1, G2, G3, rfl, rfl, hx, hy, hz⟩ r k
end GL

