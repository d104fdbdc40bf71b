import Derived.ChangeArms
import Derived.IntWalk
import Derived.WideShapes
import Derived.Test.YtkmggfhfefaehaaGreatGuFnJoinedB
/- What the functions of the law do, on the machine. -/
set_option linter.unusedSimpArgs false
set_option linter.unusedVariables false
set_option linter.unnecessarySimpa false
namespace GL
open Go

theorem EqualFuncL_eq {h : Heap} {v w : V} {xs ys : List (List Int)} {F G : List Nat} (hs : SdF h v xs F) (ht : SdF h w ys G) : call p 778 [v, w, .fn 386 []] h = some (.bool (decide (xs = ys)), h) := by
  refine go_eq (fn := g778) rfl rfl fun R hR => ?_
  by_cases hl : xs.length = ys.length
  · have hl' : lenV w = some xs.length := by rw [hl]; exact ht.len
    simp [g778, hs.len, hl']
    refine Wc_upM (M := [6, 7, 8, 9, 17, 18, 19, 20, 21, 22, 23, 24, 25, 26, 27, 28, 29, 30, 31]) rfl xs.length (fun i s => i ≤ xs.length ∧ s.σ 17 = .v (vi i) ∧ s.h = h ∧ xs.take i = ys.take i) 0 (by simp) fun i s ⟨gi, g17, gh, hp⟩ hM J hJ => ?_
    by_cases hi : i < xs.length
    · have hy : i < ys.length := by omega
      obtain ⟨a, Fa, ea, ha, _⟩ := hs.loadL i hi
      obtain ⟨b, Fb, eb, hb, _⟩ := ht.loadL i hy
      have ix := hs.idx 1 .i64 i hi
      have iy := ht.idx 1 .i64 i hy
      simp only [Nat.mul_one] at ix iy
      have st := hs.step hi
      have e := Equal_eq ha.sl hb.sl
      by_cases he : xs[i] = ys[i]
      · rw [decide_eq_true he] at e
        simp [g778_0, hM, g17, gh, hi, ix, iy, ea, eb, e, st]
        exact hJ _ hi ⟨hi, by simp, rfl, take_eq_succ hi hy hp he⟩
      · rw [decide_eq_false he] at e
        rw [decide_eq_false (ne_at hi hy he)] at hR
        simp [g778_0, hM, g17, gh, hi, ix, iy, ea, eb, e]
        exact hR
    · rw [List.take_of_length_le (by omega), List.take_of_length_le (by omega)] at hp
      rw [decide_eq_true hp] at hR
      simp [g778_0, hM, g17, gh, hi]
      exact hR
  · have hne : ¬ (xs.length : Int) = ys.length := by omega
    rw [decide_eq_false (fun h => hl (by rw [h]))] at hR
    simp [g778, hs.len, ht.len, hl, hne]
    exact hR
theorem Rl.eq_iff {a b : Rl} : a = b ↔ a.c = b.c ∧ a.rows = b.rows := by
  cases a; cases b; simp
instance : DecidableEq Rl := fun _ _ => decidable_of_iff _ Rl.eq_iff.symm
theorem Rl.dec (a b : Rl) : decide (a = b) = (decide (a.c = b.c) && decide (a.rows = b.rows)) := by
  rw [Bool.eq_iff_iff]; simp only [decide_eq_true_eq, Bool.and_eq_true]; exact Rl.eq_iff
def sameTR (a b : Rl) : V := .tup [.bool (joinB a b && decide (a = b)), .bool (joinB a b)]
theorem SameTuples_eq {h : Heap} {x y z w : V} {a b : Rl} {F1 F2 F3 F4 : List Nat} (hx : SdF h x a.c F1) (hy : SdF h y a.rows F2) (hz : SdF h z b.c F3) (hw : SdF h w b.rows F4) : call p 738 [.agg [x, y], .agg [z, w]] h = some (sameTR a b, h) := by
  have q1 := GoodRelation_eq (v := .agg [x, y]) ⟨x, y, F1, F2, rfl, hx, hy⟩
  have q2 := GoodRelation_eq (v := .agg [z, w]) ⟨z, w, F3, F4, rfl, hz, hw⟩
  have q3 := Equal_eq hx.sl hz.sl
  have q4 := EqualFuncL_eq hy hw
  refine go_eq (fn := g738) rfl rfl fun R hR => ?_
  rw [sameTR, Rl.dec, joinB] at hR
  cases hga : goodRl a with
  | false =>
    rw [hga] at q1 hR
    simp [g738, upd, hx.cells, hx.cell, hy.cells, hy.cell, hz.cells, hz.cell, hw.cells, hw.cell, q1, fillL, resV, mkV]
    exact hR
  | true =>
    cases hgb : goodRl b with
    | false =>
      rw [hga] at q1 hR
      rw [hgb] at q2 hR
      simp [g738, upd, hx.cells, hx.cell, hy.cells, hy.cell, hz.cells, hz.cell, hw.cells, hw.cell, q1, q2, fillL, resV, mkV]
      exact hR
    | true =>
      rw [hga] at q1 hR
      rw [hgb] at q2 hR
      cases hc : decide (a.c = b.c) with
      | false =>
        rw [hc] at q3 hR
        simp [g738, upd, hx.cells, hx.cell, hy.cells, hy.cell, hz.cells, hz.cell, hw.cells, hw.cell, q1, q2, q3, fillL, resV, mkV]
        exact hR
      | true =>
        rw [hc] at q3 hR
        generalize decide (a.rows = b.rows) = e at *
        simp [g738, upd, hx.cells, hx.cell, hy.cells, hy.cell, hz.cells, hz.cell, hw.cells, hw.cell, q1, q2, q3, q4, fillL, resV, mkV]
        exact hR
theorem SameTuplesS_eq {h : Heap} {x y z w : V} {a b : Rl} {F1 F2 F3 F4 : List Nat} (hx : SdF h x a.c F1) (hy : SdF h y a.rows F2) (hz : SdF h z b.c F3) (hw : SdF h w b.rows F4) : call p 743 [.agg [x, y], .agg [z, w]] h = some (sameTR a b, h) := by
  have q1 := GoodRelationS_eq (v := .agg [x, y]) ⟨x, y, F1, F2, rfl, hx, hy⟩
  have q2 := GoodRelationS_eq (v := .agg [z, w]) ⟨z, w, F3, F4, rfl, hz, hw⟩
  have q3 := l1Same_eq hx.sl hz.sl
  refine go_eq (fn := g743) rfl rfl fun R hR => ?_
  rw [sameTR, Rl.dec, joinB] at hR
  cases hga : goodRl a with
  | false =>
    rw [hga] at q1 hR
    simp [g743, upd, hx.cells, hx.cell, hy.cells, hy.cell, hz.cells, hz.cell, hw.cells, hw.cell, q1, fillL, resV, mkV]
    exact hR
  | true =>
    cases hgb : goodRl b with
    | false =>
      rw [hga] at q1 hR
      rw [hgb] at q2 hR
      simp [g743, upd, hx.cells, hx.cell, hy.cells, hy.cell, hz.cells, hz.cell, hw.cells, hw.cell, q1, q2, fillL, resV, mkV]
      exact hR
    | true =>
      rw [hga] at q1 hR
      rw [hgb] at q2 hR
      have fin : ∀ e : Bool, e = (decide (a.c = b.c) && decide (a.rows = b.rows)) → R (.tup [.bool e, .bool true]) h := fun e he => by subst he; simpa using hR
      -- the loop, from a start that is known
      have loop : ∀ (s0 : S) (b0 : Bool), (b0 = true → a.rows.length = b.rows.length) → (b0 = (decide (a.c = b.c) && decide (a.rows.length = b.rows.length))) → s0.h = h → s0.σ 2 = .lp 2 1 0 → s0.σ 3 = .lp 3 1 0 → s0.L 2 = (1, [x, y]) → s0.L 3 = (1, [z, w]) → s0.σ 6 = .v (.bool b0) → s0.σ 7 = .v (vi 0) → ∀ K : Ex → S → Prop, (∀ s, s.h = h → s.σ 6 = .v (.bool (decide (a.c = b.c) && decide (a.rows = b.rows))) → s.σ 4 = s0.σ 4 → s.σ 5 = s0.σ 5 → K (.exit 0) s) → Wc p (.loop g743_0) s0 K := by
        intro s0 b0 hb1 hb2 gh g2 g3 gL2 gL3 g6 g7 K hK
        refine Wc_upM (M := [6, 7, 30, 31, 32, 33, 34, 35, 36, 37, 38, 39, 40, 41, 42, 43, 44, 45, 46, 47, 48, 49, 50]) rfl a.rows.length (fun i s => i ≤ a.rows.length ∧ s.σ 7 = .v (vi i) ∧ s.h = h ∧ s.L 2 = (1, [x, y]) ∧ s.L 3 = (1, [z, w]) ∧ ∃ b1, s.σ 6 = .v (.bool b1) ∧ b1 = (b0 && decide (a.rows.take i = b.rows.take i))) 0 ⟨by omega, by simpa using g7, gh, gL2, gL3, b0, g6, by simp⟩ fun i s ⟨gi, g7, gh, gL2, gL3, b1, g6, hb⟩ hM J hJ => ?_
        cases b1 with
        | false =>
          simp [g743_0, hM, g6]
          have hf : (decide (a.c = b.c) && decide (a.rows = b.rows)) = false := by
            rw [Bool.eq_false_iff]
            intro ht
            simp only [Bool.and_eq_true, decide_eq_true_eq] at ht
            rw [hb2, ht.1, ht.2] at hb
            simp at hb
          exact hK _ gh (by simpa [g6] using hf) (by simp [hM]) (by simp [hM])
        | true =>
          have hb' := hb.symm
          simp only [Bool.and_eq_true, decide_eq_true_eq] at hb'
          have hll := hb1 hb'.1
          by_cases hi : i < a.rows.length
          · have hj : i < b.rows.length := by omega
            obtain ⟨u, Fu, eu, hu, _⟩ := hy.loadL i hi
            obtain ⟨v, Fv, ev, hv, _⟩ := hw.loadL i hj
            have ix := hy.idx 1 .i64 i hi
            have iy := hw.idx 1 .i64 i hj
            simp only [Nat.mul_one] at ix iy
            have st := hy.step hi
            have e := l1Same_eq hu.sl hv.sl
            have hn : (true && decide (a.rows.take (i + 1) = b.rows.take (i + 1))) = decide (a.rows[i] = b.rows[i]) := by
              rw [Bool.true_and]
              by_cases he : a.rows[i] = b.rows[i]
              · rw [decide_eq_true he, decide_eq_true (take_eq_succ hi hj hb'.2 he)]
              · rw [decide_eq_false he, decide_eq_false]
                intro h2
                rw [List.take_succ_eq_append_getElem hi, List.take_succ_eq_append_getElem hj, hb'.2] at h2
                exact he (List.cons.inj ((List.append_right_inj _).1 h2)).1
            simp [g743_0, hM, g2, g3, g6, g7, gh, gL2, gL3, upd, hy.len, hi, ix, iy, eu, ev, e, st]
            exact hJ _ hi ⟨hi, by simp, rfl, by simp [gL2], by simp [gL3], decide (a.rows[i] = b.rows[i]), by simp, by rw [hb'.1, hn]⟩
          · have he : a.rows = b.rows := by
              have h2 := hb'.2
              rwa [List.take_of_length_le (by omega), List.take_of_length_le (by omega)] at h2
            have hc : decide (a.c = b.c) = true := by
              have := hb2
              rw [hb'.1] at this
              cases h9 : decide (a.c = b.c) with
                | true => rfl
                | false => rw [h9] at this; simp at this
            simp [g743_0, hM, g2, g6, g7, gL2, upd, hy.len, hi]
            exact hK _ gh (by simp [g6, hc, he]) (by simp [hM]) (by simp [hM])
      have hyl := hy.len
      have hwl := hw.len
      cases hc : decide (a.c = b.c) with
      | false =>
        have q3' := q3
        rw [hc] at q3'
        simp [g743, upd, hx.cells, hx.cell, hy.cells, hy.cell, hz.cells, hz.cell, hw.cells, hw.cell, q1, q2, q3', fillL]
        refine loop _ false (by simp) (by rw [hc]; rfl) (by simp) (by simp) (by simp) (by simp [upd]) (by simp [upd]) (by simp) (by simp) _ fun s gh g6 g4 g5 => ?_
        simp [g6, gh, resV, mkV, fillL]
        exact fin _ rfl
      | true =>
        have q3' := q3
        rw [hc] at q3'
        by_cases hl : a.rows.length = b.rows.length
        · have hli : (a.rows.length : Int) = b.rows.length := by omega
          simp [g743, upd, hx.cells, hx.cell, hy.cells, hy.cell, hz.cells, hz.cell, hw.cells, hw.cell, q1, q2, q3', hyl, hwl, hl, fillL]
          refine loop _ true (fun _ => hl) (by rw [hc, decide_eq_true hl]; rfl) (by simp) (by simp) (by simp) (by simp [upd]) (by simp [upd]) (by simp) (by simp) _ fun s gh g6 g4 g5 => ?_
          simp [g6, gh, resV, mkV, fillL]
          exact fin _ rfl
        · have hli : ¬ (a.rows.length : Int) = b.rows.length := by omega
          simp [g743, upd, hx.cells, hx.cell, hy.cells, hy.cell, hz.cells, hz.cell, hw.cells, hw.cell, q1, q2, q3', hyl, hwl, hl, hli, fillL]
          refine loop _ false (by simp) (by rw [hc, decide_eq_false hl]; rfl) (by simp) (by simp) (by simp) (by simp [upd]) (by simp [upd]) (by simp) (by simp) _ fun s gh g6 g4 g5 => ?_
          simp [g6, gh, resV, mkV, fillL]
          exact fin _ rfl
end GL

namespace GL
open Go

theorem pick_map {N xs : List Int} (f : Int → Int) (h : ∀ n ∈ xs, n ∈ N) : pickL N (N.map f) xs = xs.map f := by
  unfold pickL
  apply List.map_congr_left
  intro n hn
  obtain ⟨q, hq1, hq2⟩ := pos_in (h n hn)
  rw [hq1, Int.toNat_natCast, getD_mapF f hq2]
  have : placeL N n = (N.idxOf n : Int) := by rw [placeL, if_pos (h n hn)]
  have hq : q = N.idxOf n := by omega
  subst hq
  rw [List.getElem_idxOf]
theorem pick_all {c t : List Int} (hn : c.Nodup) (hl : t.length = c.length) : pickL c t c = t := by
  apply List.ext_getElem
  · rw [pickL_len, hl]
  · intro i h1 h2
    have hi : i < c.length := by omega
    simp only [pickL, List.getElem_map]
    rw [place_nodup hn hi, Int.toNat_natCast, getD_in h2]
theorem joinR_mem {a b : Rl} {ts : List (List Int)} {x : List Int} : x ∈ joinR a b ts ↔ ∃ t ∈ ts, ∃ u ∈ b.rows, pickL a.c t (comN a b) = pickL b.c u (comN a b) ∧ joinT a b t u = x := by
  simp only [joinR, joinO, joinQ, List.mem_flatMap, List.mem_map, List.mem_filter, decide_eq_true_eq, and_assoc]
theorem pick_eq_at {c d t u xs : List Int} (h : pickL c t xs = pickL d u xs) {n : Int} (hn : n ∈ xs) : t.getD (placeL c n).toNat 0 = u.getD (placeL d n).toNat 0 := by
  unfold pickL at h
  exact List.map_inj_left.1 h n hn
/-- lists of the same members are put in one order -/
theorem addAll_ext {n : Nat} {xs ys : List (List Int)} (hx : LenN n xs) (hy : LenN n ys) (h : ∀ x, x ∈ xs ↔ x ∈ ys) : addAll xs = addAll ys := by
  obtain ⟨q1, _, q3⟩ := addAll_facts hy
  exact addAll_of hx q1 fun x => by rw [q3, h]
theorem joinB_facts {a b : Rl} (h : joinB a b = true) : goodRl a = true ∧ goodRl b = true := by
  simpa [joinB] using h
theorem tog_comm {a b : Rl} (ha : goodRl a = true) (hb : goodRl b = true) : togN b a = togN a b :=
  togN_eq ha hb (togN_ris hb ha) fun x => by rw [togN_mem]; exact Or.comm
theorem joinT_comm {a b : Rl} (ha : goodRl a = true) (hb : goodRl b = true) {t u : List Int} (h : pickL a.c t (comN a b) = pickL b.c u (comN a b)) : joinT b a u t = joinT a b t u := by
  unfold joinT
  rw [tog_comm ha hb]
  apply List.map_congr_left
  intro n hn
  unfold joinAt
  by_cases h1 : n ∈ a.c
  · by_cases h2 : n ∈ b.c
    · rw [if_pos h1, if_pos h2]
      exact (pick_eq_at h (List.mem_filter.2 ⟨h1, by simp [h2]⟩)).symm
    · rw [if_pos h1, if_neg h2]
  · have h2 : n ∈ b.c := (togN_mem.1 hn).resolve_left h1
    rw [if_neg h1, if_pos h2]
theorem join_comm {a b : Rl} (hB : joinB a b = true) : joinL b a = joinL a b := by
  obtain ⟨ha, hb⟩ := joinB_facts hB
  have hc : comN b a = comN a b := comN_eq ha hb
  have ht := tog_comm ha hb
  have hA : addAll (joinR b a b.rows) = addAll (joinR a b a.rows) := by
    refine addAll_ext (n := (togN a b).length) (by rw [← ht]; exact joinR_LenN b a b.rows) (joinR_LenN a b a.rows) fun x => ?_
    rw [joinR_mem, joinR_mem, hc]
    constructor
    · rintro ⟨u, hu, t, ht, hp, rfl⟩
      exact ⟨t, ht, u, hu, hp.symm, (joinT_comm ha hb hp.symm).symm⟩
    · rintro ⟨t, ht, u, hu, hp, rfl⟩
      exact ⟨u, hu, t, ht, hp.symm, joinT_comm ha hb hp⟩
  rw [joinL, joinL, ht, tellR, tellR, hA]
theorem join_left {a b : Rl} (ha : goodRl a = true) {t : List Int} (ht : t ∈ a.rows) (u : List Int) : pickL (togN a b) (joinT a b t u) a.c = t := by
  rw [joinT, pick_map _ fun n hn => togN_mem.2 (.inl hn)]
  have : a.c.map (joinAt a b t u) = pickL a.c t a.c := by
    unfold pickL
    apply List.map_congr_left
    intro n hn
    rw [joinAt, if_pos hn]
  rw [this]
  exact pick_all (good_ris ha).2 ((goodRl_more ha).1 t ht)
theorem joinL_mem {a b : Rl} {x : List Int} : x ∈ (joinL a b).rows ↔ ∃ t ∈ a.rows, ∃ u ∈ b.rows, pickL a.c t (comN a b) = pickL b.c u (comN a b) ∧ joinT a b t u = x := by
  rw [← joinR_mem]
  exact (addAll_facts (joinR_LenN a b a.rows)).2.2 x
/-- what is joined, seen through the names of the one, lies in it -/
theorem join_inside {a b : Rl} (hB : joinB a b = true) (hg : goodRl (joinL a b) = true) : projB (joinL a b) a.c = true ∧ goodRl (projL (joinL a b) a.c) = true ∧ twoB (projL (joinL a b) a.c) a = true ∧ goodRl (withoutL (projL (joinL a b) a.c) a) = true ∧ (withoutL (projL (joinL a b) a.c) a).rows = [] := by
  obtain ⟨ha, hb⟩ := joinB_facts hB
  have hp : projB (joinL a b) a.c = true := by
    rw [projB, hg, Bool.true_and]
    simp only [partB, Bool.and_eq_true, List.all_eq_true, decide_eq_true_eq]
    exact ⟨fun x hx => togN_mem.2 (.inl hx), (good_ris ha).1⟩
  have gp := proj_good hp
  have hpc : (projL (joinL a b) a.c).c = a.c := rfl
  obtain ⟨w1, w2⟩ := tell_filter gp fun t => !decide (t ∈ a.rows)
  refine ⟨hp, gp, by rw [twoB, gp, ha, decide_eq_true hpc]; rfl, w2, ?_⟩
  show (tellR _ _).rows = []
  rw [w1]
  apply List.filter_eq_nil_iff.2
  intro x hx
  have hx' : x ∈ addAll ((joinL a b).rows.map fun t => pickL (joinL a b).c t a.c) := hx
  have hlen : LenN a.c.length ((joinL a b).rows.map fun t => pickL (joinL a b).c t a.c) := fun y hy => by
    obtain ⟨y0, _, rfl⟩ := List.mem_map.1 hy; exact pickL_len _ _ _
  rw [(addAll_facts hlen).2.2] at hx'
  obtain ⟨r, hr, rfl⟩ := List.mem_map.1 hx'
  obtain ⟨t, ht, u, hu, _, rfl⟩ := joinL_mem.1 hr
  have := join_left (b := b) ha ht u
  rw [show (joinL a b).c = togN a b from rfl, this]
  simp [ht]
theorem join_self {a : Rl} (ha : goodRl a = true) : joinL a a = a := by
  obtain ⟨hl, hr, _, _, _⟩ := goodRl_more ha
  have hN : togN a a = a.c := (togN_eq ha ha (good_ris ha).1 fun x => by simp).symm
  have hC : comN a a = a.c := by rw [comN]; exact List.filter_eq_self.2 fun n hn => by simp [hn]
  have hT : ∀ t ∈ a.rows, ∀ u, joinT a a t u = t := fun t ht u => by
    have := join_left (b := a) ha ht u
    rw [hN] at this
    rw [pick_all (good_ris ha).2 (by rw [joinT_len, hN])] at this
    exact this
  have hA : addAll (joinR a a a.rows) = a.rows := by
    refine addAll_of (n := (togN a a).length) (joinR_LenN a a a.rows) hr fun x => ?_
    rw [joinR_mem, hC]
    constructor
    · intro hx; exact ⟨x, hx, x, hx, rfl, hT x hx x⟩
    · rintro ⟨t, ht, u, hu, _, rfl⟩; rw [hT t ht]; exact ht
  rw [joinL, hN, tellR, hA]
/-- choosing ahead of a join, or after it -/
theorem join_choose {a b : Rl} {name k n : Int} (hB : joinB a b = true) (hg : goodRl (joinL a b) = true) (hc : chooseB a name k n = true) :
    joinB (chooseL a name k n) b = true ∧ goodRl (joinL (chooseL a name k n) b) = true ∧ chooseB (joinL a b) name k n = true ∧ joinL (chooseL a name k n) b = chooseL (joinL a b) name k n := by
  obtain ⟨ha, hb⟩ := joinB_facts hB
  obtain ⟨_, hn, hk, hs⟩ := choose_in hc
  obtain ⟨hce, hcg⟩ := choose_good hc
  have h1 : joinB (chooseL a name k n) b = true := by rw [joinB, hcg, hb]; rfl
  have h3 : chooseB (joinL a b) name k n = true := by
    have hm : name ∈ (joinL a b).c := togN_mem.2 (.inl hn)
    rw [chooseB, hg, decide_eq_true hm, decide_eq_true hk, hs]; rfl
  obtain ⟨he, heg⟩ := choose_good h3
  have hcc : (chooseL a name k n).c = a.c := by rw [hce]
  have hq : joinL (chooseL a name k n) b = chooseL (joinL a b) name k n := by
    have hN : togN (chooseL a name k n) b = togN a b := by rw [togN, togN, hcc]
    have hC : comN (chooseL a name k n) b = comN a b := by rw [comN, comN, hcc]
    have hT : ∀ t u, joinT (chooseL a name k n) b t u = joinT a b t u := fun t u => by
      rw [joinT, joinT, hN]
      apply List.map_congr_left
      intro m _
      rw [joinAt, joinAt, hcc]
    have hA : addAll (joinR (chooseL a name k n) b (chooseL a name k n).rows) = chooseF (joinL a b) name k n (joinL a b).rows := by
      refine addAll_of (n := (togN a b).length) (by rw [← hN]; exact joinR_LenN _ _ _) (risL_filter (goodRl_more hg).2.1 _) fun x => ?_
      have at_name : ∀ t u, (joinT a b t u).getD (placeL (joinL a b).c name).toNat 0 = t.getD (placeL a.c name).toNat 0 := fun t u => by
        have h9 := pick_map (N := togN a b) (xs := [name]) (joinAt a b t u) fun m hm => by
          rw [List.mem_singleton] at hm; subst hm; exact togN_mem.2 (.inl hn)
        have h10 := List.cons.inj h9
        have h11 := h10.1
        rw [joinAt, if_pos hn] at h11
        exact h11
      rw [chooseF, List.mem_filter, joinL_mem, joinR_mem, hC, hcc]
      constructor
      · rintro ⟨⟨t, ht, u, hu, hp, rfl⟩, hcmp⟩
        refine ⟨t, ?_, u, hu, hp, hT t u⟩
        rw [hce]
        exact List.mem_filter.2 ⟨ht, by rw [at_name] at hcmp; exact hcmp⟩
      · rintro ⟨t, ht, u, hu, hp, rfl⟩
        rw [hce] at ht
        obtain ⟨ht1, ht2⟩ := List.mem_filter.1 ht
        refine ⟨⟨t, ht1, u, hu, hp, (hT t u).symm⟩, ?_⟩
        rw [hT, at_name]; exact ht2
    rw [he, joinL, hN, tellR, hA]; rfl
  exact ⟨h1, by rw [hq]; exact heg, h3, hq⟩
end GL

namespace GL
open Go

theorem joined_tail {h : Heap} {v : V} {bs : List Byte} (hs : Sl h v bs) : ∃ (x y z w : V) (e g : Bool) (h1 : Heap), call p 742 [v] h = some (.tup [.agg [x, y], .agg [z, w]], h1) ∧ CC x y ∧ CC z w ∧ call p 738 [.agg [x, y], .agg [z, w]] h1 = some (.tup [.bool e, .bool g], h1) ∧ call p 743 [.agg [x, y], .agg [z, w]] h1 = some (.tup [.bool e, .bool g], h1) := by
  obtain ⟨_, h1, e1, x, y, z, w, ra, rb, F1, F2, F3, F4, rfl, sx, sy, sz, sw, _, _, k1, l1⟩ := drawSameT_ok hs
  exact ⟨x, y, z, w, _, _, h1, e1, ⟨sx.cells, sx.cell, sy.cells, sy.cell⟩, ⟨sz.cells, sz.cell, sw.cells, sw.cell⟩, SameTuples_eq sx sy sz sw, SameTuplesS_eq sx sy sz sw⟩

set_option maxRecDepth 40000 in
theorem FnJoined_ok {h : Heap} {va vb : V} {az bs : List Byte} (ha : Sl h va az) (hb : Sl h vb bs) : ∃ r h', call p 734 [va, vb] h = some (r, h') ∧ r = .bool true := by
  refine go (fn := g734) rfl rfl fun R hR => ?_
  by_cases hbig : (1048576 : Int) < IntKind.i64.wrap ((az.length : Int) + bs.length)
  · simp [g734, ha.len, hb.len, hbig]
    exact hR _ _ rfl
  · obtain ⟨_, h1, e1, x, y, z, w, a, b, F1, F2, F3, F4, rfl, sx, sy, sz, sw, ra, rb, k1, l1⟩ := drawJoin_ok ha
    have cxy : CC x y := ⟨sx.cells, sx.cell, sy.cells, sy.cell⟩
    have czw : CC z w := ⟨sz.cells, sz.cell, sw.cells, sw.cell⟩
    have hn : a.rows.length * b.rows.length ≤ 2 ^ 10 := Nat.le_trans (Nat.mul_le_mul ra rb) (by decide)
    obtain ⟨_, h2, e2, hR2, k2, l2⟩ := JoinTwo_ok sx sy sz sw
    obtain ⟨x1, y1, G1, G2, rfl, sx1, sy1, c1⟩ := hR2.get
    obtain ⟨_, h3, e3, hR3, k3, l3⟩ := JoinTwoS_ok (sx.keep k2) (sy.keep k2) (sz.keep k2) (sw.keep k2) hn
    obtain ⟨x2, y2, G3, G4, rfl, sx2, sy2, c2⟩ := hR3.get
    have q1 := alike (sx1.keep k3) (sy1.keep k3) sx2 sy2
    have k23 := k2.trans k3
    cases hB : (joinB a b && goodRl (joinL a b)) with
    | false =>
      obtain ⟨t1, t2, t3, t4, te, tg, i1, u1, d1, d2, u2, u3⟩ := joined_tail (hb.keeps (k1.trans k23))
      rw [hB] at e2 e3
      cases te <;> cases tg <;> (
        simp [g734, ha.len, hb.len, hbig, upd, fillL, e1, cxy, czw, e2, c1, e3, c2, q1, u1, d1, d2, u2, u3]
        exact hR _ _ rfl)
    | true =>
      rw [hB] at e2 e3
      have hq : givR (joinB a b) (joinL a b) = joinL a b := by rw [givR, hB]; rfl
      rw [hq] at sx1 sy1
      simp only [Bool.and_eq_true] at hB
      obtain ⟨hB1, hB2⟩ := hB
      obtain ⟨hga, hgb⟩ := joinB_facts hB1
      have hBc : joinB b a = true := by rw [joinB, hgb, hga]; rfl
      have hcm := join_comm hB1
      obtain ⟨w1, w2, w3, w4, w5⟩ := join_inside hB1 hB2
      have sx1' := sx1.keep k3
      have sy1' := sy1.keep k3
      have sx' := sx.keep k23
      have sy' := sy.keep k23
      have sz' := sz.keep k23
      have sw' := sw.keep k23
      obtain ⟨_, h4, e4, hR4, k4, l4⟩ := JoinTwo_ok sz' sw' sx' sy'
      obtain ⟨x3, y3, G5, G6, rfl, sx3, sy3, c3⟩ := hR4.good hBc (by rw [hcm]; exact hB2)
      rw [hcm] at sx3 sy3
      have e5 := SameTuples_eq (sx1'.keep k4) (sy1'.keep k4) sx3 sy3
      have hst : sameTR (joinL a b) (joinL a b) = .tup [.bool true, .bool true] := by rw [sameTR, joinB, hB2, decide_eq_true rfl]; rfl
      rw [hst] at e5
      obtain ⟨_, h6, e6, hR6, k6, l6⟩ := Project_ok (sx1'.keep k4) (sy1'.keep k4) (sx'.keep k4).sl
      obtain ⟨x4, y4, G7, G8, rfl, sx4, sy4, c4⟩ := hR6.good w1 w2
      have k46 := k4.trans k6
      obtain ⟨_, h7, e7, hR7, k7, l7⟩ := WithoutOf_ok sx4 sy4 (sx'.keep k46) (sy'.keep k46)
      obtain ⟨x5, y5, G9, G10, rfl, sx5, sy5, c5⟩ := hR7.good w3 w4
      have y5l := sy5.len
      rw [w5] at y5l
      have k47 := k46.trans k7
      obtain ⟨_, h8, e8, hR8, k8, l8⟩ := JoinTwo_ok (sx'.keep k47) (sy'.keep k47) (sx'.keep k47) (sy'.keep k47)
      have hself := join_self hga
      obtain ⟨x6, y6, G11, G12, rfl, sx6, sy6, c6⟩ := hR8.good (by rw [joinB, hga]; rfl) (by rw [hself]; exact hga)
      rw [hself] at sx6 sy6
      have k48 := k47.trans k8
      have q2 := alike sx6 sy6 (sx'.keep k48) (sy'.keep k48)
      have sx8 := sx'.keep k48
      have y5k : lenV y5 = some 0 := y5l
      have xl := sx8.len
      by_cases h0 : a.c.length = 0
      · obtain ⟨t1, t2, t3, t4, te, tg, i1, u1, d1, d2, u2, u3⟩ := joined_tail (hb.keeps ((k1.trans k23).trans k48))
        rw [h0] at xl
        cases te <;> cases tg <;> (
          simp [g734, ha.len, hb.len, hbig, upd, fillL, e1, cxy, czw, e2, c1, e3, c2, q1, e4, c3, e5, e6, c4, e7, c5, y5k, e8, c6, q2, xl, u1, d1, d2, u2, u3]
          exact hR _ _ rfl)
      · have hpos : 0 < a.c.length := by omega
        obtain ⟨num, hnum, e9⟩ := numberOf_eq (hb.keeps ((k1.trans k23).trans k48))
        have ix : idxV 1 x (.int .i64 0) = some (.ptr (bOf x) (oOf x)) := sx.idx 1 .i64 0 hpos
        have ld : rdH h8 (bOf x) (oOf x) 1 = some [vi a.c[0]] := sx8.sl.loadI 0 hpos
        obtain ⟨m, hm⟩ : ∃ m : Int, m = (num : Int).tmod 3 := ⟨_, rfl⟩
        have hm3 : 0 ≤ m ∧ m < 3 := by rw [hm, Int.tmod_eq_emod_of_nonneg (by omega)]; omega
        have hcB : chooseB a a.c[0] 0 m = true := by
          rw [chooseB, hga, decide_eq_true (List.getElem_mem hpos), smallQ, decide_eq_true (show (0 : Int) ≤ 0 ∧ (0 : Int) ≤ 2 by omega), decide_eq_true (show -1000 ≤ m ∧ m ≤ 1000 by omega)]; rfl
        obtain ⟨v1, v2, v3, v4⟩ := join_choose hB1 hB2 hcB
        obtain ⟨_, h10, e10, hR10, k10, l10⟩ := Choose_ok sx8 (sy'.keep k48) a.c[0] 0 m
        obtain ⟨x7, y7, G13, G14, rfl, sx7, sy7, c7⟩ := hR10.good hcB (choose_good hcB).2
        have k410 := k48.trans k10
        obtain ⟨_, h11, e11, hR11, k11, l11⟩ := JoinTwo_ok sx7 sy7 (sz'.keep k410) (sw'.keep k410)
        obtain ⟨x8, y8, G15, G16, rfl, sx9, sy9, c8⟩ := hR11.good v1 v2
        rw [v4] at sx9 sy9
        have k411 := k410.trans k11
        have ld2 : rdH h11 (bOf x) (oOf x) 1 = some [vi a.c[0]] := (sx'.keep k411).sl.loadI 0 hpos
        obtain ⟨_, h12, e12, hR12, k12, l12⟩ := Choose_ok (sx1'.keep k411) (sy1'.keep k411) a.c[0] 0 m
        obtain ⟨x9, y9, G17, G18, rfl, sx10, sy10, c9⟩ := hR12.good v3 (choose_good v3).2
        have q3 := alike (sx9.keep k12) (sy9.keep k12) sx10 sy10
        obtain ⟨t1, t2, t3, t4, te, tg, i1, u1, d1, d2, u2, u3⟩ := joined_tail (hb.keeps ((k1.trans k23).trans (k411.trans k12)))
        generalize a.c[0] = nm at *
        have hm' := hm.symm
        cases te <;> cases tg <;> (
          simp [g734, ha.len, hb.len, hbig, upd, fillL, e1, cxy, czw, e2, c1, e3, c2, q1, e4, c3, e5, e6, c4, e7, c5, y5k, e8, c6, q2, xl, hpos, h0, e9, hm', ix, ld, e10, c7, e11, c8, ld2, e12, c9, q3, u1, d1, d2, u2, u3]
          exact hR _ _ rfl)
end GL

