import Derived.ChangeArms
import Derived.IntWalk
import Derived.WideShapes
import Derived.Test.YtpplaefnjbhhfaaGuFnSerialA
/- What the functions of the law do, on the machine. -/
set_option linter.unusedSimpArgs false
set_option linter.unusedVariables false
set_option linter.unnecessarySimpa false
namespace GL
open Go

theorem lastW_lt (l : List Ac) (x : Int) : lastW l x < l.length ∧ -1 ≤ lastW l x := by
  rcases lastW_cases l x with ⟨h, _⟩ | ⟨k, hk, h, _⟩ <;> omega
def isRd (a : Ac) (who : Int) : Bool := decide (a.who = who) && !a.wr
/-- what one's reads read, in order -/
def orgsL (l : List Ac) (who : Int) (n : Nat) : List Og := ((List.range n).filter fun i => isRd (l.getD i zAc) who).map fun i => orgAt l (readAt l i)
theorem orgsL_succ (l : List Ac) (who : Int) (n : Nat) : orgsL l who (n + 1) = orgsL l who n ++ (if isRd (l.getD n zAc) who = true then [orgAt l (readAt l n)] else []) := by
  rw [orgsL, List.range_succ, List.filter_append, List.map_append, orgsL]
  congr 1
  cases h : isRd (l.getD n zAc) who
  · simp only [List.filter_cons, h, Bool.false_eq_true, if_false, List.filter_nil, List.map_nil]
  · simp only [List.filter_cons, h, if_true, List.filter_nil, List.map_cons, List.map_nil]
theorem orgsL_len (l : List Ac) (who : Int) (n : Nat) : (orgsL l who n).length ≤ n := by
  rw [orgsL, List.length_map]
  exact Nat.le_trans (List.length_filter_le ..) (by simp)
theorem origins_ok {h : Heap} {v : V} {xs : List Ac} {F : List Nat} (hs : SdF h v xs F) (hl : xs.length ≤ 2 ^ 20) (who : Int) : ∃ r h', call p 349 [v, vi who] h = some (r, h') ∧ Out h.length h' r (orgsL xs who xs.length) ∧ Keeps h h' ∧ h.length ≤ h'.length := by
  refine go (fn := g349) rfl rfl fun R hR => ?_
  simp [g349, hs.len]
  refine Wc_upM (M := [5, 6, 7, 11, 12, 13, 14, 15, 16, 17, 18, 19, 20, 21, 22, 23, 24, 25, 26, 27, 28, 29, 30, 31, 32, 33, 34, 35, 36]) rfl xs.length (fun i s => i ≤ xs.length ∧ s.σ 11 = .v (vi i) ∧ ∃ v5, s.σ 5 = .v v5 ∧ Out h.length s.h v5 (orgsL xs who i) ∧ Keeps h s.h ∧ h.length ≤ s.h.length) 0
    ⟨by omega, by simp, .slice h.length 0 0 (.k 0), by simp, by simpa [orgsL] using Out.empty (Nat.le_refl _) (by simp), Keeps.append _ _, by simp⟩ fun i s ⟨gi, g11, v5, g5, ho, hk, hl0⟩ hM J hJ => ?_
  by_cases hi : i < xs.length
  · have hss := hs.keep hk
    have ix := hss.idx 3 .i64 i hi
    have ld := hss.sl.loadC i hi
    have st := hss.step hi
    have hS := orgsL_succ xs who i
    rw [getD_in hi] at hS
    have hsk : isRd xs[i] who = false → ∀ J', (J' = J) → Out h.length s.h v5 (orgsL xs who (i + 1)) := fun hq _ _ => by rw [hS, hq]; simpa using ho
    by_cases hw : xs[i].who = who
    · cases hwr : xs[i].wr with
      | true =>
        have o' := hsk (by rw [isRd, hwr]; simp) J rfl
        rw [hw, hwr] at ld
        simp [g349_0, hM, g11, g5, hi, ix, ld, upd, st]
        exact hJ _ hi ⟨hi, by simp, v5, by simp [g5], o', hk, hl0⟩
      | false =>
        have hq : isRd xs[i] who = true := by rw [isRd, hwr, decide_eq_true hw]; rfl
        rw [if_pos hq] at hS
        obtain ⟨u, G, eu, su, _, _⟩ := hss.sub (lo := none) (hi := some i) (i := 0) (j := i) rfl rfl (by omega) (by omega) (k := 3) rfl
        rw [List.drop_zero] at su
        have e1 := lastWrite_eq su.sl (by rw [List.length_take]; omega) xs[i].item
        have hr : readAt xs i = lastW (xs.take i) xs[i].item := by rw [readAt, getD_in hi, hwr]; rfl
        rw [← hr] at e1
        have hlt : readAt xs i < xs.length := by
          rw [hr]; have := (lastW_lt (xs.take i) xs[i].item).1; rw [List.length_take] at this; omega
        have e2 := originOf_eq hss hl (readAt xs i) hlt
        have hol := orgsL_len xs who i
        obtain ⟨v', h2, e3, o2, k2, l2, _⟩ := outOne ho (orgAt xs (readAt xs i)) (by omega) (k := 2) (bytes := 16) (cs := [vi (orgAt xs (readAt xs i)).who, vi (orgAt xs (readAt xs i)).n]) rfl (by decide) rfl
        have kk := ho.far hk k2 (Nat.le_refl _)
        rw [hw, hwr] at ld
        generalize orgAt xs (readAt xs i) = og at *
        generalize readAt xs i = rd at *
        simp [g349_0, hM, g11, g5, hi, ix, ld, upd, bounds, takeB, eu, e1, e2, fillL, rdS_last, e3, st]
        exact hJ _ hi ⟨hi, by simp, v', by simp, by rw [hS]; exact o2, kk, by show h.length ≤ h2.length; omega⟩
    · have o' := hsk (by rw [isRd, decide_eq_false hw]; rfl) J rfl
      simp [g349_0, hM, g11, g5, hi, ix, ld, upd, hw, st]
      exact hJ _ hi ⟨hi, by simp, v5, by simp [g5], o', hk, hl0⟩
  · have : i = xs.length := by omega
    subst this
    simp [g349_0, hM, g11, g5]
    exact hR _ _ ⟨ho, hk, hl0⟩

end GL

namespace GL
open Go

def sameW (a b : List Ac) (w : Nat) : Bool := decide (ofWho a w = ofWho b w) && decide (orgsL a w a.length = orgsL b w b.length)
def sameK (a b : List Ac) (k : Nat) : Bool := decide (orgAt a (lastW a k) = orgAt b (lastW b k))
def sameEff (a b : List Ac) : Bool := (List.range 4).all (sameW a b) && (List.range 4).all (sameK a b)
def effR (a b : List Ac) : V := if (goodPl a && goodPl b) = true then .tup [.bool (sameEff a b), .bool true] else .tup [.bool false, .bool false]
theorem range_all_succ (n : Nat) (q : Nat → Bool) : (List.range (n + 1)).all q = ((List.range n).all q && q n) := by simp [List.range_succ]
theorem range_all_no {n i : Nat} (hi : i < n) {q : Nat → Bool} (h : q i = false) : (List.range n).all q = false := by
  rw [List.all_eq_false]; exact ⟨i, List.mem_range.2 hi, by simp [h]⟩

theorem SameEffect_ok {h : Heap} {v w : V} {a b : List Ac} {Fa Fb : List Nat} (ha : SdF h v a Fa) (hb : SdF h w b Fb) : ∃ r h', call p 253 [v, w] h = some (r, h') ∧ r = effR a b ∧ Keeps h h' ∧ h.length ≤ h'.length := by
  have e1 := GoodPlay_eq ha.sl
  have e2 := GoodPlay_eq hb.sl
  refine go (fn := g253) rfl rfl fun R hR => ?_
  cases hga : goodPl a with
  | false =>
    rw [hga] at e1
    rw [effR, hga] at hR
    simp [g253, ha.cells, ha.cell, e1]
    exact hR _ _ ⟨rfl, Keeps.refl _, Nat.le_refl _⟩
  | true =>
    rw [hga] at e1
    cases hgb : goodPl b with
    | false =>
      rw [hgb] at e2
      rw [effR, hgb, Bool.and_false] at hR
      simp [g253, ha.cells, ha.cell, hb.cells, hb.cell, e1, e2]
      exact hR _ _ ⟨rfl, Keeps.refl _, Nat.le_refl _⟩
    | true =>
      rw [hgb] at e2
      rw [effR, hga, hgb, Bool.and_self, if_pos rfl] at hR
      have la := goodPl_len hga
      have lb := goodPl_len hgb
      simp [g253, ha.cells, ha.cell, hb.cells, hb.cell, e1, e2]
      refine Wc_upM (M := [4, 5, 6, 16, 17, 18, 19, 20, 21, 22, 23, 24, 25, 26, 27, 28, 29, 30, 31, 32, 33, 34, 35, 36, 37]) rfl 4 (fun i s => i ≤ 4 ∧ s.σ 16 = .v (vi i) ∧ Keeps h s.h ∧ h.length ≤ s.h.length ∧ (List.range i).all (sameW a b) = true) 0 ⟨by omega, by simp, Keeps.refl _, Nat.le_refl _, rfl⟩ fun i s ⟨gi, g16, hk, hl0, hall⟩ hM J hJ => ?_
      by_cases hi : i < 4
      · have hi' : (i : Int) < 4 := by omega
        have st : IntKind.i64.wrap ((i : Int) + 1) = (i + 1 : Nat) := by rw [IntWalk.i64_in] <;> omega
        have ha0 := ha.keep hk
        have hb0 := hb.keep hk
        obtain ⟨r1, h1, q1, G1, s1, k1, l1⟩ := actsOf_ok ha0.sl (by omega) (i : Int)
        obtain ⟨r2, h2, q2, G2, s2, k2, l2⟩ := actsOf_ok (hb0.keep k1).sl (by omega) (i : Int)
        have q3 := EqualA_eq (s1.keep k2).sl s2.sl
        have k12 := k1.trans k2
        have bad : sameW a b i = false → ∀ H, Keeps h H → h.length ≤ H.length → R (.tup [.bool false, .bool true]) H := fun hq H hk hl => by
          rw [sameEff, range_all_no hi hq, Bool.false_and] at hR
          exact hR _ _ ⟨rfl, hk, hl⟩
        by_cases c1 : ofWho a i = ofWho b i
        · rw [decide_eq_true c1] at q3
          obtain ⟨r3, h3, q4, o3, k3, l3⟩ := origins_ok (ha0.keep k12) (by omega) (i : Int)
          obtain ⟨r4, h4, q5, o4, k4, l4⟩ := origins_ok ((hb0.keep k12).keep k3) (by omega) (i : Int)
          have q6 := EqualO_eq (o3.sl.keeps k4) o4.sl
          have k14 := (k12.trans k3).trans k4
          by_cases c2 : orgsL a i a.length = orgsL b i b.length
          · rw [decide_eq_true c2] at q6
            simp [g253_0, hM, g16, hi, hi', q1, q2, q3, q4, q5, q6, st, -Int.natCast_add]
            exact hJ _ hi ⟨hi, by simp, hk.trans k14, by show h.length ≤ h4.length; omega, by rw [range_all_succ, hall, sameW, decide_eq_true c1, decide_eq_true c2]; rfl⟩
          · rw [decide_eq_false c2] at q6
            simp [g253_0, hM, g16, hi, hi', q1, q2, q3, q4, q5, q6]
            exact bad (by rw [sameW, decide_eq_false c2, Bool.and_false]) _ (hk.trans k14) (by omega)
        · rw [decide_eq_false c1] at q3
          simp [g253_0, hM, g16, hi, hi', q1, q2, q3]
          exact bad (by rw [sameW, decide_eq_false c1, Bool.false_and]) _ (hk.trans k12) (by omega)
      · have hi4 : i = 4 := by omega
        subst hi4
        have ha0 := ha.keep hk
        have hb0 := hb.keep hk
        simp [g253_0, hM, g16]
        refine Wc_upM (M := [4, 5, 7, 38, 39, 40, 41, 42, 43, 44, 45, 46, 47, 48, 49, 50, 51, 52]) rfl 4 (fun i t => i ≤ 4 ∧ t.σ 38 = .v (vi i) ∧ t.h = s.h ∧ (List.range i).all (sameK a b) = true) 0 ⟨by omega, by simp, rfl, rfl⟩ fun i t ⟨gi', g38, gh, hall2⟩ hM' J' hJ' => ?_
        by_cases hi : i < 4
        · have hi' : (i : Int) < 4 := by omega
          have st : IntKind.i64.wrap ((i : Int) + 1) = (i + 1 : Nat) := by rw [IntWalk.i64_in] <;> omega
          have q1 := lastWrite_eq ha0.sl (by omega) (i : Int)
          have q2 := originOf_eq ha0 (by omega) (lastW a i) (lastW_lt a i).1
          have q3 := lastWrite_eq hb0.sl (by omega) (i : Int)
          have q4 := originOf_eq hb0 (by omega) (lastW b i) (lastW_lt b i).1
          have q5 := ogv_eq (orgAt a (lastW a i)) (orgAt b (lastW b i))
          by_cases c : orgAt a (lastW a i) = orgAt b (lastW b i)
          · rw [decide_eq_true c] at q5
            simp [g253_1, hM', hM, g38, gh, hi, hi', q1, q2, q3, q4, q5, st, -Int.natCast_add]
            exact hJ' _ hi ⟨hi, by simp, by simp, by rw [range_all_succ, hall2, sameK, decide_eq_true c]; rfl⟩
          · rw [decide_eq_false c] at q5
            simp [g253_1, hM', hM, g38, gh, hi, hi', q1, q2, q3, q4, q5]
            rw [sameEff, range_all_no hi (q := sameK a b) (by rw [sameK, decide_eq_false c]), Bool.and_false] at hR
            exact hR _ _ ⟨rfl, hk, hl0⟩
        · have hi5 : i = 4 := by omega
          subst hi5
          simp [g253_1, hM', g38, gh]
          rw [sameEff, hall, hall2] at hR
          exact hR _ _ ⟨rfl, hk, hl0⟩
end GL

namespace GL
open Go

end GL

namespace GL
open Go

end GL

namespace GL
open Go

theorem DC.play {h0 h : Heap} {N : Nat} (d : DC h0 h N) (hN : N < 2 ^ 55) : ∃ v h', call p 342 [.ptr h0.length 0] h = some (v, h') ∧ ∃ (xs : List Ac), Out h.length h' v xs ∧ xs.length ≤ 18 ∧ DC h0 h' (N + 1000) ∧ KeepsBut h0.length h h' ∧ h.length ≤ h'.length := by
  have hlt := d.lt
  refine go (fn := g342) rfl rfl fun R hR => ?_
  obtain ⟨a, h1, e1, ha, d1, k1, l1⟩ := d.pick (by omega) 10 (by decide)
  obtain ⟨one, h2, e2, d2, k2, l2⟩ := d1.one (by omega) 20 (by decide)
  have loop : ∀ (k : Nat) (s0 : S) (K : Ex → S → Prop), k ≤ 18 → s0.σ 0 = .v (.ptr h0.length 0) → s0.σ 3 = .v .nils → s0.σ 4 = .v (vi k) → DC h0 s0.h (N + 6) → KeepsBut h0.length h s0.h → h.length ≤ s0.h.length →
      (∀ s v (xs : List Ac), s.σ 0 = .v (.ptr h0.length 0) → s.σ 3 = .v v → Out h.length s.h v xs → xs.length ≤ 18 → DC h0 s.h (N + 500) → KeepsBut h0.length h s.h → h.length ≤ s.h.length → K (.exit 0) s) → Wc p (.loop g342_0) s0 K := by
    intro k s0 K hk g0 g3 g4 dc kb hl hK
    refine Wc_dnM (M := [3, 4, 12, 13, 14, 15, 16, 17, 18, 19, 20, 21, 22, 23, 24, 25]) rfl (fun k s => k ≤ 18 ∧ s.σ 4 = .v (vi k) ∧ ∃ (xs : List Ac) (v : V), xs.length + k ≤ 18 ∧ s.σ 3 = .v v ∧ Out h.length s.h v xs ∧ DC h0 s.h (N + 6 + 6 * xs.length) ∧ KeepsBut h0.length h s.h ∧ h.length ≤ s.h.length) k
      ⟨hk, g4, [], .nils, by simpa using hk, g3, Out.nil hl, by simpa using dc, kb, hl⟩ fun k s ⟨hk, g4, xs, v, hx, g3, ho, dc, kb, hl⟩ hM J hJ => ?_
    by_cases hk0 : 0 < k
    · have hk0' : (0 : Int) < k := by omega
      have w2 : IntKind.i64.wrap ((k : Int) - 1) = (k - 1 : Nat) := by rw [IntWalk.i64_in] <;> omega
      obtain ⟨b1, h3, e3, _, d3, k3, l3⟩ := dc.pick (by omega) 4 (by decide)
      obtain ⟨b2, h4, e4, _, d4, k4, l4⟩ := d3.pick (by omega) 3 (by decide)
      obtain ⟨b3, h5, e5, d5, k5, l5⟩ := d4.one (by omega) 2 (by decide)
      have k35 := (k3.trans k4).trans k5
      have o5 : Out h.length h5 v xs := ho.keeps k35.P (fun i hi => by have := (ho.ge hi).1; omega) (by omega)
      obtain ⟨v', h6, e6, o6, d6, k6, l6⟩ := Out.draw d5 (kb.trans k35) (ho := o5) (by omega) (by omega) (⟨b1, b2, b3⟩ : Ac) (by omega) (k := 3) (bytes := 24) (cs := [vi b1, vi b2, .bool b3]) rfl (by decide) rfl
      simp [g342_0, hM, g0, g4, g3, hk0, hk0', e3, e4, e5, fillL, rdS_last, e6, w2, -Int.natCast_add]
      exact hJ (k - 1) _ (by omega) ⟨by omega, by simp, xs ++ [⟨b1, b2, b3⟩], v', by simp; omega, by simp, o6, d6.mono (by simp; omega), k6, by show h.length ≤ h6.length; omega⟩
    · have : k = 0 := by omega
      subst this
      simp [g342_0, hM, g4]
      exact hK _ v xs (by simp [hM, g0]) (by simp [g3]) ho (by omega) (dc.mono (by omega)) kb hl
  have tail : ∀ (H : Heap) (xs : List Ac) (v : V), Out h.length H v xs → xs.length ≤ 18 → DC h0 H (N + 500) → KeepsBut h0.length h H → h.length ≤ H.length →
      (xs.length = 0 → R v H) ∧ (0 < xs.length → ∃ (q : Bool) (H2 : Heap), call p 92 [.ptr h0.length 0, vi 30] H = some (.bool q, H2) ∧ (q = false → R v H2) ∧ (q = true → ∃ (c1 c2 : Nat) (H3 H4 H5 : Heap), call p 91 [.ptr h0.length 0, vi 6] H2 = some (vi c1, H3) ∧ call p 91 [.ptr h0.length 0, vi 6] H3 = some (vi c2, H4) ∧ IntKind.i64.wrap ((c1 : Int) - 1) = c1 - 1 ∧ IntKind.i64.wrap ((c2 : Int) - 1) = c2 - 1 ∧ idxV 3 v (.int .i64 0) = some (.ptr (bOf v) (oOf v)) ∧ wrH H4 (bOf v) (oOf v) [vi ((c1 : Int) - 1), vi ((c2 : Int) - 1), .bool false] = some H5 ∧ R v H5)) := by
    intro H xs v ho hx dc kb hl
    refine ⟨fun _ => hR _ _ ⟨xs, ho, hx, dc.mono (by omega), kb, hl⟩, fun hp => ?_⟩
    obtain ⟨q, H2, e3, d3, k3, l3⟩ := dc.one (by omega) 30 (by decide)
    have o3 : Out h.length H2 v xs := ho.keeps k3.P (fun i hi => by have := (ho.ge hi).1; omega) (by omega)
    refine ⟨q, H2, e3, fun _ => hR _ _ ⟨xs, o3, hx, d3.mono (by omega), kb.trans k3, by omega⟩, fun _ => ?_⟩
    obtain ⟨c1, H3, e4, hc1, d4, k4, l4⟩ := d3.pick (by omega) 6 (by decide)
    obtain ⟨c2, H4, e5, hc2, d5, k5, l5⟩ := d4.pick (by omega) 6 (by decide)
    have o5 : Out h.length H4 v xs := o3.keeps (k4.trans k5).P (fun i hi => by have := (o3.ge hi).1; omega) (by omega)
    obtain ⟨H5, e6, o6, k6, l6⟩ := o5.set (i := 0) hp (⟨(c1 : Int) - 1, (c2 : Int) - 1, false⟩ : Ac) (o := oOf v) (cs := [vi ((c1 : Int) - 1), vi ((c2 : Int) - 1), .bool false]) (by simp) rfl
    have ix := o5.sl.idx 3 .i64 0 hp
    simp at ix
    refine ⟨c1, c2, H3, H4, H5, e4, e5, by rw [IntWalk.i64_in]; omega, by rw [IntWalk.i64_in]; omega, ix, e6, hR _ _ ⟨_, o6, by simpa using hx, (d5.far k6 fun i hi hv => by have := (o5.ge hv).1; omega).mono (by omega), (((kb.trans k3).trans k4).trans k5).far k6 fun i hi _ hv => by have := (o5.ge hv).1; omega, by omega⟩⟩
  cases one with
  | false =>
    simp [g342, e1, e2]
    refine loop a _ _ (by omega) (by simp) (by simp) (by simp) (d2.mono (by omega)) (k1.trans k2) (by show h.length ≤ h2.length; omega) fun s v xs g0 g3 ho hx dd kk ll => ?_
    obtain ⟨t1, t2⟩ := tail s.h xs v ho hx dd kk ll
    by_cases hp : 0 < xs.length
    · obtain ⟨q, H2, q1, q2, q3⟩ := t2 hp
      cases q with
      | false =>
        simp [g0, g3, ho.sl.len, hp, q1]
        exact q2 rfl
      | true =>
        obtain ⟨c1, c2, H3, H4, H5, x1, x2, x3, x4, x5, x6, x7⟩ := q3 rfl
        simp [g0, g3, ho.sl.len, hp, q1, x1, x2, x3, x4, x5, x6, fillL]
        exact x7
    · simp [g0, g3, ho.sl.len, hp]
      exact t1 (by omega)
  | true =>
    obtain ⟨b, h3, e3, hb, d3, k3, l3⟩ := d2.pick (by omega) 2 (by decide)
    have w1 : IntKind.i64.wrap (16 + (b : Int)) = (16 + b : Nat) := by rw [IntWalk.i64_in] <;> omega
    simp [g342, e1, e2, e3, w1, -Int.natCast_add]
    refine loop (16 + b) _ _ (by omega) (by simp) (by simp) (by simp) (d3.mono (by omega)) ((k1.trans k2).trans k3) (by show h.length ≤ h3.length; omega) fun s v xs g0 g3 ho hx dd kk ll => ?_
    obtain ⟨t1, t2⟩ := tail s.h xs v ho hx dd kk ll
    by_cases hp : 0 < xs.length
    · obtain ⟨q, H2, q1, q2, q3⟩ := t2 hp
      cases q with
      | false =>
        simp [g0, g3, ho.sl.len, hp, q1]
        exact q2 rfl
      | true =>
        obtain ⟨c1, c2, H3, H4, H5, x1, x2, x3, x4, x5, x6, x7⟩ := q3 rfl
        simp [g0, g3, ho.sl.len, hp, q1, x1, x2, x3, x4, x5, x6, fillL]
        exact x7
    · simp [g0, g3, ho.sl.len, hp]
      exact t1 (by omega)
end GL

namespace GL
open Go

theorem drawPlay_ok {h : Heap} {v : V} {bs : List Byte} (hs : Sl h v bs) : ∃ r h', call p 357 [v] h = some (r, h') ∧ ∃ (xs : List Ac) (F : List Nat), SdF h' r xs F ∧ xs.length ≤ 18 ∧ Keeps h h' ∧ h.length ≤ h'.length := by
  have d0 := DC.start hs
  obtain ⟨o, h1, e1, xs, o1, hx, d1, k1, l1⟩ := d0.play (by decide)
  obtain ⟨F, s1, _⟩ := o1.fr
  simp at e1 l1
  refine go (fn := g357) rfl rfl fun R hR => ?_
  simp [g357, hs.cells, hs.cell, fillL, e1]
  exact hR _ _ ⟨xs, F, s1, hx, d1.keep, by omega⟩
end GL

namespace GL
open Go

def idxC (a b : Ac) : Nat := (4 * a.who + b.who).toNat
def bump (cs : List Int) (x : Nat) : List Int := cs.set x (cs.getD x 0 + 1)
def confIn (a : Ac) (ys : List Ac) (cs : List Int) : List Int := ys.foldl (fun cs b => if clashA a b = true then bump cs (idxC a b) else cs) cs
def confF : List Ac → List Int → List Int
  | [], cs => cs
  | a :: r, cs => confF r (confIn a r cs)
def confL (l : List Ac) : List Int := confF l (List.replicate 16 0)
theorem bump_le {cs : List Int} {x : Nat} {B : Int} (h : ∀ c ∈ cs, 0 ≤ c ∧ c ≤ B) (hB : 0 ≤ B) : ∀ c ∈ bump cs x, 0 ≤ c ∧ c ≤ B + 1 := fun c hc => by
  unfold bump at hc
  rcases List.mem_or_eq_of_mem_set hc with h1 | h1
  · have := h c h1; omega
  · by_cases hx : x < cs.length
    · rw [getD_in hx] at h1
      have := h _ (List.getElem_mem hx)
      omega
    · have : cs.getD x 0 = 0 := by simp [List.getElem?_eq_none (Nat.le_of_not_lt hx)]
      omega
theorem intsNew {h : Heap} : SdF (h ++ [⟨.own, List.replicate 16 (vi 0)⟩]) (.slice h.length 0 16 (.k 16)) (List.replicate 16 (0 : Int)) [h.length] := by
  have hr : Reps h (List.replicate 16 (0 : Int)) (List.replicate 16 (vi 0)) [] := Reps.flat.2 ⟨by rw [flats_rep0], rfl⟩
  exact SdF.lit hr 16 (by simp) (by simp)
theorem conflicts_ok {h : Heap} {v : V} {xs : List Ac} {F : List Nat} (hs : SdF h v xs F) (hg : goodPl xs = true) : ∃ r h', call p 353 [v] h = some (r, h') ∧ Sl h' r (confL xs) ∧ Keeps h h' ∧ h.length ≤ h'.length := by
  have hl := goodPl_len hg
  have hok : ∀ a ∈ xs, (0 ≤ a.who ∧ a.who ≤ 3) := fun a ha => by
    simp only [goodPl, Bool.and_eq_true, List.all_eq_true] at hg
    have := hg.2 a ha
    simp only [okAc, Bool.and_eq_true, decide_eq_true_eq] at this
    exact this.1
  have k0 : Keeps h (h ++ [⟨.own, List.replicate 16 (vi 0)⟩]) := Keeps.append _ _
  have s0 := intsNew (h := h)
  have ob : OwnB (h ++ [⟨.own, List.replicate 16 (vi 0)⟩]) h.length := ⟨_, get_last _ _⟩
  have hFlt : ∀ b ∈ F, b ≠ h.length := fun b hb => by have := hs.ltF hb; omega
  have rm : ((16 : Int) * 8 ≤ room) ∧ ((16 : Int) ≤ room) := by unfold room; omega
  refine go (fn := g353) rfl rfl fun R hR => ?_
  have hrep : (List.replicate 16 [vi 0]).flatten = List.replicate 16 (vi 0) := rfl
  obtain ⟨c0, hc0⟩ : ∃ c0, c0 = List.replicate 16 (vi 0) := ⟨_, rfl⟩
  rw [← hc0] at k0 s0 ob hrep
  simp only [g353]
  have key : ∀ (s0 : S), s0.h = h ++ [⟨.own, c0⟩] → s0.σ 3 = .v (.slice h.length 0 16 (.k 16)) → s0.σ 0 = .v v → s0.σ 9 = .v v → s0.σ 10 = .v (vi xs.length) → s0.σ 11 = .v (vi 0) → ∀ K : Ex → S → Prop, (∀ s, s.σ 3 = .v (.slice h.length 0 16 (.k 16)) → SdF s.h (.slice h.length 0 16 (.k 16)) (confL xs) [h.length] → KeepsP (fun b => b ≠ h.length) (h ++ [⟨.own, c0⟩]) s.h → s.h.length = h.length + 1 → K (.exit 0) s) → Wc p (.loop g353_1) s0 K := by
    intro s0' gh g3 g0 g9 g10 g11 K hK
    refine Wc_upM (M := [4, 5, 7, 11, 12, 13, 14, 15, 16, 17, 18, 19, 20, 21, 22, 23, 24, 25, 26, 27, 28, 29, 30, 31, 32, 33, 34, 35, 36, 37, 38, 39, 40]) rfl xs.length (fun i s => i ≤ xs.length ∧ s.σ 11 = .v (vi i) ∧ KeepsP (fun b => b ≠ h.length) (h ++ [⟨.own, c0⟩]) s.h ∧ s.h.length = h.length + 1 ∧ OwnB s.h h.length ∧ ∃ cs : List Int, cs.length = 16 ∧ (∀ c ∈ cs, 0 ≤ c ∧ c ≤ 16 * i) ∧ SdF s.h (.slice h.length 0 16 (.k 16)) cs [h.length] ∧ confF (xs.drop i) cs = confL xs) 0
      ⟨by omega, g11, by rw [gh]; exact KeepsP.refl _ _, by rw [gh]; simp, by rw [gh]; exact ob, List.replicate 16 0, by simp, by intro c hc; simp at hc; omega, by rw [gh]; exact s0, rfl⟩ fun i s ⟨gi, g11, hk, hlen, hob, cs, hcl, hcb, sc, hcf⟩ hM J hJ => ?_
    by_cases hi : i < xs.length
    · have hss : SdF s.h v xs F := (hs.keep k0).keeps (hk.mono hFlt)
      have ix := hss.idx 3 .i64 i hi
      have ld := hss.sl.loadC i hi
      have st : IntKind.i64.wrap ((i : Int) + 1) = (i + 1 : Nat) := by rw [IntWalk.i64_in] <;> omega
      obtain ⟨u, G, eu, su, hGF, _⟩ := hss.sub (lo := some (i + 1)) (hi := none) (i := i + 1) (j := xs.length) rfl rfl (by omega) (Nat.le_refl _) (k := 3) rfl
      rw [List.take_length] at su
      have sul := su.len
      rw [List.drop_eq_getElem_cons hi, confF] at hcf
      have hwi := hok _ (List.getElem_mem hi)
      generalize xs[i] = a at *
      have hyl : (xs.drop (i + 1)).length = xs.length - (i + 1) := by rw [List.length_drop]
      have hyok : ∀ b ∈ xs.drop (i + 1), 0 ≤ b.who ∧ b.who ≤ 3 := fun b hb => hok b (List.mem_of_mem_drop hb)
      generalize hys : xs.drop (i + 1) = ys at *
      simp [g353_1, hM, g11, g9, g10, g0, hi, ix, ld, upd, st, bounds, takeB, eu, sul, -Int.natCast_add]
      refine Wc_upM (M := [7, 21, 22, 23, 24, 25, 26, 27, 28, 29, 30, 31, 32, 33, 34, 35, 36, 37, 38, 39]) rfl ys.length (fun j t => j ≤ ys.length ∧ t.σ 21 = .v (vi j) ∧ KeepsP (fun b => b ≠ h.length) s.h t.h ∧ t.h.length = h.length + 1 ∧ OwnB t.h h.length ∧ t.L 5 = ((s.L 5).1 + 1, [vi a.who, vi a.item, .bool a.wr]) ∧ ∃ ds : List Int, ds.length = 16 ∧ (∀ c ∈ ds, 0 ≤ c ∧ c ≤ 16 * i + j) ∧ SdF t.h (.slice h.length 0 16 (.k 16)) ds [h.length] ∧ confIn a (ys.drop j) ds = confIn a ys cs) 0
        ⟨by omega, by simp, KeepsP.refl _ _, hlen, hob, by simp [upd], cs, hcl, fun c hc => by have := hcb c hc; omega, sc, rfl⟩ fun j t ⟨gj, g21, hk2, hlen2, hob2, tL, ds, hdl, hdb, sd, hdf⟩ hM1 J1 hJ1 => ?_
      by_cases hj : j < ys.length
      · have hst : SdF t.h u ys G := su.keeps (hk2.mono fun b hb => hFlt b (hGF b hb))
        have ix2 := hst.idx 3 .i64 j hj
        have ld2 := hst.sl.loadC j hj
        have stj := hst.step hj
        have hb := hyok _ (List.getElem_mem hj)
        rw [List.drop_eq_getElem_cons hj] at hdf
        generalize ys[j] = b at *
        have ec := clash_eq a b t.h
        have hdf2 : confIn a (ys.drop (j + 1)) (if clashA a b = true then bump ds (idxC a b) else ds) = confIn a ys cs := hdf
        cases hcl2 : clashA a b with
        | false =>
          rw [hcl2] at ec hdf2
          simp [g353_0, hM1, hM, g21, tL, hj, ix2, ld2, upd, ec, stj]
          exact hJ1 _ hj ⟨hj, by simp, hk2, hlen2, hob2, by simp [tL], ds, hdl, fun c hc => by have := hdb c hc; omega, sd, hdf2⟩
        | true =>
          rw [hcl2] at ec hdf2
          have hx : idxC a b < ds.length := by unfold idxC; omega
          have hxi : ((idxC a b : Nat) : Int) = 4 * a.who + b.who := by unfold idxC; omega
          have w1 : IntKind.i64.wrap (4 * a.who) = 4 * a.who := by rw [IntWalk.i64_in] <;> omega
          have w2 : IntKind.i64.wrap (4 * a.who + b.who) = (idxC a b : Nat) := by rw [IntWalk.i64_in] <;> omega
          have i3 : idxV 1 (.slice h.length 0 16 (.k 16)) (.int .i64 (idxC a b : Nat)) = some (.ptr h.length (idxC a b)) := by
            have := sd.idx 1 .i64 (idxC a b) hx; simpa [bOf, oOf] using this
          have l3 : rdH t.h h.length (idxC a b) 1 = some [vi ds[idxC a b]] := by
            have := sd.sl.loadI (idxC a b) hx; simpa [bOf, oOf] using this
          obtain ⟨h5, e5, s5, k5, l5, o5⟩ := sd.putI (fun c hc => by simp at hc; subst hc; exact hob2) hx (ds[idxC a b] + 1)
          have e5' : wrH t.h h.length (idxC a b) [vi (ds[idxC a b] + 1)] = some h5 := by simpa [bOf, oOf] using e5
          have hv := hdb _ (List.getElem_mem hx)
          have w3 : IntKind.i64.wrap (ds[idxC a b] + 1) = ds[idxC a b] + 1 := by rw [IntWalk.i64_in] <;> omega
          have hbm : bump ds (idxC a b) = ds.set (idxC a b) (ds[idxC a b] + 1) := by rw [bump, getD_in hx]
          have hbl := bump_le (x := idxC a b) hdb (by omega)
          rw [if_pos rfl, hbm] at hdf2
          rw [hbm] at hbl
          generalize ds[idxC a b] = q at *
          generalize idxC a b = x at *
          simp [g353_0, hM1, hM, g3, g21, tL, hj, ix2, ld2, upd, ec, w1, w2, i3, l3, w3, e5', stj]
          exact hJ1 _ hj ⟨hj, by simp, hk2.trans k5, by show h5.length = h.length + 1; omega, o5 _ hob2, by simp [tL], _, by simpa using hdl, fun c hc => by have := hbl c hc; omega, s5, hdf2⟩
      · have hjy : j = ys.length := by omega
        subst hjy
        rw [List.drop_length] at hdf
        have hdf' : ds = confIn a ys cs := hdf
        simp [g353_0, hM1, hM, g21, g11, st, -Int.natCast_add]
        exact hJ _ hi ⟨hi, by simp, by exact hk.trans hk2, by exact hlen2, by exact hob2, ds, hdl, fun c hc => by have := hdb c hc; omega, by exact sd, by rw [hdf']; exact hcf⟩
    · have : i = xs.length := by omega
      subst this
      rw [List.drop_length, confF] at hcf
      subst hcf
      simp [g353_1, hM, g11, g10]
      exact hK _ (by simp [hM, g3]) sc hk hlen
  simp [rm, hs.len, hrep, room]
  refine key _ (by rw [hc0]; rfl) (by simp) (by simp) (by simp) (by simp) (by simp) _ fun s g3 sF hk hlen => ?_
  simp [g3]
  refine hR _ _ ⟨sF.sl, fun b blk hb hst => ?_, by omega⟩
  have := get_lt hb
  exact hk b blk (by omega) (k0 _ _ hb hst) hst
end GL

namespace GL
open Go

theorem ConflictsOf_ok {h : Heap} {v : V} {xs : List Ac} {F : List Nat} (hs : SdF h v xs F) : ∃ r h', call p 254 [v] h = some (r, h') ∧ ∃ o, r = .tup [o, .bool (goodPl xs)] ∧ Sl h' o (if goodPl xs = true then confL xs else []) ∧ Keeps h h' ∧ h.length ≤ h'.length := by
  have e0 := GoodPlay_eq hs.sl
  refine go (fn := g254) rfl rfl fun R hR => ?_
  cases hg : goodPl xs with
  | false =>
    rw [hg] at e0 hR
    simp [g254, hs.cells, hs.cell, e0]
    exact hR _ _ ⟨.nils, rfl, .nil, Keeps.refl _, Nat.le_refl _⟩
  | true =>
    rw [hg] at e0 hR
    obtain ⟨r1, h1, e1, s1, k1, l1⟩ := conflicts_ok hs hg
    simp [g254, hs.cells, hs.cell, e0, e1]
    exact hR _ _ ⟨r1, rfl, s1, k1, l1⟩
end GL

namespace GL

/-! what a play does, act by act from the end -/
theorem orgAt_take {l : List Ac} {k : Int} {n : Nat} (h : k < n) : orgAt (l.take n) k = orgAt l k := by
  unfold orgAt
  split
  · rfl
  · have h1 : k.toNat < n := by omega
    have e1 : (l.take n).getD k.toNat zAc = l.getD k.toNat zAc := by
      simp only [List.getD_eq_getElem?_getD, List.getElem?_take, h1, if_true]
    have e2 : (l.take n).take k.toNat = l.take k.toNat := by rw [List.take_take, Nat.min_eq_left (by omega)]
    rw [e1, e2]
/-- from what an item was last written -/
def orgW (l : List Ac) (x : Int) : Og := orgAt l (lastW l x)
def cntA (l : List Ac) (a : Ac) : Nat := (l.filter fun b => decide (b = a)).length
theorem orgW_snoc (l : List Ac) (a : Ac) (x : Int) : orgW (l ++ [a]) x = if wrQ a x = true then ⟨a.who, cntA l a⟩ else orgW l x := by
  have e := lastW_take_succ (xs := l ++ [a]) (i := l.length) (by simp) x
  rw [List.take_of_length_le (by simp)] at e
  simp only [List.take_left', List.getElem_concat_length] at e
  rw [orgW, e]
  split
  · simp [orgAt, cntA]
  · have hl := (lastW_lt l x).1
    rw [orgW]
    conv => rhs; rw [show l = (l ++ [a]).take l.length by simp]
    rw [orgAt_take (by simpa using hl)]
    simp
theorem readAt_lt (l : List Ac) {i : Nat} (hi : i ≤ l.length) : readAt l i < (i : Nat) := by
  unfold readAt
  split
  · omega
  · have := (lastW_lt (l.take i) (l.getD i zAc).item).1
    rw [List.length_take, Nat.min_eq_left hi] at this
    exact this
theorem orgsL_pre (l : List Ac) (a : Ac) (w : Int) (n : Nat) (hn : n ≤ l.length) : orgsL (l ++ [a]) w n = orgsL l w n := by
  induction n with
  | zero => rfl
  | succ n ih =>
    have hn' : n < l.length := by omega
    have e1 : (l ++ [a]).getD n zAc = l.getD n zAc := by
      rw [getD_in (by simp; omega), getD_in hn', List.getElem_append_left hn']
    have e2 : readAt (l ++ [a]) n = readAt l n := by
      unfold readAt
      rw [e1, List.take_append_of_le_length (by omega)]
    have e3 : orgAt (l ++ [a]) (readAt l n) = orgAt l (readAt l n) := by
      have h := readAt_lt l (i := n) (by omega)
      conv => rhs; rw [show l = (l ++ [a]).take l.length by simp]
      rw [orgAt_take (by simp; omega)]
      simp
    rw [orgsL_succ, orgsL_succ, ih (by omega), e1, e2, e3]
theorem orgsL_snoc (l : List Ac) (a : Ac) (w : Int) : orgsL (l ++ [a]) w (l ++ [a]).length = orgsL l w l.length ++ (if isRd a w = true then [orgW l a.item] else []) := by
  rw [show (l ++ [a]).length = l.length + 1 by simp, orgsL_succ, orgsL_pre _ _ _ _ (Nat.le_refl _)]
  have e1 : (l ++ [a]).getD l.length zAc = a := by rw [getD_in (by simp)]; simp
  rw [e1]
  congr 1
  split
  · rename_i h
    have hr : a.wr = false := by simp [isRd] at h; exact h.2
    have e2 : readAt (l ++ [a]) l.length = lastW l a.item := by
      unfold readAt; rw [e1, hr]; simp
    have h := (lastW_lt l a.item).1
    rw [e2, orgW]
    congr 1
    conv => rhs; rw [show l = (l ++ [a]).take l.length by simp]
    rw [orgAt_take (by simpa using h)]
    simp
  · rfl
/-- plays that are as good as each other -/
structure Alike (a b : List Ac) : Prop where
  perm : a.Perm b
  of : ∀ w, ofWho a w = ofWho b w
  reads : ∀ w, orgsL a w a.length = orgsL b w b.length
  last : ∀ x, orgW a x = orgW b x
theorem Alike.refl (a : List Ac) : Alike a a := ⟨.refl _, fun _ => rfl, fun _ => rfl, fun _ => rfl⟩
theorem Alike.trans {a b c : List Ac} (h : Alike a b) (k : Alike b c) : Alike a c := ⟨h.perm.trans k.perm, fun w => (h.of w).trans (k.of w), fun w => (h.reads w).trans (k.reads w), fun x => (h.last x).trans (k.last x)⟩
theorem Alike.symm {a b : List Ac} (h : Alike a b) : Alike b a := ⟨h.perm.symm, fun w => (h.of w).symm, fun w => (h.reads w).symm, fun x => (h.last x).symm⟩
theorem cntA_perm {a b : List Ac} (h : a.Perm b) (x : Ac) : cntA a x = cntA b x := (h.filter _).length_eq
theorem Alike.snoc {a b : List Ac} (h : Alike a b) (x : Ac) : Alike (a ++ [x]) (b ++ [x]) :=
  ⟨h.perm.append_right _, fun w => by have e := h.of w; simp only [ofWho] at e ⊢; rw [List.filter_append, List.filter_append, e],
   fun w => by rw [orgsL_snoc, orgsL_snoc, h.reads, h.last], fun y => by rw [orgW_snoc, orgW_snoc, h.last, cntA_perm h.perm]⟩
theorem Alike.append {a b : List Ac} (h : Alike a b) (r : List Ac) : Alike (a ++ r) (b ++ r) := by
  induction r generalizing a b with
  | nil => simpa using h
  | cons x r ih => have := ih (h.snoc x); simpa using this
theorem cntA_snoc (l : List Ac) (a x : Ac) : cntA (l ++ [a]) x = cntA l x + if a = x then 1 else 0 := by
  simp only [cntA, List.filter_append, List.length_append, List.filter_cons, List.filter_nil]
  by_cases h : a = x <;> simp [h]
/-- two acts beside each other that do not clash -/
theorem Alike.swap (r : List Ac) {x y : Ac} (hw : x.who ≠ y.who) (hc : clashA x y = false) : Alike (r ++ [x, y]) (r ++ [y, x]) := by
  have e1 : r ++ [x, y] = (r ++ [x]) ++ [y] := by simp
  have e2 : r ++ [y, x] = (r ++ [y]) ++ [x] := by simp
  have hxy : x ≠ y := fun h => hw (by rw [h])
  have hc' : x.item = y.item → x.wr = false ∧ y.wr = false := fun h => by simpa [clashA, hw, h] using hc
  refine ⟨(List.Perm.swap y x []).append_left r, fun w => ?_, fun w => ?_, fun z => ?_⟩
  · simp only [ofWho, List.filter_append]
    congr 1
    by_cases h1 : x.who = w
    · have h2 : ¬ y.who = w := fun h => hw (h1.trans h.symm)
      simp [h1, h2]
    · by_cases h2 : y.who = w <;> simp [h1, h2]
  · rw [e1, e2, orgsL_snoc, orgsL_snoc, orgsL_snoc, orgsL_snoc, List.append_assoc, List.append_assoc]
    congr 1
    rw [orgW_snoc, orgW_snoc]
    cases h1 : isRd x w with
    | true =>
      have h1' : x.who = w ∧ x.wr = false := by simpa [isRd] using h1
      have h2 : isRd y w = false := by simp [isRd]; intro h; exact absurd (h1'.1.trans h.symm) hw
      have h3 : wrQ y x.item = false := by
        by_cases h : x.item = y.item
        · simp [wrQ, (hc' h).2]
        · simp [wrQ, show ¬ y.item = x.item from fun k => h k.symm]
      rw [h2, h3]; simp
    | false =>
      cases h2 : isRd y w with
      | false => simp
      | true =>
        have h3 : wrQ x y.item = false := by
          by_cases h : x.item = y.item
          · simp [wrQ, (hc' h).1]
          · simp [wrQ, h]
        rw [h3]; simp
  · rw [e1, e2, orgW_snoc, orgW_snoc, orgW_snoc, orgW_snoc, cntA_snoc, cntA_snoc, if_neg hxy, if_neg (Ne.symm hxy)]
    by_cases h1 : wrQ x z = true
    · have h1' : x.wr = true ∧ x.item = z := by simpa [wrQ] using h1
      have h2 : wrQ y z = false := by
        cases h : wrQ y z with
        | false => rfl
        | true =>
          have h' : y.wr = true ∧ y.item = z := by simpa [wrQ] using h
          have := hc' (h1'.2.trans h'.2.symm)
          rw [this.1] at h1'; exact absurd h1'.1 (by simp)
      simp [h1, h2]
    · simp [h1]
/-- an act that may go behind all of a list -/
theorem Alike.past (r : List Ac) (a : Ac) (q : List Ac) (h : ∀ b ∈ q, a.who ≠ b.who ∧ clashA a b = false) : Alike (r ++ a :: q) (r ++ q ++ [a]) := by
  induction q generalizing r with
  | nil => simpa using Alike.refl _
  | cons b q ih =>
    have h1 := (Alike.swap r (h b (by simp)).1 (h b (by simp)).2).append q
    have h2 := ih (r ++ [b]) fun c hc => h c (by simp [hc])
    simp only [List.append_assoc, List.cons_append, List.nil_append] at h1 h2 ⊢
    exact h1.trans h2
theorem Alike.eff {a b : List Ac} (h : Alike a b) : sameEff a b = true := by
  simp only [sameEff, Bool.and_eq_true, List.all_eq_true, sameW, sameK, decide_eq_true_eq]
  exact ⟨fun w _ => ⟨h.of _, h.reads _⟩, fun k _ => h.last k⟩
theorem clashA_comm (a b : Ac) : clashA a b = clashA b a := by
  simp only [clashA]
  rw [show decide (a.who ≠ b.who) = decide (b.who ≠ a.who) by rw [decide_eq_decide]; exact ne_comm, show decide (a.item = b.item) = decide (b.item = a.item) by rw [decide_eq_decide]; exact eq_comm, Bool.or_comm]

theorem goodPl_perm {a b : List Ac} (h : a.Perm b) : goodPl a = goodPl b := by
  simp only [goodPl, h.length_eq, h.all_eq]
end GL

namespace GL

end GL

namespace GL

/-! clashes, counted in any order -/
def pairsL : List Ac → List Nat
  | [] => []
  | a :: r => (r.filter (clashA a)).map (idxC a) ++ pairsL r
theorem confIn_pairs (a : Ac) (ys : List Ac) (cs : List Int) : confIn a ys cs = ((ys.filter (clashA a)).map (idxC a)).foldl bump cs := by
  induction ys generalizing cs with
  | nil => rfl
  | cons y ys ih =>
    have e : confIn a (y :: ys) cs = confIn a ys (if clashA a y = true then bump cs (idxC a y) else cs) := rfl
    rw [e, ih]
    cases h : clashA a y <;> simp [h]
theorem confF_pairs (l : List Ac) (cs : List Int) : confF l cs = (pairsL l).foldl bump cs := by
  induction l generalizing cs with
  | nil => rfl
  | cons a r ih => rw [confF, ih, confIn_pairs, pairsL, List.foldl_append]
end GL

namespace GL
open Go

theorem l7Conflicts_ok {h : Heap} {v : V} {xs : List Ac} {F : List Nat} (hs : SdF h v xs F) (hg : goodPl xs = true) : ∃ r h', call p 361 [v] h = some (r, h') ∧ Sl h' r (confL xs) ∧ Keeps h h' ∧ h.length ≤ h'.length := by
  have hl := goodPl_len hg
  have hok : ∀ a ∈ xs, (0 ≤ a.who ∧ a.who ≤ 3) := fun a ha => by
    simp only [goodPl, Bool.and_eq_true, List.all_eq_true] at hg
    have := hg.2 a ha
    simp only [okAc, Bool.and_eq_true, decide_eq_true_eq] at this
    exact this.1
  have k0 : Keeps h (h ++ [⟨.own, List.replicate 16 (vi 0)⟩]) := Keeps.append _ _
  have s0 := intsNew (h := h)
  have ob : OwnB (h ++ [⟨.own, List.replicate 16 (vi 0)⟩]) h.length := ⟨_, get_last _ _⟩
  have hFlt : ∀ b ∈ F, b ≠ h.length := fun b hb => by have := hs.ltF hb; omega
  have rm : ((16 : Int) * 8 ≤ room) ∧ ((16 : Int) ≤ room) := by unfold room; omega
  refine go (fn := g361) rfl rfl fun R hR => ?_
  have hrep : (List.replicate 16 [vi 0]).flatten = List.replicate 16 (vi 0) := rfl
  obtain ⟨c0, hc0⟩ : ∃ c0, c0 = List.replicate 16 (vi 0) := ⟨_, rfl⟩
  rw [← hc0] at k0 s0 ob hrep
  simp only [g361]
  have key : ∀ (s0 : S), s0.h = h ++ [⟨.own, c0⟩] → s0.σ 3 = .v (.slice h.length 0 16 (.k 16)) → s0.σ 0 = .v v → s0.σ 9 = .v v → s0.σ 10 = .v (vi xs.length) → s0.σ 11 = .v (vi 0) → ∀ K : Ex → S → Prop, (∀ s, s.σ 3 = .v (.slice h.length 0 16 (.k 16)) → SdF s.h (.slice h.length 0 16 (.k 16)) (confL xs) [h.length] → KeepsP (fun b => b ≠ h.length) (h ++ [⟨.own, c0⟩]) s.h → s.h.length = h.length + 1 → K (.exit 0) s) → Wc p (.loop g361_1) s0 K := by
    intro s0' gh g3 g0 g9 g10 g11 K hK
    refine Wc_upM (M := [4, 5, 7, 11, 12, 13, 14, 15, 16, 17, 18, 19, 20, 21, 22, 23, 24, 25, 26, 27, 28, 29, 30, 31, 32, 33, 34, 35, 36, 37, 38, 39, 40]) rfl xs.length (fun i s => i ≤ xs.length ∧ s.σ 11 = .v (vi i) ∧ KeepsP (fun b => b ≠ h.length) (h ++ [⟨.own, c0⟩]) s.h ∧ s.h.length = h.length + 1 ∧ OwnB s.h h.length ∧ ∃ cs : List Int, cs.length = 16 ∧ (∀ c ∈ cs, 0 ≤ c ∧ c ≤ 16 * i) ∧ SdF s.h (.slice h.length 0 16 (.k 16)) cs [h.length] ∧ confF (xs.drop i) cs = confL xs) 0
      ⟨by omega, g11, by rw [gh]; exact KeepsP.refl _ _, by rw [gh]; simp, by rw [gh]; exact ob, List.replicate 16 0, by simp, by intro c hc; simp at hc; omega, by rw [gh]; exact s0, rfl⟩ fun i s ⟨gi, g11, hk, hlen, hob, cs, hcl, hcb, sc, hcf⟩ hM J hJ => ?_
    by_cases hi : i < xs.length
    · have hss : SdF s.h v xs F := (hs.keep k0).keeps (hk.mono hFlt)
      have ix := hss.idx 3 .i64 i hi
      have ld := hss.sl.loadC i hi
      have st : IntKind.i64.wrap ((i : Int) + 1) = (i + 1 : Nat) := by rw [IntWalk.i64_in] <;> omega
      obtain ⟨u, G, eu, su, hGF, _⟩ := hss.sub (lo := some (i + 1)) (hi := none) (i := i + 1) (j := xs.length) rfl rfl (by omega) (Nat.le_refl _) (k := 3) rfl
      rw [List.take_length] at su
      have sul := su.len
      rw [List.drop_eq_getElem_cons hi, confF] at hcf
      have hwi := hok _ (List.getElem_mem hi)
      generalize xs[i] = a at *
      have hyl : (xs.drop (i + 1)).length = xs.length - (i + 1) := by rw [List.length_drop]
      have hyok : ∀ b ∈ xs.drop (i + 1), 0 ≤ b.who ∧ b.who ≤ 3 := fun b hb => hok b (List.mem_of_mem_drop hb)
      generalize hys : xs.drop (i + 1) = ys at *
      simp [g361_1, hM, g11, g9, g10, g0, hi, ix, ld, upd, st, bounds, takeB, eu, sul, -Int.natCast_add]
      refine Wc_upM (M := [7, 21, 22, 23, 24, 25, 26, 27, 28, 29, 30, 31, 32, 33, 34, 35, 36, 37, 38, 39]) rfl ys.length (fun j t => j ≤ ys.length ∧ t.σ 21 = .v (vi j) ∧ KeepsP (fun b => b ≠ h.length) s.h t.h ∧ t.h.length = h.length + 1 ∧ OwnB t.h h.length ∧ t.L 5 = ((s.L 5).1 + 1, [vi a.who, vi a.item, .bool a.wr]) ∧ ∃ ds : List Int, ds.length = 16 ∧ (∀ c ∈ ds, 0 ≤ c ∧ c ≤ 16 * i + j) ∧ SdF t.h (.slice h.length 0 16 (.k 16)) ds [h.length] ∧ confIn a (ys.drop j) ds = confIn a ys cs) 0
        ⟨by omega, by simp, KeepsP.refl _ _, hlen, hob, by simp [upd], cs, hcl, fun c hc => by have := hcb c hc; omega, sc, rfl⟩ fun j t ⟨gj, g21, hk2, hlen2, hob2, tL, ds, hdl, hdb, sd, hdf⟩ hM1 J1 hJ1 => ?_
      by_cases hj : j < ys.length
      · have hst : SdF t.h u ys G := su.keeps (hk2.mono fun b hb => hFlt b (hGF b hb))
        have ix2 := hst.idx 3 .i64 j hj
        have ld2 := hst.sl.loadC j hj
        have stj := hst.step hj
        have hb := hyok _ (List.getElem_mem hj)
        rw [List.drop_eq_getElem_cons hj] at hdf
        generalize ys[j] = b at *
        have ec := l7Clash_eq a b t.h
        have hdf2 : confIn a (ys.drop (j + 1)) (if clashA a b = true then bump ds (idxC a b) else ds) = confIn a ys cs := hdf
        cases hcl2 : clashA a b with
        | false =>
          rw [hcl2] at ec hdf2
          simp [g361_0, hM1, hM, g21, tL, hj, ix2, ld2, upd, ec, stj]
          exact hJ1 _ hj ⟨hj, by simp, hk2, hlen2, hob2, by simp [tL], ds, hdl, fun c hc => by have := hdb c hc; omega, sd, hdf2⟩
        | true =>
          rw [hcl2] at ec hdf2
          have hx : idxC a b < ds.length := by unfold idxC; omega
          have hxi : ((idxC a b : Nat) : Int) = 4 * a.who + b.who := by unfold idxC; omega
          have w1 : IntKind.i64.wrap (4 * a.who) = 4 * a.who := by rw [IntWalk.i64_in] <;> omega
          have w2 : IntKind.i64.wrap (4 * a.who + b.who) = (idxC a b : Nat) := by rw [IntWalk.i64_in] <;> omega
          have i3 : idxV 1 (.slice h.length 0 16 (.k 16)) (.int .i64 (idxC a b : Nat)) = some (.ptr h.length (idxC a b)) := by
            have := sd.idx 1 .i64 (idxC a b) hx; simpa [bOf, oOf] using this
          have l3 : rdH t.h h.length (idxC a b) 1 = some [vi ds[idxC a b]] := by
            have := sd.sl.loadI (idxC a b) hx; simpa [bOf, oOf] using this
          obtain ⟨h5, e5, s5, k5, l5, o5⟩ := sd.putI (fun c hc => by simp at hc; subst hc; exact hob2) hx (ds[idxC a b] + 1)
          have e5' : wrH t.h h.length (idxC a b) [vi (ds[idxC a b] + 1)] = some h5 := by simpa [bOf, oOf] using e5
          have hv := hdb _ (List.getElem_mem hx)
          have w3 : IntKind.i64.wrap (ds[idxC a b] + 1) = ds[idxC a b] + 1 := by rw [IntWalk.i64_in] <;> omega
          have hbm : bump ds (idxC a b) = ds.set (idxC a b) (ds[idxC a b] + 1) := by rw [bump, getD_in hx]
          have hbl := bump_le (x := idxC a b) hdb (by omega)
          rw [if_pos rfl, hbm] at hdf2
          rw [hbm] at hbl
          generalize ds[idxC a b] = q at *
          generalize idxC a b = x at *
          simp [g361_0, hM1, hM, g3, g21, tL, hj, ix2, ld2, upd, ec, w1, w2, i3, l3, w3, e5', stj]
          exact hJ1 _ hj ⟨hj, by simp, hk2.trans k5, by show h5.length = h.length + 1; omega, o5 _ hob2, by simp [tL], _, by simpa using hdl, fun c hc => by have := hbl c hc; omega, s5, hdf2⟩
      · have hjy : j = ys.length := by omega
        subst hjy
        rw [List.drop_length] at hdf
        have hdf' : ds = confIn a ys cs := hdf
        simp [g361_0, hM1, hM, g21, g11, st, -Int.natCast_add]
        exact hJ _ hi ⟨hi, by simp, by exact hk.trans hk2, by exact hlen2, by exact hob2, ds, hdl, fun c hc => by have := hdb c hc; omega, by exact sd, by rw [hdf']; exact hcf⟩
    · have : i = xs.length := by omega
      subst this
      rw [List.drop_length, confF] at hcf
      subst hcf
      simp [g361_1, hM, g11, g10]
      exact hK _ (by simp [hM, g3]) sc hk hlen
  simp [rm, hs.len, hrep, room]
  refine key _ (by rw [hc0]; rfl) (by simp) (by simp) (by simp) (by simp) (by simp) _ fun s g3 sF hk hlen => ?_
  simp [g3]
  refine hR _ _ ⟨sF.sl, fun b blk hb hst => ?_, by omega⟩
  have := get_lt hb
  exact hk b blk (by omega) (k0 _ _ hb hst) hst
end GL

namespace GL
open Go

/-! an order in which nobody stands ahead of whom it is behind -/
def colQ (cs out : List Int) (k x : Nat) : Bool := decide ((x : Int) ∈ out) || decide (cs.getD (4 * x + k) 0 = 0)
def freeQ (cs out : List Int) (k : Nat) : Bool := !decide ((k : Int) ∈ out) && (List.range 4).all (colQ cs out k)
def noV (o : Option Nat) : Int := match o with
  | some k => k
  | none => -1
def nextQ (cs out : List Int) : Option Nat := (List.range 4).find? (freeQ cs out)
def serG (cs : List Int) : Nat → List Int → Option (List Int)
  | 0, out => some out
  | m + 1, out => match nextQ cs out with
    | none => none
    | some k => serG cs m (out ++ [(k : Int)])
def serL (cs : List Int) : Option (List Int) := serG cs 4 []
theorem serI_in {s0 : S} {v4 v5 : V} {cs out : List Int} (s4 : Sl s0.h v4 cs) (hc : cs.length = 16) (s5 : Sl s0.h v5 out) (who : Nat) (hw : who < 4) (b0 : Bool) (g4 : s0.σ 4 = .v v4) (g5 : s0.σ 5 = .v v5) (g7 : s0.σ 7 = .v (vi who)) (g8 : s0.σ 8 = .v (.bool b0)) (g24 : s0.σ 24 = .v (vi 0)) {K : Ex → S → Prop}
    (hK : ∀ s, s.h = s0.h → (∀ k, k ∉ [8, 9, 24, 25, 26, 27, 28, 29, 30, 31, 32, 33, 34, 35, 36, 37, 38, 39, 40, 41, 42, 43] → s.σ k = s0.σ k) → s.σ 8 = .v (.bool (b0 && (List.range 4).all (colQ cs out who))) → K (.exit 4) s) : Wc p (.loop g360_0) s0 K := by
  refine Wc_upM (M := [8, 9, 24, 25, 26, 27, 28, 29, 30, 31, 32, 33, 34, 35, 36, 37, 38, 39, 40, 41, 42, 43]) rfl 4 (fun j s => j ≤ 4 ∧ s.σ 24 = .v (vi j) ∧ s.h = s0.h ∧ s.σ 8 = .v (.bool (b0 && (List.range j).all (colQ cs out who)))) 0 ⟨by omega, by simpa using g24, rfl, by simpa using g8⟩ fun j s ⟨gj, g24, gh, g8⟩ hM J hJ => ?_
  by_cases hj : j < 4
  · have hj' : (j : Int) < 4 := by omega
    have hx : 4 * j + who < cs.length := by omega
    have ec := containsI_eq s5 (j : Int)
    have ix := s4.idx 1 .i64 _ hx
    have ld := s4.loadI _ hx
    simp only [Nat.mul_one] at ix
    have w1 : IntKind.i64.wrap (4 * (j : Int)) = (4 * j : Nat) := by rw [IntWalk.i64_in] <;> omega
    have w2 : IntKind.i64.wrap (((4 * j : Nat) : Int) + who) = (4 * j + who : Nat) := by rw [IntWalk.i64_in] <;> omega
    have w3 : IntKind.i64.wrap ((j : Int) + 1) = (j + 1 : Nat) := by rw [IntWalk.i64_in] <;> omega
    have hS := range_all_succ j (colQ cs out who)
    have hq : colQ cs out who j = (decide ((j : Int) ∈ out) || decide (cs[4 * j + who] = 0)) := by rw [colQ, getD_in hx]
    generalize (List.range j).all (colQ cs out who) = b at *
    generalize colQ cs out who j = c at *
    generalize cs[4 * j + who] = z at *
    cases hb : (b0 && b) with
    | false =>
      rw [hb] at g8
      simp [g360_0, hM, g24, g8, hj, hj', w3, -Int.natCast_add]
      exact hJ _ hj ⟨hj, by simp, gh, by rw [hS, ← Bool.and_assoc, hb]; simp⟩
    | true =>
      rw [hb] at g8
      cases hm : decide ((j : Int) ∈ out) with
      | true =>
        rw [hm] at ec hq
        simp [g360_0, hM, g24, g8, g5, gh, ec, hj, hj', w3, -Int.natCast_add]
        exact hJ _ hj ⟨hj, by simp, rfl, by rw [hS, ← Bool.and_assoc, hb, hq]; simp⟩
      | false =>
        rw [hm] at ec hq
        by_cases hz : z = 0
        · simp [g360_0, hM, g24, g8, g5, g4, g7, gh, ec, hj, hj', w1, w2, w3, ix, ld, hz, -Int.natCast_add, -Int.natCast_mul]
          exact hJ _ hj ⟨hj, by simp, rfl, by rw [hS, ← Bool.and_assoc, hb, hq]; simp [hz]⟩
        · simp [g360_0, hM, g24, g8, g5, g4, g7, gh, ec, hj, hj', w1, w2, w3, ix, ld, hz, -Int.natCast_add, -Int.natCast_mul]
          exact hJ _ hj ⟨hj, by simp, rfl, by rw [hS, ← Bool.and_assoc, hb, hq]; simp [hz]⟩
  · have : j = 4 := by omega
    subst this
    simp [g360_0, hM, g24]
    exact hK _ (by simpa using gh) (fun k hk => by have hk' := hk; simp only [List.mem_cons, not_or] at hk'; simp [hk', hM k hk]) g8
theorem serI_mid {s0 : S} {v4 v5 : V} {cs out : List Int} (s4 : Sl s0.h v4 cs) (hc : cs.length = 16) (s5 : Sl s0.h v5 out) (g4 : s0.σ 4 = .v v4) (g5 : s0.σ 5 = .v v5) (g6 : s0.σ 6 = .v (vi (-1))) (g7 : s0.σ 7 = .v (vi 3)) {K : Ex → S → Prop}
    (hK : ∀ s, s.h = s0.h → (∀ k, k ∉ [6, 7, 8, 9, 16, 17, 18, 19, 20, 21, 22, 23, 24, 25, 26, 27, 28, 29, 30, 31, 32, 33, 34, 35, 36, 37, 38, 39, 40, 41, 42, 43, 44, 45] → s.σ k = s0.σ k) → s.σ 6 = .v (vi (noV (nextQ cs out))) → K (.exit 2) s) : Wc p (.loop g360_1) s0 K := by
  refine Wc_dnM (M := [6, 7, 8, 9, 16, 17, 18, 19, 20, 21, 22, 23, 24, 25, 26, 27, 28, 29, 30, 31, 32, 33, 34, 35, 36, 37, 38, 39, 40, 41, 42, 43, 44, 45]) rfl (fun k s => k ≤ 4 ∧ s.σ 7 = .v (vi ((k : Int) - 1)) ∧ s.h = s0.h ∧ s.σ 6 = .v (vi (noV (((List.range 4).drop k).find? (freeQ cs out))))) 4
    ⟨by omega, by simpa using g7, rfl, g6⟩ fun k s ⟨hk, g7, gh, g6⟩ hM J hJ => ?_
  by_cases hk0 : 0 < k
  · obtain ⟨m, rfl⟩ : ∃ m, k = m + 1 := ⟨k - 1, by omega⟩
    rw [show ((m + 1 : Nat) : Int) - 1 = m by omega] at g7
    have hm0 : (0 : Int) ≤ m := by omega
    have hm0' : ¬ (m : Int) < 0 := by omega
    have ec := containsI_eq s5 (m : Int)
    have w3 : IntKind.i64.wrap ((m : Int) - 1) = (m : Int) - 1 := by rw [IntWalk.i64_in] <;> omega
    have hd : (List.range 4).drop m = m :: (List.range 4).drop (m + 1) := by rw [List.drop_eq_getElem_cons (by simp; omega)]; simp
    have hf : (((List.range 4).drop m).find? (freeQ cs out)) = if freeQ cs out m = true then some m else ((List.range 4).drop (m + 1)).find? (freeQ cs out) := by
      rw [hd, List.find?_cons]; cases freeQ cs out m <;> rfl
    simp [g360_1, hM, g7, g5, gh, hm0, ec]
    refine serI_in (v4 := v4) (v5 := v5) (cs := cs) (out := out) (by simpa [gh] using s4) hc (by simpa [gh] using s5) m (by omega) (!decide ((m : Int) ∈ out)) (by simp [hM, g4]) (by simp [hM, g5]) (by simp [hM, g7]) (by simp) (by simp) fun t ht hMt t8 => ?_
    have t7 : t.σ 7 = .v (vi m) := by rw [hMt 7 (by decide)]; simp [g7]
    have t6 := hMt 6 (by decide)
    simp [g6] at t6
    have hfq : freeQ cs out m = (!decide ((m : Int) ∈ out) && (List.range 4).all (colQ cs out m)) := rfl
    rw [← hfq] at t8
    generalize freeQ cs out m = b at *
    cases b with
    | true =>
      simp [t8, t7, w3]
      exact hJ m _ (by omega) ⟨by omega, by simp, by simpa [gh] using ht, by rw [hf]; simp [noV]⟩
    | false =>
      simp [t8, t7, w3]
      exact hJ m _ (by omega) ⟨by omega, by simp, by simpa [gh] using ht, by rw [hf]; simpa using t6⟩
  · have : k = 0 := by omega
    subst this
    simp [g360_1, hM, g7]
    exact hK _ (by simpa using gh) (fun k hk => by have hk' := hk; simp only [List.mem_cons, not_or] at hk'; simp [hk', hM k hk]) (by simpa [nextQ] using g6)
theorem serial_ok {h : Heap} {v : V} {xs : List Ac} {F : List Nat} (hs : SdF h v xs F) (hg : goodPl xs = true) (hcl : (confL xs).length = 16) : ∃ r h', call p 360 [v] h = some (r, h') ∧ ∃ o, r = .tup [o, .bool (serL (confL xs)).isSome] ∧ Out h.length h' o ((serL (confL xs)).getD []) ∧ Keeps h h' ∧ h.length ≤ h'.length := by
  obtain ⟨v4, h1, e1, s1, k1, l1⟩ := conflicts_ok hs hg
  generalize confL xs = cs at *
  refine go (fn := g360) rfl rfl fun R hR => ?_
  simp [g360, e1]
  refine Wc_upM (M := [2, 3, 5, 6, 7, 8, 9, 13, 14, 15, 16, 17, 18, 19, 20, 21, 22, 23, 24, 25, 26, 27, 28, 29, 30, 31, 32, 33, 34, 35, 36, 37, 38, 39, 40, 41, 42, 43, 44, 45, 46, 47, 48, 49, 50, 51]) rfl 4 (fun i s => i ≤ 4 ∧ Keeps h1 s.h ∧ h1.length ≤ s.h.length ∧ ∃ v5 out, s.σ 5 = .v v5 ∧ Out h1.length s.h v5 out ∧ out.length = i ∧ serG cs (4 - i) out = serL cs) 0
    ⟨by omega, Keeps.append _ _, by simp, .slice h1.length 0 0 (.k 0), [], by simp, Out.empty (Nat.le_refl _) (by simp), rfl, rfl⟩ fun i s ⟨gi, hk, hl, v5, out, g5, ho, hol, hser⟩ hM J hJ => ?_
  by_cases hi : i < 4
  · have hi' : (i : Int) < 4 := by omega
    have hol' := ho.sl.len
    rw [hol] at hol'
    simp [g360_2, hM, g5, hol', hi, hi']
    refine serI_mid (v4 := v4) (v5 := v5) (cs := cs) (out := out) (by simpa using s1.keeps hk) hcl (by simpa using ho.sl) (by simp [hM]) (by simp [g5]) (by simp) (by simp) fun t ht hMt t6 => ?_
    have t5 : t.σ 5 = .v v5 := by rw [hMt 5 (by decide)]; simp [g5]
    simp only at ht
    have ho' : Out h1.length t.h v5 out := by rw [ht]; exact ho
    have hk' : Keeps h1 t.h := by rw [ht]; exact hk
    have hl' : h1.length ≤ t.h.length := by rw [ht]; exact hl
    obtain ⟨m, hm⟩ : ∃ m, 4 - i = m + 1 := ⟨3 - i, by omega⟩
    rw [hm, serG] at hser
    cases hn : nextQ cs out with
    | none =>
      rw [hn] at t6 hser
      have hser' : serL cs = none := hser.symm
      simp [t6, noV]
      refine hR _ _ ⟨.nils, by rw [hser']; rfl, by rw [hser']; exact Out.nil (by omega), k1.trans hk', by omega⟩
    | some q =>
      rw [hn] at t6 hser
      have t6' : t.σ 6 = .v (vi q) := t6
      have hq0 : ¬ (q : Int) < 0 := by omega
      obtain ⟨v6, h2, e2, o2, k2, l2⟩ := ho'.one (q : Int) (by omega)
      simp [t6', hq0, t5, rdS_last, e2]
      exact hJ _ hi ⟨hi, ho'.far hk' k2 (Nat.le_refl _), by show h1.length ≤ h2.length; omega, v6, _, by simp, o2, by simp [hol], by rw [show 4 - (i + 1) = m by omega]; exact hser⟩
  · have : i = 4 := by omega
    subst this
    have hser' : serL cs = some out := hser.symm
    have hol' := ho.sl.len
    rw [hol] at hol'
    simp [g360_2, hM, g5, hol']
    exact hR _ _ ⟨v5, by rw [hser']; rfl, by rw [hser']; exact ho.mono (by omega), k1.trans hk, by omega⟩
end GL

namespace GL
open Go

theorem serS_in {s0 : S} {v4 v5 : V} {cs out : List Int} (s4 : Sl s0.h v4 cs) (hc : cs.length = 16) (s5 : Sl s0.h v5 out) (who : Nat) (hw : who < 4) (b0 : Bool) (g0 : s0.σ 0 = .v v4) (g3 : s0.σ 3 = .v v5) (g5 : s0.σ 5 = .v (vi who)) (g6 : s0.σ 6 = .v (.bool b0)) (g7 : s0.σ 7 = .v (vi 0)) {K : Ex → S → Prop}
    (hK : ∀ s, s.h = s0.h → (∀ k, k ∉ [6, 7, 23, 24, 25, 26, 27, 28, 29, 30, 31, 32, 33, 34, 35, 36, 37, 38, 39, 40, 41, 42] → s.σ k = s0.σ k) → s.σ 6 = .v (.bool (b0 && (List.range 4).all (colQ cs out who))) → K (.exit 4) s) : Wc p (.loop g362_0) s0 K := by
  refine Wc_upM (M := [6, 7, 23, 24, 25, 26, 27, 28, 29, 30, 31, 32, 33, 34, 35, 36, 37, 38, 39, 40, 41, 42]) rfl 4 (fun j s => j ≤ 4 ∧ s.σ 7 = .v (vi j) ∧ s.h = s0.h ∧ s.σ 6 = .v (.bool (b0 && (List.range j).all (colQ cs out who)))) 0 ⟨by omega, by simpa using g7, rfl, by simpa using g6⟩ fun j s ⟨gj, g7, gh, g6⟩ hM J hJ => ?_
  by_cases hj : j < 4
  · have hj' : (j : Int) < 4 := by omega
    have hx : 4 * j + who < cs.length := by omega
    have ec := l1Has_eq s5 (j : Int)
    have ix := s4.idx 1 .i64 _ hx
    have ld := s4.loadI _ hx
    simp only [Nat.mul_one] at ix
    have w1 : IntKind.i64.wrap (4 * (j : Int)) = (4 * j : Nat) := by rw [IntWalk.i64_in] <;> omega
    have w2 : IntKind.i64.wrap (((4 * j : Nat) : Int) + who) = (4 * j + who : Nat) := by rw [IntWalk.i64_in] <;> omega
    have w3 : IntKind.i64.wrap ((j : Int) + 1) = (j + 1 : Nat) := by rw [IntWalk.i64_in] <;> omega
    have hS := range_all_succ j (colQ cs out who)
    have hq : colQ cs out who j = (decide ((j : Int) ∈ out) || decide (cs[4 * j + who] = 0)) := by rw [colQ, getD_in hx]
    generalize (List.range j).all (colQ cs out who) = b at *
    generalize colQ cs out who j = c at *
    generalize cs[4 * j + who] = z at *
    cases hb : (b0 && b) with
    | false =>
      rw [hb] at g6
      simp [g362_0, hM, g7, g6, hj, hj', w3, -Int.natCast_add]
      exact hJ _ hj ⟨hj, by simp, gh, by rw [hS, ← Bool.and_assoc, hb]; simp⟩
    | true =>
      rw [hb] at g6
      cases hm : decide ((j : Int) ∈ out) with
      | true =>
        rw [hm] at ec hq
        simp [g362_0, hM, g7, g6, g3, gh, ec, hj, hj', w3, -Int.natCast_add]
        exact hJ _ hj ⟨hj, by simp, rfl, by rw [hS, ← Bool.and_assoc, hb, hq]; simp⟩
      | false =>
        rw [hm] at ec hq
        by_cases hz : z = 0
        · simp [g362_0, hM, g7, g6, g5, g3, g0, gh, ec, hj, hj', w1, w2, w3, ix, ld, hz, -Int.natCast_add, -Int.natCast_mul]
          exact hJ _ hj ⟨hj, by simp, rfl, by rw [hS, ← Bool.and_assoc, hb, hq]; simp [hz]⟩
        · simp [g362_0, hM, g7, g6, g5, g3, g0, gh, ec, hj, hj', w1, w2, w3, ix, ld, hz, -Int.natCast_add, -Int.natCast_mul]
          exact hJ _ hj ⟨hj, by simp, rfl, by rw [hS, ← Bool.and_assoc, hb, hq]; simp [hz]⟩
  · have : j = 4 := by omega
    subst this
    simp [g362_0, hM, g7]
    exact hK _ (by simpa using gh) (fun k hk => by have hk' := hk; simp only [List.mem_cons, not_or] at hk'; simp [hk', hM k hk]) g6
theorem serS_mid {s0 : S} {v4 v5 : V} {cs out : List Int} (s4 : Sl s0.h v4 cs) (hc : cs.length = 16) (s5 : Sl s0.h v5 out) (g0 : s0.σ 0 = .v v4) (g3 : s0.σ 3 = .v v5) (g4 : s0.σ 4 = .v (vi (-1))) (g5 : s0.σ 5 = .v (vi 0)) {K : Ex → S → Prop}
    (hK : ∀ s, s.h = s0.h → (∀ k, k ∉ [4, 5, 6, 7, 11, 12, 13, 14, 15, 16, 17, 18, 19, 20, 21, 22, 23, 24, 25, 26, 27, 28, 29, 30, 31, 32, 33, 34, 35, 36, 37, 38, 39, 40, 41, 42, 43, 44] → s.σ k = s0.σ k) → s.σ 4 = .v (vi (noV (nextQ cs out))) → K (.exit 2) s) : Wc p (.loop g362_1) s0 K := by
  refine Wc_upM (M := [4, 5, 6, 7, 11, 12, 13, 14, 15, 16, 17, 18, 19, 20, 21, 22, 23, 24, 25, 26, 27, 28, 29, 30, 31, 32, 33, 34, 35, 36, 37, 38, 39, 40, 41, 42, 43, 44]) rfl 4 (fun m s => m ≤ 4 ∧ s.σ 5 = .v (vi m) ∧ s.h = s0.h ∧ s.σ 4 = .v (vi (noV ((List.range m).find? (freeQ cs out))))) 0
    ⟨by omega, by simpa using g5, rfl, g4⟩ fun m s ⟨hk, g5, gh, g4⟩ hM J hJ => ?_
  by_cases hm : m < 4
  · have hm0 : (m : Int) < 4 := by omega
    have ec := l1Has_eq s5 (m : Int)
    have w3 : IntKind.i64.wrap ((m : Int) + 1) = (m + 1 : Nat) := by rw [IntWalk.i64_in] <;> omega
    have hf : (List.range (m + 1)).find? (freeQ cs out) = ((List.range m).find? (freeQ cs out)).or (if freeQ cs out m = true then some m else none) := by
      rw [List.range_succ, List.find?_append]; simp [List.find?_cons]; cases freeQ cs out m <;> rfl
    have hfq : freeQ cs out m = (!decide ((m : Int) ∈ out) && (List.range 4).all (colQ cs out m)) := rfl
    generalize (List.range m).find? (freeQ cs out) = o at *
    have key : ∀ (b0 : Bool) (s1 : S), b0 = (decide (o = none) && !decide ((m : Int) ∈ out)) → s1.h = s0.h → s1.σ 0 = .v v4 → s1.σ 3 = .v v5 → s1.σ 4 = .v (vi (noV o)) → s1.σ 5 = .v (vi m) → s1.σ 6 = .v (.bool b0) → s1.σ 7 = .v (vi 0) → ∀ K : Ex → S → Prop, (∀ t, t.h = s0.h → t.σ 4 = .v (vi (noV o)) → t.σ 5 = .v (vi m) → t.σ 6 = .v (.bool (decide (o = none) && freeQ cs out m)) → K (.exit 4) t) → Wc p (.loop g362_0) s1 K := by
      intro b0 s1 hb0 q0 q1 q2 q3 q4 q5 q6 K hK
      refine serS_in (v4 := v4) (v5 := v5) (cs := cs) (out := out) (by rw [q0]; exact s4) hc (by rw [q0]; exact s5) m hm b0 q1 q2 q4 q5 q6 fun t ht hMt t6 => ?_
      refine hK t (ht.trans q0) (by rw [hMt 4 (by decide)]; exact q3) (by rw [hMt 5 (by decide)]; exact q4) ?_
      rw [t6, hb0, hfq, Bool.and_assoc]
    have fin : ∀ (t : S), t.h = s0.h → ∀ z, z = noV (o.or (if freeQ cs out m = true then some m else none)) → t.σ 4 = .v (vi z) → t.σ 5 = .v (vi (m + 1 : Nat)) → J t := fun t ht z hz t4 t5 =>
      hJ _ hm ⟨by omega, t5, ht, by rw [hf, ← hz]; exact t4⟩
    cases o with
    | none =>
      have g4' : s.σ 4 = .v (vi (-1)) := g4
      simp [g362_1, hM, g4', g5, gh, g3, hm, hm0, ec]
      refine key (!decide ((m : Int) ∈ out)) _ (by simp) (by simp [gh]) (by simp [hM, g0]) (by simp [hM, g3]) (by simp [g4', noV]) (by simp [g5]) (by simp) (by simp) _ fun t ht t4 t5 t6 => ?_
      cases hfr : freeQ cs out m with
      | false =>
        rw [hfr] at t6
        simp at t6
        simp [t4, t5, t6, w3, -Int.natCast_add]
        exact fin _ (by simpa using ht) (-1) (by rw [hfr]; rfl) (by simp [t4, noV]) (by simp)
      | true =>
        rw [hfr] at t6
        simp at t6
        simp [t4, t5, t6, w3, -Int.natCast_add]
        exact fin _ (by simpa using ht) (m : Int) (by rw [hfr]; rfl) (by simp) (by simp)
    | some q =>
      have g4' : s.σ 4 = .v (vi q) := g4
      have hq0 : ¬ (q : Int) < 0 := by omega
      simp [g362_1, hM, g4', g5, gh, g3, hm, hm0, ec, hq0]
      refine key false _ (by simp) (by simp [gh]) (by simp [hM, g0]) (by simp [hM, g3]) (by simp [g4', noV]) (by simp [g5]) (by simp) (by simp) _ fun t ht t4 t5 t6 => ?_
      simp at t6
      simp [t4, t5, t6, w3, -Int.natCast_add]
      exact fin _ (by simpa using ht) (q : Int) rfl (by simp [t4, noV]) (by simp)
  · have : m = 4 := by omega
    subst this
    simp [g362_1, hM, g5]
    exact hK _ (by simpa using gh) (fun k hk => by have hk' := hk; simp only [List.mem_cons, not_or] at hk'; simp [hk', hM k hk]) (by simpa [nextQ] using g4)
theorem l7Serial_ok {h : Heap} {v : V} {cs : List Int} (s1 : Sl h v cs) (hcl : cs.length = 16) : ∃ r h', call p 362 [v] h = some (r, h') ∧ Out h.length h' r ((serL cs).getD []) ∧ Keeps h h' ∧ h.length ≤ h'.length := by
  refine go (fn := g362) rfl rfl fun R hR => ?_
  simp [g362]
  refine Wc_upM (M := [2, 3, 4, 5, 6, 7, 8, 9, 10, 11, 12, 13, 14, 15, 16, 17, 18, 19, 20, 21, 22, 23, 24, 25, 26, 27, 28, 29, 30, 31, 32, 33, 34, 35, 36, 37, 38, 39, 40, 41, 42, 43, 44, 45, 46, 47, 48, 49, 50]) rfl 4 (fun i s => i ≤ 4 ∧ Keeps h s.h ∧ h.length ≤ s.h.length ∧ ∃ v5 out, s.σ 3 = .v v5 ∧ Out h.length s.h v5 out ∧ out.length = i ∧ serG cs (4 - i) out = serL cs) 0
    ⟨by omega, Keeps.refl _, Nat.le_refl _, .nils, [], by simp, Out.nil (Nat.le_refl _), rfl, rfl⟩ fun i s ⟨gi, hk, hl, v5, out, g3, ho, hol, hser⟩ hM J hJ => ?_
  by_cases hi : i < 4
  · have hi' : (i : Int) < 4 := by omega
    have hol' := ho.sl.len
    rw [hol] at hol'
    simp [g362_2, hM, g3, hol', hi, hi']
    refine serS_mid (v4 := v) (v5 := v5) (cs := cs) (out := out) (by simpa using s1.keeps hk) hcl (by simpa using ho.sl) (by simp [hM]) (by simp [g3]) (by simp) (by simp) fun t ht hMt t4 => ?_
    have t3 : t.σ 3 = .v v5 := by rw [hMt 3 (by decide)]; simp [g3]
    simp only at ht
    have ho' : Out h.length t.h v5 out := by rw [ht]; exact ho
    have hk' : Keeps h t.h := by rw [ht]; exact hk
    have hl' : h.length ≤ t.h.length := by rw [ht]; exact hl
    obtain ⟨m, hm⟩ : ∃ m, 4 - i = m + 1 := ⟨3 - i, by omega⟩
    rw [hm, serG] at hser
    cases hn : nextQ cs out with
    | none =>
      rw [hn] at t4 hser
      have hser' : serL cs = none := hser.symm
      simp [t4, noV]
      exact hR _ _ ⟨by rw [hser']; exact Out.nil (by omega), hk', by omega⟩
    | some q =>
      rw [hn] at t4 hser
      have t4' : t.σ 4 = .v (vi q) := t4
      have hq0 : ¬ (q : Int) < 0 := by omega
      obtain ⟨v6, h2, e2, o2, k2, l2⟩ := ho'.one (q : Int) (by omega)
      simp [t4', hq0, t3, rdS_last, e2]
      exact hJ _ hi ⟨hi, ho'.far hk' k2 (Nat.le_refl _), by show h.length ≤ h2.length; omega, v6, _, by simp, o2, by simp [hol], by rw [show 4 - (i + 1) = m by omega]; exact hser⟩
  · have : i = 4 := by omega
    subst this
    have hser' : serL cs = some out := hser.symm
    have hol' := ho.sl.len
    rw [hol] at hol'
    simp [g362_2, hM, g3, hol']
    exact hR _ _ ⟨by rw [hser']; exact ho, hk, by omega⟩
end GL

namespace GL
open Go

theorem confL_len (l : List Ac) : (confL l).length = 16 := by
  have key : ∀ (ps : List Nat) (cs : List Int), (ps.foldl bump cs).length = cs.length := by
    intro ps
    induction ps with
    | nil => intro cs; rfl
    | cons x ps ih => intro cs; rw [List.foldl_cons, ih]; simp [bump]
  rw [confL, confF_pairs, key]; rfl
theorem serG_len {cs : List Int} : ∀ (n : Nat) (out r : List Int), serG cs n out = some r → r.length = out.length + n
  | 0, out, r, h => by cases h; rfl
  | n + 1, out, r, h => by
    rw [serG] at h
    split at h
    · cases h
    · have := serG_len n _ r h
      simp at this; omega
def sOf (l : List Ac) : Option (List Int) := if goodPl l = true then serL (confL l) else none
theorem sOf_len {l : List Ac} {r : List Int} (h : sOf l = some r) : r.length = 4 := by
  rw [sOf] at h
  split at h
  · exact serG_len 4 [] r h
  · cases h
theorem SerialOf_ok {h : Heap} {v : V} {xs : List Ac} {F : List Nat} (hs : SdF h v xs F) : ∃ r h', call p 264 [v] h = some (r, h') ∧ ∃ o, r = .tup [o, .bool (sOf xs).isSome] ∧ Out h.length h' o ((sOf xs).getD []) ∧ Keeps h h' ∧ h.length ≤ h'.length := by
  have e0 := GoodPlay_eq hs.sl
  refine go (fn := g264) rfl rfl fun R hR => ?_
  cases hg : goodPl xs with
  | false =>
    rw [hg] at e0
    rw [sOf, hg] at hR
    simp [g264, hs.cells, hs.cell, e0]
    exact hR _ _ ⟨.nils, rfl, Out.nil (Nat.le_refl _), Keeps.refl _, Nat.le_refl _⟩
  | true =>
    rw [hg] at e0
    rw [sOf, hg] at hR
    obtain ⟨_, h1, e1, o, rfl, s1, k1, l1⟩ := serial_ok hs hg (confL_len xs)
    simp [g264, hs.cells, hs.cell, e0, e1]
    exact hR _ _ ⟨o, rfl, s1, k1, l1⟩
theorem SerialOfS_ok {h : Heap} {v : V} {xs : List Ac} {F : List Nat} (hs : SdF h v xs F) : ∃ r h', call p 265 [v] h = some (r, h') ∧ ∃ o, r = .tup [o, .bool (sOf xs).isSome] ∧ Out h.length h' o ((sOf xs).getD []) ∧ Keeps h h' ∧ h.length ≤ h'.length := by
  have e0 := GoodPlayS_eq hs.sl
  refine go (fn := g265) rfl rfl fun R hR => ?_
  cases hg : goodPl xs with
  | false =>
    rw [hg] at e0
    rw [sOf, hg] at hR
    simp [g265, hs.cells, hs.cell, e0]
    exact hR _ _ ⟨.nils, rfl, Out.nil (Nat.le_refl _), Keeps.refl _, Nat.le_refl _⟩
  | true =>
    rw [hg] at e0
    have hlen : ∀ r, sOf xs = some r → r.length = 4 := fun r h => sOf_len h
    rw [sOf, hg] at hR
    have hlen' : ∀ r, serL (confL xs) = some r → r.length = 4 := fun r h => hlen r (by rw [sOf, hg]; exact h)
    obtain ⟨o1, h1, e1, s1, k1, l1⟩ := l7Conflicts_ok hs hg
    obtain ⟨o2, h2, e2, s2, k2, l2⟩ := l7Serial_ok s1 (confL_len xs)
    have s2l := s2.sl.len
    have s2m : Out h.length h2 o2 ((serL (confL xs)).getD []) := s2.mono (by omega)
    clear s2
    have s2 := s2m
    clear s2m
    simp only [if_true] at hR
    cases hr : serL (confL xs) with
    | none =>
      rw [hr] at s2l s2 hR
      have s2l' : lenV o2 = some 0 := s2l
      simp [g265, hs.cells, hs.cell, e0, e1, e2, s2l']
      exact hR _ _ ⟨o2, rfl, s2, k1.trans k2, by omega⟩
    | some r =>
      rw [hr] at s2l s2 hR
      have s2l' : lenV o2 = some 4 := by rw [s2l]; simp [hlen' r hr]
      simp [g265, hs.cells, hs.cell, e0, e1, e2, s2l']
      exact hR _ _ ⟨o2, rfl, s2, k1.trans k2, by omega⟩
end GL

namespace GL
open Go

/-! orders of all four, and a play one by one -/
def isOrd (o : List Int) : Bool := decide (srtI o = [0, 1, 2, 3])
theorem isOrd_perm {o : List Int} (h : isOrd o = true) : o.Perm [0, 1, 2, 3] := by
  have h' : srtI o = [0, 1, 2, 3] := of_decide_eq_true h
  rw [← h']; exact (srtI_perm o).symm
theorem perm_isOrd {o : List Int} (h : o.Perm [0, 1, 2, 3]) : isOrd o = true := by
  refine decide_eq_true (srtI_ext (h.nodup_iff.2 (by decide)) (by decide) fun x => h.mem_iff.symm).symm
theorem isOrd_iff {o : List Int} : isOrd o = true ↔ o.length = 4 ∧ ∀ k : Nat, k < 4 → (k : Int) ∈ o := by
  constructor
  · intro h
    have hp := isOrd_perm h
    exact ⟨hp.length_eq, fun k hk => hp.mem_iff.2 (by
      rcases (by omega : k = 0 ∨ k = 1 ∨ k = 2 ∨ k = 3) with rfl | rfl | rfl | rfl <;> decide)⟩
  · intro ⟨hl, hm⟩
    have m0 : (0 : Int) ∈ o := hm 0 (by decide)
    have m1 : (1 : Int) ∈ o := hm 1 (by decide)
    have m2 : (2 : Int) ∈ o := hm 2 (by decide)
    have m3 : (3 : Int) ∈ o := hm 3 (by decide)
    have p0 := List.perm_cons_erase m0
    have m1' : (1 : Int) ∈ o.erase 0 := (List.mem_erase_of_ne (by decide)).2 m1
    have m2' : (2 : Int) ∈ o.erase 0 := (List.mem_erase_of_ne (by decide)).2 m2
    have m3' : (3 : Int) ∈ o.erase 0 := (List.mem_erase_of_ne (by decide)).2 m3
    have p1 := List.perm_cons_erase m1'
    have m2'' : (2 : Int) ∈ (o.erase 0).erase 1 := (List.mem_erase_of_ne (by decide)).2 m2'
    have m3'' : (3 : Int) ∈ (o.erase 0).erase 1 := (List.mem_erase_of_ne (by decide)).2 m3'
    have p2 := List.perm_cons_erase m2''
    have m3''' : (3 : Int) ∈ ((o.erase 0).erase 1).erase 2 := (List.mem_erase_of_ne (by decide)).2 m3''
    have p3 := List.perm_cons_erase m3'''
    have p : o.Perm (0 :: 1 :: 2 :: 3 :: (((o.erase 0).erase 1).erase 2).erase 3) := p0.trans ((p1.trans ((p2.trans (p3.cons 2)).cons 1)).cons 0)
    have hle := p.length_eq
    have : (((o.erase 0).erase 1).erase 2).erase 3 = [] := by
      apply List.eq_nil_of_length_eq_zero
      simp only [List.length_cons] at hle
      omega
    rw [this] at p
    exact perm_isOrd p
theorem isOrder_ok {h : Heap} {v : V} {o : List Int} (hs : Sl h v o) (hl : o.length ≤ 2 ^ 20) : ∃ r h', call p 365 [v] h = some (r, h') ∧ r = .bool (isOrd o) ∧ Keeps h h' ∧ h.length ≤ h'.length := by
  obtain ⟨c, h1, r, h2, e1, e2, s2, k2, l2⟩ := sorted_call hs hl
  have e3 := Equal_eq (s2.keeps (Keeps.append h2 _)) (Sl.lit (h := h2) ([0, 1, 2, 3] : List Int) 4 rfl [vi 0, vi 1, vi 2, vi 3] rfl (.k 4) (by decide))
  refine go (fn := g365) rfl rfl fun R hR => ?_
  simp [g365, e1, e2, fillL, e3]
  exact hR _ _ ⟨rfl, k2.trans (Keeps.append _ _), by simp; omega⟩
theorem l7Order_eq {h : Heap} {v : V} {o : List Int} (hs : Sl h v o) : call p 366 [v] h = some (.bool (isOrd o), h) := by
  have ea := l1All_eq hs 0 3
  refine go_eq (fn := g366) rfl rfl fun R hR => ?_
  by_cases hl : o.length = 4
  · have hl' : (o.length : Int) = 4 := by omega
    cases hall : o.all fun n => decide (0 ≤ n ∧ n ≤ 3) with
    | false =>
      rw [hall] at ea
      have hb : isOrd o = false := by
        cases h : isOrd o with
        | false => rfl
        | true =>
          have hp := isOrd_perm h
          have : (o.all fun n => decide (0 ≤ n ∧ n ≤ 3)) = true := by rw [hp.all_eq]; decide
          rw [this] at hall; cases hall
      rw [hb] at hR
      simp [g366, hs.len, hl', ea]
      exact hR
    | true =>
      rw [hall] at ea
      simp [g366, hs.len, hl', ea]
      refine Wc_upM (M := [2, 3, 12, 13, 14, 15, 16, 17, 18, 19]) rfl 4 (fun k s => k ≤ 4 ∧ s.σ 3 = .v (vi k) ∧ s.h = h ∧ ∀ j : Nat, j < k → (j : Int) ∈ o) 0 ⟨by omega, by simp, rfl, fun j hj => by omega⟩ fun k s ⟨gk, g3, gh, hj⟩ hM J hJ => ?_
      by_cases hk : k < 4
      · have hk' : (k : Int) < 4 := by omega
        have ec := l1Has_eq hs (k : Int)
        have w3 : IntKind.i64.wrap ((k : Int) + 1) = (k + 1 : Nat) := by rw [IntWalk.i64_in] <;> omega
        by_cases hm : (k : Int) ∈ o
        · rw [decide_eq_true hm] at ec
          simp [g366_0, hM, g3, gh, hk, hk', ec, w3, -Int.natCast_add]
          exact hJ _ hk ⟨hk, by simp, rfl, fun j hj' => by
            rcases Nat.lt_succ_iff_lt_or_eq.1 hj' with h | h
            · exact hj j h
            · rw [h]; exact hm⟩
        · rw [decide_eq_false hm] at ec
          have hb : isOrd o = false := by
            cases h : isOrd o with
            | false => rfl
            | true => exact absurd ((isOrd_iff.1 h).2 k hk) hm
          rw [hb] at hR
          simp [g366_0, hM, g3, gh, hk, hk', ec]
          exact hR
      · have : k = 4 := by omega
        subst this
        rw [isOrd_iff.2 ⟨hl, hj⟩] at hR
        simp [g366_0, hM, g3, gh]
        exact hR
  · have hl' : ¬ (o.length : Int) = 4 := by omega
    have hb : isOrd o = false := by
      cases h : isOrd o with
      | false => rfl
      | true => exact absurd (isOrd_iff.1 h).1 hl
    rw [hb] at hR
    simp [g366, hs.len, hl', hl]
    exact hR

def oneL (l : List Ac) (o : List Int) : List Ac := o.flatMap (ofWho l)
theorem ofWho_le (l : List Ac) (w : Int) : (ofWho l w).length ≤ l.length := List.length_filter_le ..
theorem oneL_take (l : List Ac) {o : List Int} {i : Nat} (hi : i < o.length) : oneL l (o.take (i + 1)) = oneL l (o.take i) ++ ofWho l o[i] := by
  unfold oneL
  rw [List.take_succ_eq_append_getElem hi, List.flatMap_append]
  simp only [List.flatMap_cons, List.flatMap_nil, List.append_nil]
theorem oneL_le (l : List Ac) (o : List Int) : (oneL l o).length ≤ o.length * l.length := by
  induction o with
  | nil => simp [oneL]
  | cons a o ih =>
    have e : oneL l (a :: o) = ofWho l a ++ oneL l o := by simp [oneL]
    rw [e, List.length_append, List.length_cons, Nat.add_mul]
    have := ofWho_le l a
    omega
def playB (l : List Ac) (o : List Int) : Bool := goodPl l && isOrd o
theorem OneByOne_ok {h : Heap} {v w : V} {xs : List Ac} {F : List Nat} {o : List Int} (hs : SdF h v xs F) (ho : Sl h w o) (hol : o.length ≤ 2 ^ 20) : ∃ r h', call p 268 [v, w] h = some (r, h') ∧ ∃ u, r = .tup [u, .bool (playB xs o)] ∧ (∃ G, SdF h' u (if playB xs o = true then oneL xs o else []) G) ∧ Keeps h h' ∧ h.length ≤ h'.length := by
  have e0 := GoodPlay_eq hs.sl
  refine go (fn := g268) rfl rfl fun R hR => ?_
  cases hg : goodPl xs with
  | false =>
    rw [hg] at e0
    rw [playB, hg] at hR
    simp [g268, hs.cells, hs.cell, e0]
    exact hR _ _ ⟨.nils, rfl, ⟨[], .nil⟩, Keeps.refl _, Nat.le_refl _⟩
  | true =>
    rw [hg] at e0
    have hxl := goodPl_len hg
    obtain ⟨_, h1, e1, rfl, k1, l1⟩ := isOrder_ok ho hol
    rw [playB, hg] at hR
    cases hi : isOrd o with
    | false =>
      rw [hi] at e1 hR
      simp [g268, hs.cells, hs.cell, ho.cells, ho.cell, e0, e1]
      exact hR _ _ ⟨.nils, rfl, ⟨[], .nil⟩, k1, l1⟩
    | true =>
      rw [hi] at e1 hR
      have hs1 := hs.keep k1
      have ho1 := ho.keeps k1
      have hol4 := (isOrd_iff.1 hi).1
      simp [g268, hs.cells, hs.cell, ho.cells, ho.cell, e0, e1, ho.len]
      refine Wc_upM (M := [6, 8, 20, 21, 22, 23, 24, 25, 26, 27, 28, 29]) rfl o.length (fun i s => i ≤ o.length ∧ s.σ 20 = .v (vi i) ∧ ∃ v6, s.σ 6 = .v v6 ∧ Out h1.length s.h v6 (oneL xs (o.take i)) ∧ Keeps h1 s.h ∧ h1.length ≤ s.h.length) 0
        ⟨by omega, by simp, _, by simp; rfl, by simpa [oneL] using Out.empty (Nat.le_refl h1.length) (by simp), Keeps.append _ _, by simp⟩ fun i s ⟨gi, g20, v6, g6, hO, hk, hln⟩ hM J hJ => ?_
      by_cases hn : i < o.length
      · have ix := ho1.idx 1 .i64 i hn
        have ld := (ho1.keeps hk).loadI i hn
        simp only [Nat.mul_one] at ix
        obtain ⟨r2, h2, e2, G, s2, k2, l2⟩ := actsOf_ok (hs1.keep hk).sl (by omega) o[i]
        have hT := oneL_take xs hn
        have hle := oneL_le xs (o.take i)
        have hle2 := ofWho_le xs o[i]
        have hmul : (o.take i).length * xs.length ≤ 4 * 16 := Nat.mul_le_mul (by rw [List.length_take]; omega) hxl
        have hO3 : Out h1.length h2 v6 (oneL xs (o.take i)) := hO.keeps (k2.p fun _ => True) (fun _ _ => trivial) l2
        obtain ⟨ys, v7, h3, e3, e4, o3, k3, l3⟩ := hO3.appS s2.sl (bytes := 24) (by decide) (by omega) (k := 3) rfl (n := (ofWho xs o[i]).length) rfl
        have st := ho1.step hn
        generalize o[i] = q at *
        simp [g268_0, hM, g20, g6, hn, ix, ld, e2, s2.len, e3, e4, st]
        exact hJ _ hn ⟨hn, by simp, v7, by simp, by rw [hT]; exact o3, (hk.trans k2).far k3 (Nat.le_refl _) fun i hi hv => by have := (hO3.ge hv).1; omega, by show h1.length ≤ h3.length; omega⟩
      · have : i = o.length := by omega
        subst this
        rw [List.take_length] at hO
        obtain ⟨G, sG, _⟩ := hO.fr
        simp [g268_0, hM, g20, g6]
        exact hR _ _ ⟨v6, rfl, ⟨G, sG⟩, k1.trans hk, by omega⟩
theorem OneByOneS_ok {h : Heap} {v w : V} {xs : List Ac} {F : List Nat} {o : List Int} (hs : SdF h v xs F) (ho : Sl h w o) : ∃ r h', call p 270 [v, w] h = some (r, h') ∧ ∃ u, r = .tup [u, .bool (playB xs o)] ∧ (∃ G, SdF h' u (if playB xs o = true then oneL xs o else []) G) ∧ Keeps h h' ∧ h.length ≤ h'.length := by
  have e0 := GoodPlayS_eq hs.sl
  have e1 := l7Order_eq ho
  refine go (fn := g270) rfl rfl fun R hR => ?_
  cases hg : goodPl xs with
  | false =>
    rw [hg] at e0
    rw [playB, hg] at hR
    simp [g270, hs.cells, hs.cell, e0]
    exact hR _ _ ⟨.nils, rfl, ⟨[], .nil⟩, Keeps.refl _, Nat.le_refl _⟩
  | true =>
    rw [hg] at e0
    have hxl := goodPl_len hg
    rw [playB, hg] at hR
    cases hi : isOrd o with
    | false =>
      rw [hi] at e1 hR
      simp [g270, hs.cells, hs.cell, ho.cells, ho.cell, e0, e1]
      exact hR _ _ ⟨.nils, rfl, ⟨[], .nil⟩, Keeps.refl _, Nat.le_refl _⟩
    | true =>
      rw [hi] at e1 hR
      have hol4 := (isOrd_iff.1 hi).1
      simp [g270, hs.cells, hs.cell, ho.cells, ho.cell, e0, e1, ho.len]
      refine Wc_upM (M := [6, 8, 19, 20, 21, 22, 23, 24, 25, 26, 27, 28]) rfl o.length (fun i s => i ≤ o.length ∧ s.σ 19 = .v (vi i) ∧ ∃ v6, s.σ 6 = .v v6 ∧ Out h.length s.h v6 (oneL xs (o.take i)) ∧ Keeps h s.h ∧ h.length ≤ s.h.length) 0
        ⟨by omega, by simp, _, by simp; rfl, by simpa [oneL] using Out.nil (Nat.le_refl h.length), Keeps.refl _, Nat.le_refl _⟩ fun i s ⟨gi, g19, v6, g6, hO, hk, hln⟩ hM J hJ => ?_
      by_cases hn : i < o.length
      · have ix := ho.idx 1 .i64 i hn
        have ld := (ho.keeps hk).loadI i hn
        simp only [Nat.mul_one] at ix
        obtain ⟨r2, h2, e2, s2, k2, l2⟩ := l7Of_ok (hs.keep hk).sl (by omega) o[i]
        have hT := oneL_take xs hn
        have hle := oneL_le xs (o.take i)
        have hle2 := ofWho_le xs o[i]
        have hmul : (o.take i).length * xs.length ≤ 4 * 16 := Nat.mul_le_mul (by rw [List.length_take]; omega) hxl
        have hO3 : Out h.length h2 v6 (oneL xs (o.take i)) := hO.keeps (k2.p fun _ => True) (fun _ _ => trivial) l2
        obtain ⟨ys, v7, h3, e3, e4, o3, k3, l3⟩ := hO3.appS s2.sl (bytes := 24) (by decide) (by omega) (k := 3) rfl (n := (ofWho xs o[i]).length) rfl
        have st := ho.step hn
        generalize o[i] = q at *
        simp [g270_0, hM, g19, g6, hn, ix, ld, e2, s2.sl.len, e3, e4, st]
        exact hJ _ hn ⟨hn, by simp, v7, by simp, by rw [hT]; exact o3, (hk.trans k2).far k3 (Nat.le_refl _) fun i hi hv => by have := (hO3.ge hv).1; omega, by show h.length ≤ h3.length; omega⟩
      · have : i = o.length := by omega
        subst this
        rw [List.take_length] at hO
        obtain ⟨G, sG, _⟩ := hO.fr
        simp [g270_0, hM, g19, g6]
        exact hR _ _ ⟨v6, rfl, ⟨G, sG⟩, hk, by omega⟩
end GL

namespace GL
open Go

end GL

namespace GL
open Go

end GL

namespace GL
open Go

/-! clashes are counted; an order by them -/
theorem foldl_bump_getD (i : Nat) : ∀ (ps : List Nat) (cs : List Int), i < cs.length → (ps.foldl bump cs).getD i 0 = cs.getD i 0 + (ps.count i : Nat)
  | [], cs, _ => by simp
  | x :: ps, cs, hi => by
    rw [List.foldl_cons, foldl_bump_getD i ps (bump cs x) (by simpa [bump] using hi), List.count_cons]
    by_cases hx : x = i
    · subst hx
      have : (bump cs x).getD x 0 = cs.getD x 0 + 1 := by
        rw [getD_in (by simpa [bump] using hi)]; simp [bump]
      rw [this]; simp; omega
    · have : (bump cs x).getD i 0 = cs.getD i 0 := by
        simp only [bump, List.getD_eq_getElem?_getD, List.getElem?_set, if_neg hx]
      rw [this]; simp [hx]
theorem confL_getD (l : List Ac) {i : Nat} (hi : i < 16) : (confL l).getD i 0 = ((pairsL l).count i : Nat) := by
  rw [confL, confF_pairs, foldl_bump_getD i _ _ (by simpa using hi)]
  have : (List.replicate 16 (0 : Int)).getD i 0 = 0 := by rw [getD_in (by rw [List.length_replicate]; exact hi), List.getElem_replicate]
  rw [this]; omega
theorem pairsL_mem : ∀ (l : List Ac), l.Pairwise fun a b => clashA a b = true → idxC a b ∈ pairsL l
  | [] => .nil
  | a :: r => by
    rw [List.pairwise_cons]
    refine ⟨fun b hb hc => ?_, (pairsL_mem r).imp fun h hc => ?_⟩
    · rw [pairsL]
      exact List.mem_append_left _ (List.mem_map.2 ⟨b, List.mem_filter.2 ⟨hb, hc⟩, rfl⟩)
    · rw [pairsL]
      exact List.mem_append_right _ (h hc)
theorem pairsL_all {p : Nat → Prop} : ∀ (l : List Ac), (l.Pairwise fun a b => clashA a b = true → p (idxC a b)) → ∀ n ∈ pairsL l, p n
  | [], _, n, hn => by simp [pairsL] at hn
  | a :: r, h, n, hn => by
    rw [List.pairwise_cons] at h
    rw [pairsL] at hn
    rcases List.mem_append.1 hn with hn | hn
    · obtain ⟨b, hb, rfl⟩ := List.mem_map.1 hn
      obtain ⟨hb1, hb2⟩ := List.mem_filter.1 hb
      exact h.1 b hb1 hb2
    · exact pairsL_all r h.2 n hn
theorem nodup_inj {l : List Int} (hn : l.Nodup) {i j : Nat} (hi : i < l.length) (hj : j < l.length) (e : l[i] = l[j]) : i = j := by
  have h := List.pairwise_iff_getElem.1 hn
  rcases Nat.lt_trichotomy i j with q | q | q
  · exact absurd e (h i j hi hj q)
  · exact q
  · exact absurd e.symm (h j i hj hi q)
theorem nodup_count {l : List Int} (hn : l.Nodup) (a : Int) : l.count a = if a ∈ l then 1 else 0 := by
  induction l with
  | nil => rfl
  | cons x l ih =>
    rw [List.nodup_cons] at hn
    rw [List.count_cons, ih hn.2]
    by_cases hx : x = a
    · subst hx; simp [hn.1]
    · simp [hx, Ne.symm hx]
/-- x stands ahead of y -/
def Ahead (o : List Int) (x y : Int) : Prop := ∃ i j, ∃ (hi : i < o.length) (hj : j < o.length), i < j ∧ o[i] = x ∧ o[j] = y
theorem ahead_not {o : List Int} (hn : o.Nodup) {x y : Int} (h1 : Ahead o x y) (h2 : Ahead o y x) : False := by
  obtain ⟨i, j, hi, hj, hij, rfl, rfl⟩ := h1
  obtain ⟨i', j', hi', hj', hij', e1, e2⟩ := h2
  have q1 := nodup_inj hn _ _ e1
  have q2 := nodup_inj hn _ _ e2
  omega
theorem ahead_of {o : List Int} {x y : Int} (hx : x ∈ o) (hy : y ∈ o) (hne : x ≠ y) : Ahead o x y ∨ Ahead o y x := by
  obtain ⟨i, hi, rfl⟩ := List.mem_iff_getElem.1 hx
  obtain ⟨j, hj, rfl⟩ := List.mem_iff_getElem.1 hy
  rcases Nat.lt_trichotomy i j with h | h | h
  · exact .inl ⟨i, j, hi, hj, h, rfl, rfl⟩
  · subst h; exact absurd rfl hne
  · exact .inr ⟨j, i, hj, hi, h, rfl, rfl⟩
theorem oneL_append (l : List Ac) (s t : List Int) : oneL l (s ++ t) = oneL l s ++ oneL l t := by simp [oneL]
theorem oneL_snoc_not (l : List Ac) (a : Ac) (s : List Int) (h : a.who ∉ s) : oneL (l ++ [a]) s = oneL l s := by
  induction s with
  | nil => rfl
  | cons w s ih =>
    have e : ∀ l : List Ac, oneL l (w :: s) = ofWho l w ++ oneL l s := fun l => by simp [oneL]
    have : ¬ a.who = w := fun e => h (by rw [e]; simp)
    rw [e, e, ih fun hm => h (by simp [hm])]
    simp [ofWho, this]
theorem one_alike {s : List Int} (hn : s.Nodup) : ∀ (n : Nat) (l : List Ac), l.length = n → (∀ a ∈ l, a.who ∈ s) → (l.Pairwise fun q a => clashA q a = true → Ahead s q.who a.who) → Alike l (oneL l s)
  | 0, l, hl, _, _ => by
    have : l = [] := List.eq_nil_of_length_eq_zero hl
    subst this
    have : oneL [] s = [] := by simp [oneL, ofWho]
    rw [this]; exact Alike.refl _
  | n + 1, l, hl, hin, hp => by
    obtain ⟨l', a, rfl⟩ : ∃ l' a, l = l' ++ [a] := by
      rcases List.eq_nil_or_concat l with h | ⟨l', a, h⟩
      · subst h; simp at hl
      · exact ⟨l', a, by simpa using h⟩
    rw [List.pairwise_append] at hp
    have ih := one_alike hn n l' (by simpa using hl) (fun b hb => hin b (by simp [hb])) hp.1
    obtain ⟨s1, s2, hs⟩ := List.append_of_mem (hin a (by simp))
    have hn' := hn
    rw [hs, List.nodup_append] at hn'
    have h2 := (List.nodup_cons.1 hn'.2.1)
    have n1 : a.who ∉ s1 := fun h => hn'.2.2 _ h a.who (by simp) rfl
    have e1 : oneL (l' ++ [a]) s = (oneL l' s1 ++ ofWho l' a.who) ++ a :: oneL l' s2 := by
      have ec : oneL (l' ++ [a]) (a.who :: s2) = ofWho (l' ++ [a]) a.who ++ oneL (l' ++ [a]) s2 := by simp [oneL]
      rw [hs, oneL_append, ec, oneL_snoc_not _ _ _ n1, oneL_snoc_not _ _ _ h2.1]
      simp [ofWho]
    have e2 : oneL l' s = (oneL l' s1 ++ ofWho l' a.who) ++ oneL l' s2 := by
      have ec : oneL l' (a.who :: s2) = ofWho l' a.who ++ oneL l' s2 := by simp [oneL]
      rw [hs, oneL_append, ec]; simp
    have hpast := Alike.past (oneL l' s1 ++ ofWho l' a.who) a (oneL l' s2) fun b hb => by
      obtain ⟨w, hw, hb⟩ := List.mem_flatMap.1 hb
      obtain ⟨hb1, hb2⟩ := List.mem_filter.1 hb
      simp only [decide_eq_true_eq] at hb2
      have hwa : Ahead s a.who w := by
        obtain ⟨j, hj, rfl⟩ := List.mem_iff_getElem.1 hw
        refine ⟨s1.length, s1.length + 1 + j, by rw [hs]; simp, by rw [hs]; simp; omega, by omega, ?_, ?_⟩
        · simp only [hs]
          rw [List.getElem_append_right (Nat.le_refl _)]; simp
        · simp only [hs]
          rw [List.getElem_append_right (by omega)]
          simp [show s1.length + 1 + j - s1.length = j + 1 by omega]
      have hne : a.who ≠ b.who := fun e => h2.1 (by rw [e, hb2]; exact hw)
      refine ⟨hne, ?_⟩
      cases hc : clashA a b with
      | false => rfl
      | true =>
        have := hp.2.2 b hb1 a (by simp) (by rw [clashA_comm]; exact hc)
        rw [hb2] at this
        exact absurd hwa (fun h => ahead_not hn h this)
    rw [e1]
    refine (ih.snoc a).trans ?_
    rw [e2]
    exact hpast.symm
theorem serG_good {cs : List Int} : ∀ (m : Nat) (out r : List Int), serG cs m out = some r → (out.Nodup ∧ (∀ x ∈ out, 0 ≤ x ∧ x ≤ 3) ∧ ∀ i (hi : i < out.length), ∀ x : Nat, x < 4 → (x : Int) ∈ out.take i ∨ cs.getD (4 * x + out[i].toNat) 0 = 0) →
    r.Nodup ∧ (∀ x ∈ r, 0 ≤ x ∧ x ≤ 3) ∧ ∀ i (hi : i < r.length), ∀ x : Nat, x < 4 → (x : Int) ∈ r.take i ∨ cs.getD (4 * x + r[i].toNat) 0 = 0
  | 0, out, r, h, hg => by cases h; exact hg
  | m + 1, out, r, h, ⟨h1, h2, h3⟩ => by
    rw [serG] at h
    split at h
    · cases h
    · rename_i k hk
      have hf := List.find?_some hk
      have hm := List.mem_of_find?_eq_some hk
      simp only [freeQ, Bool.and_eq_true, Bool.not_eq_true', decide_eq_false_iff_not, List.all_eq_true, List.mem_range] at hf
      simp only [List.mem_range] at hm
      refine serG_good m _ r h ⟨?_, fun x hx => ?_, fun i hi x hx => ?_⟩
      · rw [List.nodup_append]
        exact ⟨h1, by simp, fun a ha b hb => by simp at hb; subst hb; exact fun e => hf.1 (e ▸ ha)⟩
      · rcases List.mem_append.1 hx with hx | hx
        · exact h2 x hx
        · simp at hx; omega
      · by_cases hi' : i < out.length
        · rw [List.getElem_append_left hi', List.take_append_of_le_length (by omega)]
          exact h3 i hi' x hx
        · have hil : i = out.length := by simp at hi; omega
          subst hil
          rw [List.take_left' rfl]
          have := hf.2 x hx
          simp only [colQ, Bool.or_eq_true, decide_eq_true_eq] at this
          simpa using this
theorem goodPl_who {l : List Ac} (h : goodPl l = true) : ∀ a ∈ l, 0 ≤ a.who ∧ a.who ≤ 3 := fun a ha => by
  simp only [goodPl, Bool.and_eq_true, List.all_eq_true] at h
  have := h.2 a ha
  simp only [okAc, Bool.and_eq_true, decide_eq_true_eq] at this
  exact this.1
theorem four_all {s : List Int} (hn : s.Nodup) (hb : ∀ x ∈ s, 0 ≤ x ∧ x ≤ 3) (hl : s.length = 4) : ∀ k : Int, 0 ≤ k ∧ k ≤ 3 → k ∈ s := fun k hk => by
  by_cases hm : k ∈ s
  · exact hm
  · have := sub_len (l := k :: s) (m := [0, 1, 2, 3]) (List.nodup_cons.2 ⟨hm, hn⟩) fun x hx => by
      have hx' : 0 ≤ x ∧ x ≤ 3 := by
        rcases List.mem_cons.1 hx with rfl | hx
        · exact hk
        · exact hb x hx
      have : x = 0 ∨ x = 1 ∨ x = 2 ∨ x = 3 := by omega
      simpa using this
    simp at this; omega
theorem sOf_facts {l : List Ac} {s : List Int} (h : sOf l = some s) : goodPl l = true ∧ playB l s = true ∧ Alike l (oneL l s) ∧ s.length = 4 ∧ (∀ x ∈ s, 0 ≤ x ∧ x ≤ 3) ∧ ∀ i j (hi : i < s.length) (hj : j < s.length), j < i → (confL l).getD (4 * s[i] + s[j]).toNat 0 = 0 := by
  have hl := sOf_len h
  have hg : goodPl l = true := by
    cases hg : goodPl l with
    | true => rfl
    | false => rw [sOf, hg] at h; cases h
  rw [sOf, if_pos hg] at h
  obtain ⟨h1, h2, h3⟩ := serG_good 4 [] s h ⟨List.nodup_nil, by simp, by simp⟩
  have hall := four_all h1 h2 hl
  have hzero : ∀ i j (hi : i < s.length) (hj : j < s.length), j < i → (confL l).getD (4 * s[i] + s[j]).toNat 0 = 0 := fun i j hi hj hij => by
    have q1 := h2 _ (List.getElem_mem hi)
    have q2 := h2 _ (List.getElem_mem hj)
    rcases h3 j hj s[i].toNat (by omega) with h | h
    · exfalso
      rw [Int.toNat_of_nonneg q1.1] at h
      obtain ⟨k, hk, e⟩ := List.mem_iff_getElem.1 h
      rw [List.getElem_take] at e
      rw [List.length_take] at hk
      have := nodup_inj h1 _ _ e
      omega
    · rw [show (4 * s[i] + s[j]).toNat = 4 * s[i].toNat + s[j].toNat by omega]; exact h
  refine ⟨hg, ?_, ?_, hl, h2, hzero⟩
  · rw [playB, hg, isOrd_iff.2 ⟨hl, fun k hk => hall k (by omega)⟩]; rfl
  · refine one_alike h1 l.length l rfl (fun a ha => hall _ (goodPl_who hg a ha)) ?_
    refine (List.Pairwise.and_mem.1 (pairsL_mem l)).imp fun {q a} ⟨hq, ha, h⟩ hc => ?_
    have hw1 := goodPl_who hg q hq
    have hw2 := goodPl_who hg a ha
    have hne : q.who ≠ a.who := by
      simp only [clashA, Bool.and_eq_true, decide_eq_true_eq] at hc
      exact hc.1.1
    rcases ahead_of (hall _ hw1) (hall _ hw2) hne with h' | ⟨i, j, hi, hj, hij, e1, e2⟩
    · exact h'
    · exfalso
      have hz := hzero j i hj hi hij
      rw [e1, e2] at hz
      have hm := h hc
      have hlt : (4 * q.who + a.who).toNat < 16 := by omega
      rw [confL_getD l hlt] at hz
      have := List.count_pos_iff.2 hm
      have e : idxC q a = (4 * q.who + a.who).toNat := rfl
      rw [e] at this
      omega
/-- an order by which one was played is found again -/
theorem one_serial {u : List Ac} {o : List Int} (h : playB u o = true) : ∃ s, sOf (oneL u o) = some s := by
  simp only [playB, Bool.and_eq_true] at h
  obtain ⟨hg, ho⟩ := h
  have hp := isOrd_perm ho
  have hn : o.Nodup := hp.nodup_iff.2 (by decide)
  have hin : ∀ x, x ∈ o ↔ (0 ≤ x ∧ x ≤ 3) := fun x => by
    rw [hp.mem_iff]; simp; omega
  have hperm : (oneL u o).Perm u := by
    have hA : ∀ (l : List Ac), (∀ a ∈ l, a.who ∈ o) → (oneL l o).Perm l := fun l hl => by
      rw [List.perm_iff_count]
      intro a
      have e : ∀ (o : List Int), (oneL l o).count a = if a.who ∈ o ∧ a ∈ l then o.count a.who * l.count a else 0 := by
        intro o
        induction o with
        | nil => simp [oneL]
        | cons w o ih =>
          have ec : oneL l (w :: o) = ofWho l w ++ oneL l o := by simp [oneL]
          have eo : (ofWho l w).count a = if a.who = w then l.count a else 0 := by
            by_cases hw : a.who = w
            · rw [if_pos hw, ofWho, List.count_filter (by simpa using hw)]
            · rw [if_neg hw, List.count_eq_zero]
              intro hm
              exact hw (by simpa using (List.mem_filter.1 hm).2)
          rw [ec, List.count_append, ih, eo, List.count_cons]
          by_cases ha : a ∈ l
          · by_cases hw : a.who = w
            · subst hw
              by_cases hm : a.who ∈ o
              · simp [ha, hm, Nat.add_mul]; omega
              · simp [ha, hm, List.count_eq_zero_of_not_mem hm]
            · by_cases hm : a.who ∈ o
              · simp [ha, hm, hw, Ne.symm hw]
              · simp [ha, hm, hw]
          · simp [ha, List.count_eq_zero_of_not_mem ha]
      rw [e o]
      by_cases ha : a ∈ l
      · rw [if_pos ⟨hl a ha, ha⟩, nodup_count hn, if_pos (hl a ha)]; omega
      · simp [ha, List.count_eq_zero_of_not_mem ha]
    exact hA u fun a ha => (hin _).2 (goodPl_who hg a ha)
  have hg' : goodPl (oneL u o) = true := by rw [goodPl_perm hperm]; exact hg
  have hpw : (oneL u o).Pairwise fun a b => clashA a b = true → Ahead o a.who b.who := by
    unfold oneL
    rw [List.pairwise_flatMap]
    refine ⟨fun w _ => ?_, ?_⟩
    · rw [List.pairwise_iff_forall_sublist]
      intro a b hab hc
      have h1 := hab.subset (by simp : a ∈ [a, b])
      have h2 := hab.subset (by simp : b ∈ [a, b])
      have e1 := (List.mem_filter.1 h1).2
      have e2 := (List.mem_filter.1 h2).2
      simp only [decide_eq_true_eq] at e1 e2
      simp only [clashA, Bool.and_eq_true, decide_eq_true_eq] at hc
      exact absurd (e1.trans e2.symm) hc.1.1
    · rw [List.pairwise_iff_getElem]
      intro i j hi hj hij a ha b hb hc
      have e1 := (List.mem_filter.1 ha).2
      have e2 := (List.mem_filter.1 hb).2
      simp only [decide_eq_true_eq] at e1 e2
      exact ⟨i, j, hi, hj, hij, e1.symm, e2.symm⟩
  have hz : ∀ x k : Nat, x < 4 → k < 4 → ¬ Ahead o x k → (confL (oneL u o)).getD (4 * x + k) 0 = 0 := fun x k hx hk hna => by
    rw [confL_getD _ (by omega)]
    have : (pairsL (oneL u o)).count (4 * x + k) = 0 := by
      rw [List.count_eq_zero]
      intro hm
      refine pairsL_all (p := fun n => n ≠ 4 * x + k) (oneL u o) ?_ _ hm rfl
      refine (List.Pairwise.and_mem.1 hpw).imp fun {a b} ⟨ha, hb, h⟩ hc e => ?_
      have w1 := goodPl_who hg' a ha
      have w2 := goodPl_who hg' b hb
      unfold idxC at e
      refine hna ?_
      have := h hc
      rw [show (x : Int) = a.who by omega, show (k : Int) = b.who by omega]
      exact this
    omega
  have key : ∀ (m : Nat) (out : List Int), out.length + m = 4 → (∃ r, serG (confL (oneL u o)) m out = some r) := by
    intro m
    induction m with
    | zero => intro out _; exact ⟨_, rfl⟩
    | succ m ih =>
      intro out hl
      rw [serG]
      -- the first of the order that is not out yet
      obtain ⟨i, hi, hno, hfst⟩ : ∃ i, ∃ hi : i < o.length, o[i] ∉ out ∧ ∀ j (hj : j < i), o[j] ∈ out := by
        have hex : ∃ i, i < o.length ∧ o.getD i 0 ∉ out := by
          refine Classical.byContradiction fun hno => ?_
          have := sub_len (l := o) (m := out) hn fun x hx => by
            obtain ⟨i, hi, rfl⟩ := List.mem_iff_getElem.1 hx
            refine Classical.byContradiction fun h => hno ⟨i, hi, ?_⟩
            rw [getD_in hi]; exact h
          have := hp.length_eq
          simp at this; omega
        obtain ⟨i0, hi0, hno0⟩ := hex
        induction i0 using Nat.strongRecOn with
        | _ i0 ih0 =>
          by_cases h : ∃ j, j < i0 ∧ o.getD j 0 ∉ out
          · obtain ⟨j, hj, hnj⟩ := h
            exact ih0 j hj (by omega) hnj
          · refine ⟨i0, hi0, by rwa [getD_in hi0] at hno0, fun j hj => ?_⟩
            refine Classical.byContradiction fun hnm => h ⟨j, hj, ?_⟩
            rw [getD_in (by omega)]; exact hnm
      have hk := (hin _).1 (List.getElem_mem hi)
      have hfree : freeQ (confL (oneL u o)) out o[i].toNat = true := by
        simp only [freeQ, Bool.and_eq_true, Bool.not_eq_true', decide_eq_false_iff_not, List.all_eq_true, List.mem_range, colQ, Bool.or_eq_true, decide_eq_true_eq]
        refine ⟨by rw [Int.toNat_of_nonneg hk.1]; exact hno, fun x hx => ?_⟩
        by_cases hxo : (x : Int) ∈ out
        · exact .inl hxo
        · right
          refine hz x _ hx (by omega) fun ⟨a, b, ha, hb, hab, e1, e2⟩ => ?_
          rw [Int.toNat_of_nonneg hk.1] at e2
          have hbi := nodup_inj hn _ _ e2
          subst hbi
          exact hxo (e1 ▸ hfst a hab)
      cases hnx : nextQ (confL (oneL u o)) out with
      | none =>
        exfalso
        have := List.find?_eq_none.1 hnx o[i].toNat (by simp; omega)
        exact this hfree
      | some q => exact ih _ (by simp; omega)
  obtain ⟨r, hr⟩ := key 4 [] rfl
  exact ⟨r, by rw [sOf, if_pos hg']; exact hr⟩
end GL

namespace GL
open Go

theorem drawSerial_ok {h : Heap} {v : V} {bs : List Byte} (hs : Sl h v bs) : ∃ r h', call p 263 [v] h = some (r, h') ∧ ∃ (xs : List Ac) (F : List Nat), SdF h' r xs F ∧ xs.length ≤ 18 ∧ Keeps h h' ∧ h.length ≤ h'.length := by
  obtain ⟨o, h1, e1, xs, F, s1, hx, k1, l1⟩ := drawPlay_ok hs
  refine go (fn := g263) rfl rfl fun R hR => ?_
  simp [g263, hs.cells, hs.cell, e1]
  exact hR _ _ ⟨xs, F, s1, hx, k1, l1⟩
theorem ConflictsOfS_ok {h : Heap} {v : V} {xs : List Ac} {F : List Nat} (hs : SdF h v xs F) : ∃ r h', call p 266 [v] h = some (r, h') ∧ ∃ o, r = .tup [o, .bool (goodPl xs)] ∧ Sl h' o (if goodPl xs = true then confL xs else []) ∧ Keeps h h' ∧ h.length ≤ h'.length := by
  have e0 := GoodPlayS_eq hs.sl
  refine go (fn := g266) rfl rfl fun R hR => ?_
  cases hg : goodPl xs with
  | false =>
    rw [hg] at e0 hR
    simp [g266, hs.cells, hs.cell, e0]
    exact hR _ _ ⟨.nils, rfl, .nil, Keeps.refl _, Nat.le_refl _⟩
  | true =>
    rw [hg] at e0 hR
    obtain ⟨r1, h1, e1, s1, k1, l1⟩ := l7Conflicts_ok hs hg
    simp [g266, hs.cells, hs.cell, e0, e1]
    exact hR _ _ ⟨r1, rfl, s1, k1, l1⟩
theorem drawOne_ok {h : Heap} {v : V} {bs : List Byte} (hs : Sl h v bs) : ∃ r h', call p 269 [v] h = some (r, h') ∧ ∃ (o w : V) (xs : List Ac) (os : List Int) (F : List Nat), r = .tup [o, w] ∧ SdF h' o xs F ∧ Sl h' w os ∧ os.length ≤ 4 ∧ Keeps h h' ∧ h.length ≤ h'.length := by
  have d0 := DC.start hs
  obtain ⟨o, h1, e1, xs, o1, hx, d1, k1, l1⟩ := d0.play (by decide)
  obtain ⟨F, s1, f1⟩ := o1.fr
  have lt1 := d1.lt
  let n := h1.length
  let tabs : List V := [.slice n 0 4 (.k 4), .slice (n + 1) 0 4 (.k 4), .slice (n + 2) 0 4 (.k 4), .slice (n + 3) 0 3 (.k 3), .slice (n + 4) 0 4 (.k 4)]
  let L : Heap := [⟨.own, [vi 0, vi 1, vi 2, vi 3]⟩, ⟨.own, [vi 3, vi 2, vi 1, vi 0]⟩, ⟨.own, [vi 1, vi 0, vi 3, vi 2]⟩, ⟨.own, [vi 0, vi 1, vi 2]⟩, ⟨.own, [vi 0, vi 0, vi 1, vi 2]⟩, ⟨.own, tabs⟩]
  have dL := d1.lit L
  obtain ⟨c, h2, e2, hc, d2, k2, l2⟩ := dL.pick (by decide) 5 (by decide)
  have hc5 : c < 5 := by omega
  have at' : ∀ j (hj : j < 6), h2[n + j]? = some L[j] := fun j hj => by
    refine k2 _ _ (by show n + j ≠ h.length; omega) ?_ ?_
    · rw [List.getElem?_append_right (by show h1.length ≤ h1.length + j; omega)]
      rw [show n + j - h1.length = j by show h1.length + j - h1.length = j; omega]
      exact List.getElem?_eq_getElem hj
    · rcases (by omega : j = 0 ∨ j = 1 ∨ j = 2 ∨ j = 3 ∨ j = 4 ∨ j = 5) with rfl | rfl | rfl | rfl | rfl | rfl <;> simp [L]
  have nF : ∀ b ∈ F, b ≠ h.length := fun b hb => by have := f1.ge b hb; simp at this; omega
  have s2 := (s1.keep (Keeps.append h1 L)).keeps (k2.P.mono nF)
  have ix : idxV 1 (.slice (n + 5) 0 5 (.k 5)) (vi c) = some (.ptr (n + 5) c) := by
    rw [idxV_s, if_pos (by omega)]; simp
  have ld : rdH h2 (n + 5) c 1 = some [tabs[c]] := by
    have := at' 5 (by decide)
    rw [rdH, this]
    rcases (by omega : c = 0 ∨ c = 1 ∨ c = 2 ∨ c = 3 ∨ c = 4) with rfl | rfl | rfl | rfl | rfl <;> simp [L, cut, tabs]
  have so : ∃ os : List Int, Sl h2 tabs[c] os ∧ os.length ≤ 4 := by
    have q := at' c (by omega)
    rcases (by omega : c = 0 ∨ c = 1 ∨ c = 2 ∨ c = 3 ∨ c = 4) with rfl | rfl | rfl | rfl | rfl
    · exact ⟨[0, 1, 2, 3], Sl.whole (.k 4) q (by simp [L]) rfl (by decide), by decide⟩
    · exact ⟨[3, 2, 1, 0], Sl.whole (.k 4) q (by simp [L]) rfl (by decide), by decide⟩
    · exact ⟨[1, 0, 3, 2], Sl.whole (.k 4) q (by simp [L]) rfl (by decide), by decide⟩
    · exact ⟨[0, 1, 2], Sl.whole (.k 3) q (by simp [L]) rfl (by decide), by decide⟩
    · exact ⟨[0, 0, 1, 2], Sl.whole (.k 4) q (by simp [L]) rfl (by decide), by decide⟩
  obtain ⟨os, so, hol⟩ := so
  refine go (fn := g269) rfl rfl fun R hR => ?_
  simp [g269, hs.cells, hs.cell, fillL, e1]
  simp only [L, tabs, n] at e2 ix ld so
  simp [e2, ix, ld]
  exact hR _ _ ⟨o, _, xs, os, F, rfl, s2, so, hol, d2.keep, by simp at l1 l2; omega⟩
theorem serial_tail {h : Heap} {v : V} {bs : List Byte} (hs : Sl h v bs) : ∃ (u w o1 o2 : V) (b : Bool) (h1 h2 h3 : Heap), call p 269 [v] h = some (.tup [u, w], h1) ∧ call p 268 [u, w] h1 = some (.tup [o1, .bool b], h2) ∧ call p 270 [u, w] h2 = some (.tup [o2, .bool b], h3) ∧ call p 252 [o1, o2] h3 = some (.bool true, h3) ∧
    (b = true → ∃ o3 h4, call p 264 [o1] h3 = some (.tup [o3, .bool true], h4)) := by
  obtain ⟨_, h1, e1, u, w, xs, os, F, rfl, s1, so, hol, k1, l1⟩ := drawOne_ok hs
  obtain ⟨_, h2, e2, o1, rfl, ⟨G1, s2⟩, k2, l2⟩ := OneByOne_ok s1 so (by omega)
  obtain ⟨_, h3, e3, o2, rfl, ⟨G2, s3⟩, k3, l3⟩ := OneByOneS_ok (s1.keep k2) (so.keeps k2)
  have q := sameActs_eq (s2.keep k3).sl s3.sl
  rw [decide_eq_true rfl] at q
  refine ⟨u, w, o1, o2, _, h1, h2, h3, e1, e2, e3, q, fun hb => ?_⟩
  obtain ⟨_, h4, e4, o3, rfl, s4, k4, l4⟩ := SerialOf_ok (s2.keep k3)
  rw [hb, if_pos rfl] at e4
  obtain ⟨s, hs⟩ := one_serial hb
  rw [hs] at e4
  exact ⟨o3, h4, e4⟩
theorem serial_loop {s0 : S} {v6 v10 : V} {ss cs : List Int} {F : List Nat} (s6 : SdF s0.h v6 ss F) (s10 : Sl s0.h v10 cs) (hcl : cs.length = 16) (hb : ∀ x ∈ ss, 0 ≤ x ∧ x ≤ 3) (hz : ∀ i j (hi : i < ss.length) (hj : j < ss.length), j < i → cs.getD (4 * ss[i] + ss[j]).toNat 0 = 0)
    (g6 : s0.σ 6 = .v v6) (g10 : s0.σ 10 = .v v10) (g107 : s0.σ 107 = .v v6) (g108 : s0.σ 108 = .v (vi ss.length)) (g109 : s0.σ 109 = .v (vi 0)) {K : Ex → S → Prop}
    (hK : ∀ s, s.h = s0.h → s.σ 1 = s0.σ 1 → K (.exit 0) s) : Wc p (.loop g262_1) s0 K := by
  refine Wc_upM (M := [4, 18, 19, 21, 109, 110, 111, 112, 113, 114, 115, 116, 117, 118, 119, 120, 121, 122, 123, 124, 125, 126, 127, 128, 129, 130, 131]) rfl ss.length (fun i s => i ≤ ss.length ∧ s.σ 109 = .v (vi i) ∧ s.h = s0.h) 0 ⟨by omega, by simpa using g109, rfl⟩ fun i s ⟨gi, g109, gh⟩ hM J hJ => ?_
  by_cases hi : i < ss.length
  · obtain ⟨u, F', eu, su, _⟩ := s6.pre (i := i) (by omega)
    have sul := su.len
    rw [List.length_take, Nat.min_eq_left gi] at sul
    have ix := s6.idx 1 .i64 i hi
    have ld := s6.sl.loadI i hi
    simp only [Nat.mul_one] at ix
    have st := s6.step hi
    have q1 := hb _ (List.getElem_mem hi)
    have hz' := fun j (hj : j < ss.length) => hz i j hi hj
    generalize ss[i] = a at *
    simp [g262_1, hM, g6, g107, g108, g109, gh, hi, ix, ld, bounds, takeB, eu, sul]
    refine Wc_upM (M := [4, 21, 118, 119, 120, 121, 122, 123, 124, 125, 126, 127, 128, 129, 130]) rfl i (fun j t => j ≤ i ∧ t.σ 118 = .v (vi j) ∧ t.h = s0.h) 0 ⟨by omega, by simp, by simp [gh]⟩ fun j t ⟨gj, g118, ght⟩ hM1 J1 hJ1 => ?_
    by_cases hj : j < i
    · have hjs : j < ss.length := by omega
      have hjt : j < (ss.take i).length := by rw [List.length_take]; omega
      have iy := su.idx 1 .i64 j hjt
      have ly := su.sl.loadI j hjt
      rw [List.getElem_take] at ly
      simp only [Nat.mul_one] at iy
      have hbd := s6.bd
      have st2 : IntKind.i64.wrap ((j : Int) + 1) = (j + 1 : Nat) := by rw [IntWalk.i64_in] <;> omega
      have q2 := hb _ (List.getElem_mem hjs)
      have hz2 := hz' j hjs hj
      generalize ss[j] = b at *
      have hx : (4 * a + b).toNat < cs.length := by omega
      have iz := s10.idx 1 .i64 _ hx
      have lz := s10.loadI _ hx
      rw [getD_in hx] at hz2
      rw [hz2] at lz
      simp only [Nat.mul_one] at iz
      have w1 : IntKind.i64.wrap (4 * a) = 4 * a := by rw [IntWalk.i64_in] <;> omega
      have w2 : IntKind.i64.wrap (4 * a + b) = ((4 * a + b).toNat : Nat) := by rw [IntWalk.i64_in] <;> omega
      simp [g262_0, hM1, hM, g10, g118, ght, hj, iy, ly, w1, w2, iz, lz, st2, -Int.natCast_add, -Int.ofNat_toNat]
      exact hJ1 _ hj ⟨hj, by simp, by simp⟩
    · have : j = i := by omega
      subst this
      simp [g262_0, hM1, g118, hM, g109, st]
      exact hJ _ hi ⟨hi, by simp, by simpa using ght⟩
  · have : i = ss.length := by omega
    subst this
    simp [g262_1, hM, g108, g109]
    exact hK _ (by simpa using gh) (by simp [hM])

set_option maxRecDepth 20000 in
theorem FnSerial_ok {h : Heap} {va vb : V} {as bs : List Byte} (ha : Sl h va as) (hb : Sl h vb bs) : ∃ r h', call p 262 [va, vb] h = some (r, h') ∧ r = .bool true := by
  refine go (fn := g262) rfl rfl fun R hR => ?_
  by_cases hbig : (1048576 : Int) < IntKind.i64.wrap ((as.length : Int) + bs.length)
  · simp [g262, ha.len, hb.len, hbig]
    exact hR _ _ rfl
  · obtain ⟨l, h1, e1, xs, F, s1, hx, k1, l1⟩ := drawSerial_ok ha
    obtain ⟨_, h2, e2, o2, rfl, p2, k2, l2⟩ := SerialOf_ok s1
    have s1b := s1.keep k2
    obtain ⟨_, h3, e3, o3, rfl, p3, k3, l3⟩ := SerialOfS_ok s1b
    have s1c := s1b.keep k3
    obtain ⟨_, h4, e4, o4, rfl, s4, k4, l4⟩ := ConflictsOf_ok s1c
    have s1d := s1c.keep k4
    obtain ⟨_, h5, e5, o5, rfl, s5, k5, l5⟩ := ConflictsOfS_ok s1d
    have s1e := s1d.keep k5
    have k35 := (k3.trans k4).trans k5
    have q1 := sameInts_eq (p2.sl.keeps k35) (p3.sl.keeps (k4.trans k5))
    have q2 := sameInts_eq (s4.keeps k5) s5
    rw [decide_eq_true rfl] at q1 q2
    have q3 := GoodPlay_eq s1e.sl
    have k15 := (k1.trans k2).trans k35
    cases hs : sOf xs with
    | none =>
      rw [hs] at e2 e3
      obtain ⟨u, w, o6, o7, b, g1, g2, g3, c1, c2, c3, c4, c5⟩ := serial_tail (hb.keeps k15)
      cases b with
      | false =>
        simp [g262, ha.len, hb.len, hbig, s1.cells, s1.cell, e1, e2, e3, e4, e5, q1, q2, q3, c1, c2, c3, c4]
        exact hR _ _ rfl
      | true =>
        obtain ⟨o8, g4, c6⟩ := c5 rfl
        simp [g262, ha.len, hb.len, hbig, s1.cells, s1.cell, e1, e2, e3, e4, e5, q1, q2, q3, c1, c2, c3, c4, c6]
        exact hR _ _ rfl
    | some ss =>
      rw [hs] at e2 e3
      have p2' : Out h1.length h5 o2 ss := by
        rw [hs] at p2
        exact p2.keeps (k35.p fun _ => True) (fun _ _ => trivial) (by omega)
      obtain ⟨hg, hpl, hA, hsl, hsb, hzz⟩ := sOf_facts hs
      obtain ⟨_, h6, e6, o6, rfl, ⟨G6, s6⟩, k6, l6⟩ := OneByOne_ok s1e p2'.sl (by omega)
      rw [hpl] at e6
      rw [if_pos hpl] at s6
      obtain ⟨_, h7, e7, rfl, k7, l7⟩ := SameEffect_ok (s1e.keep k6) s6
      have hE : effR xs (oneL xs ss) = .tup [.bool true, .bool true] := by
        rw [effR, hg, ← goodPl_perm hA.perm, hg, hA.eff]; rfl
      rw [hE] at e7
      have k67 := k6.trans k7
      have p7 : Out h1.length h7 o2 ss := p2'.keeps (k67.p fun _ => True) (fun _ _ => trivial) (by omega)
      obtain ⟨F7, s7, _⟩ := p7.fr
      rw [hg, if_pos rfl] at s4
      have s4' := (s4.keeps k5).keeps k67
      have s7l := s7.len
      rw [hsl] at s7l
      obtain ⟨u, w, o8, o7, b, g1, g2, g3, c1, c2, c3, c4, c5⟩ := serial_tail (hb.keeps (k15.trans k67))
      rw [hg] at e4 e5 q3
      simp [g262, ha.len, hb.len, hbig, s1.cells, s1.cell, p2'.sl.cells, p2'.sl.cell, s6.cells, s6.cell, e1, e2, e3, e4, e5, q1, q2, q3, e6, e7, s7l]
      refine serial_loop (v6 := o2) (v10 := o4) (by simpa using s7) (by simpa using s4') (confL_len _) hsb hzz (by simp) (by simp) (by simp) (by simp [hsl]) (by simp) fun t ht t1 => ?_
      simp at ht t1
      cases b with
      | false =>
        simp [t1, ht, c1, c2, c3, c4]
        exact hR _ _ rfl
      | true =>
        obtain ⟨o9, g4, c6⟩ := c5 rfl
        simp [t1, ht, c1, c2, c3, c4, c6]
        exact hR _ _ rfl
end GL

