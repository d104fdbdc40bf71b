import Derived.ChangeArms
import Derived.IntWalk
import Derived.WideShapes
import Derived.Test.YtpmpdfpgkcagnaaGuFnExactIsFastOneA
/- What the functions of the law do, on the machine. -/
set_option linter.unusedSimpArgs false
set_option linter.unusedVariables false
set_option linter.unnecessarySimpa false
namespace GL
open Go

theorem l13At_ok {h : Heap} {v : V} {c : Hd} {F : List Nat} (hc : HdV h v c F) (hg : goodH c = true) {r a : Int} (hr : 0 ≤ r ∧ r ≤ c.no - 1) (ha : 0 ≤ a ∧ a ≤ (c.deeds.length : Int) - 1) :
    ∃ w h', call p 516 [v, vi r, vi a] h = some (w, h') ∧ ∃ G, SdF h' w (depsL c r a) G ∧ (∀ b ∈ G, h.length ≤ b) ∧ Keeps h h' ∧ h.length ≤ h'.length := by
  obtain ⟨x, y, F1, F2, rfl, rfl, hx, hy⟩ := hc
  obtain ⟨r0, r1, hmem⟩ := rows_get hg hr
  obtain ⟨_, h8, _, hrows⟩ := goodH_facts hg
  obtain ⟨hlen, hin, hnd, hcov⟩ := hrows _ hmem
  obtain ⟨z, G0, ez1, ez2, hz, _⟩ := readL hy ⟨r0, r1⟩
  unfold depsL
  change SdF h z (rowAt c r) G0 at hz
  change rowAt c r ∈ c.rows at hmem
  change (rowAt c r).length = _ at hlen
  change ∀ x ∈ rowAt c r, _ at hin
  change (rowAt c r).Nodup at hnd
  generalize rowAt c r = row at *
  obtain ⟨a1, a2⟩ := readD hx.sl (k := a) (by omega)
  refine go (fn := g516) rfl rfl fun R hR => ?_
  have fin : ∀ (i : Nat) (w : V) (h1 : Heap) (ys : List Int) (G : List Nat), SdF h1 w ys G → ys.Pairwise (· < ·) → (∀ b ∈ G, h.length ≤ b) → (∀ x, x ∈ ys ↔ x ∈ (row.take i).filter fun x => clH c x a) → (row.takeWhile fun x => !decide (x = a)) = row.take i → Keeps h h1 → h.length ≤ h1.length → R w h1 := fun i w h1 ys G hs hp hG hm ht hk hl => by
    have he : ((row.take i).filter fun x => clH c x a) = depsPre c row a := by rw [depsPre, ht]
    rw [he] at hm
    rw [srtI_ext (depsPre_nodup hnd a) hp hm] at hs
    exact hR _ _ ⟨G, hs, hG, hk, hl⟩
  simp [g516, fillL, upd, hx.cells, hx.cell, hy.cells, hy.cell, ez1, ez2, hz.len]
  refine Wc_upM (M := [7, 9, 16, 17, 18, 19, 20, 21, 22, 23, 24, 25, 26, 27, 28, 29, 30, 31, 32, 33, 34, 35, 36, 37]) rfl row.length (fun i s => s.σ 16 = .v (vi i) ∧ s.L 3 = (1, [vi c.no, x, y]) ∧ (∃ w ys G, s.σ 7 = .v w ∧ SdF s.h w ys G ∧ ys.Pairwise (· < ·) ∧ (∀ b ∈ G, h.length ≤ b) ∧ ys.length ≤ i ∧ ∀ x, x ∈ ys ↔ x ∈ (row.take i).filter fun x => clH c x a) ∧ (∀ x ∈ row.take i, x ≠ a) ∧ Keeps h s.h ∧ h.length ≤ s.h.length) 0
    ⟨by simp, by simp [upd], ⟨.nils, [], [], by simp, .nil, by simp, by simp, by simp, by simp⟩, by simp, Keeps.refl _, by simp⟩ fun i s ⟨g16, gL, ⟨w, ys, G, g7, hs, hp, hG, hyl, hm⟩, hall, hk, hl⟩ hM J hJ => ?_
  by_cases hn : i < row.length
  · have hz' := hz.keep hk
    have ix := hz'.idx 1 .i64 i hn
    have ld := hz'.sl.loadI i hn
    simp only [Nat.mul_one] at ix
    have ht := List.take_succ_eq_append_getElem hn
    by_cases he : row[i] = a
    · have f := fin i w s.h ys G hs hp hG hm (takeW hall (.inr ⟨hn, he⟩)) hk hl
      have ld2 : rdH s.h (bOf z) (oOf z + i) 1 = some [vi a] := by rw [ld, he]
      simp [g516_0, hM, g16, g7, hn, ix, ld2, upd]
      exact f
    · have hxi := hin _ (List.getElem_mem hn)
      obtain ⟨b1, b2⟩ := readD (hx.keep hk).sl hxi
      have a2' := rdH_keep hk a2
      have ec := l13Clash_eq (dAt c row[i]) (dAt c a) s.h
      have ht2 : (row.take (i + 1)).filter (fun x => clH c x a) = (row.take i).filter (fun x => clH c x a) ++ (if clH c row[i] a = true then [row[i]] else []) := by
        rw [ht, List.filter_append, List.filter_cons, List.filter_nil]
      have hall2 : ∀ x ∈ row.take (i + 1), x ≠ a := (all_take_succ hn).2 ⟨hall, he⟩
      have st := hz.step hn
      cases hcl : clH c row[i] a with
      | false =>
        have hcl' : clD (dAt c row[i]) (dAt c a) = false := hcl
        rw [hcl'] at ec
        rw [hcl] at ht2
        generalize row[i] = xi at *
        simp [g516_0, hM, g16, g7, gL, hn, ix, ld, upd, he, b1, b2, a1, a2', ec, st]
        refine hJ _ hn ⟨by simp, by simp [upd, gL], ⟨w, ys, G, by simp [g7], hs, hp, hG, by omega, fun x => by rw [ht2, hm]; simp⟩, hall2, hk, hl⟩
      | true =>
        have hcl' : clD (dAt c row[i]) (dAt c a) = true := hcl
        rw [hcl'] at ec
        rw [hcl] at ht2
        obtain ⟨w6, h3, e5, zs, G6, s6, r6, m6, zl, hG6, k3, l3⟩ := l1Put_ok hs hp (by omega) row[i]
        generalize row[i] = xi at *
        simp [g516_0, hM, g16, g7, gL, hn, ix, ld, upd, he, b1, b2, a1, a2', ec, e5, st]
        refine hJ _ hn ⟨by simp, by simp [upd, gL], ⟨w6, zs, G6, by simp, s6, r6, fun b hb => ?_, by omega, fun x => by rw [ht2, m6, hm]; simp⟩, hall2, hk.trans k3, by show h.length ≤ h3.length; omega⟩
        rcases hG6 b hb with h | h
        · exact hG b h
        · omega
  · have f := fin i w s.h ys G hs hp hG hm (takeW hall (.inl (by omega))) hk hl
    simp [g516_0, hM, g16, g7, hn]
    exact f
def okH (c : Hd) (a : Int) : Bool := goodH c && decide (0 ≤ a ∧ a ≤ (c.deeds.length : Int) - 1)
theorem l13Ok_eq {h : Heap} {v : V} {c : Hd} {F : List Nat} (hc : HdV h v c F) (a : Int) : call p 515 [v, vi a] h = some (.bool (okH c a), h) := by
  have e1 := GoodHeardS_eq hc
  obtain ⟨x, y, F1, F2, rfl, rfl, hx, hy⟩ := hc
  have w1 : IntKind.i64.wrap ((c.deeds.length : Int) - 1) = (c.deeds.length : Int) - 1 := by have := hx.bd; rw [IntWalk.i64_in] <;> omega
  refine go_eq (fn := g515) rfl rfl fun R hR => ?_
  cases hg : goodH c with
  | false =>
    rw [hg] at e1
    simp [g515, fillL, upd, hx.cells, hx.cell, hy.cells, hy.cell, e1]; simpa [okH, hg] using hR
  | true =>
    rw [hg] at e1
    simp [g515, fillL, upd, hx.cells, hx.cell, hy.cells, hy.cell, e1, hx.len, w1, -Bool.decide_and]; simpa [okH, hg] using hR
/-! frames -/
theorem szHeard_eq {h : Heap} {v : V} {c : Hd} {F : List Nat} (hc : HdV h v c F) {l0 : Int} (h0 : 0 ≤ l0 ∧ l0 ≤ 2 ^ 20) : ∃ r : Int, call p 439 [v, vi l0] h = some (vi r, h) ∧ (r < 0 ∨ (0 ≤ r ∧ c.deeds.length + (c.rows.length + numN c.rows) + r = l0)) := by
  obtain ⟨x, y, F1, F2, rfl, rfl, hx, hy⟩ := hc
  have e1 := szDeedS_eq hx.sl h0
  by_cases h1 : l0 < c.deeds.length
  · rw [if_pos h1] at e1
    refine ⟨-1, go_eq (fn := g439) rfl rfl fun R hR => ?_, .inl (by decide)⟩
    simp [g439, fillL, upd, hx.cells, hx.cell, hy.cells, hy.cell, e1]; exact hR
  · rw [if_neg h1] at e1
    have n1 : ¬ l0 - (c.deeds.length : Int) < 0 := by omega
    obtain ⟨r, e2, hr⟩ := szIntSS_eq hy (l0 := l0 - c.deeds.length) (by omega)
    by_cases hr0 : r < 0
    · refine ⟨-1, go_eq (fn := g439) rfl rfl fun R hR => ?_, .inl (by decide)⟩
      simp [g439, fillL, upd, hx.cells, hx.cell, hy.cells, hy.cell, e1, n1, e2, hr0]; exact hR
    · refine ⟨r, go_eq (fn := g439) rfl rfl fun R hR => ?_, .inr ?_⟩
      · simp [g439, fillL, upd, hx.cells, hx.cell, hy.cells, hy.cell, e1, n1, e2, hr0]; exact hR
      · rcases hr with h | h
        · exact absurd h hr0
        · omega
/-- small enough -/
def smH (c : Hd) : Prop := c.deeds.length ≤ 2 ^ 20 ∧ c.rows.length + numN c.rows ≤ 2 ^ 20
theorem toHeard_ok {h : Heap} {v : V} {c : Hd} {F : List Nat} (hc : HdV h v c F) (hsm : smH c) : ∃ r h', call p 440 [v] h = some (r, h') ∧ ∃ G, HdV h' r c G ∧ Fresh h.length h' G ∧ Keeps h h' ∧ h.length ≤ h'.length := by
  obtain ⟨x, y, F1, F2, rfl, rfl, hx, hy⟩ := hc
  obtain ⟨a, h1, e1, G1, s1, f1, k1, l1⟩ := toDeedS_ok hx.sl hsm.1
  obtain ⟨b, h2, e2, G2, s2, f2, k2, l2⟩ := toIntSS_ok (hy.keep k1) (by have := hsm.2; omega) fun r hr => by have := numN_mem hr; have := hsm.2; omega
  refine go (fn := g440) rfl rfl fun R hR => ?_
  simp [g440, fillL, upd, hx.cells, hx.cell, hy.cells, hy.cell, e1, e2, resV, mkV, s1.cells, s1.cell, s2.cells, s2.cell]
  exact hR _ _ ⟨G1 ++ G2, ⟨a, b, G1, G2, rfl, rfl, s1.keep k2, s2⟩, f1.app f2 k2 l1, k1.trans k2, by omega⟩
theorem eqHeard_same {h : Heap} {v w : V} {c : Hd} {F G : List Nat} (hc : HdV h v c F) (hd : HdV h w c G) : call p 443 [v, w] h = some (.bool true, h) := by
  obtain ⟨x, y, F1, F2, rfl, rfl, hx, hy⟩ := hc
  obtain ⟨a, b, G1, G2, rfl, rfl, ga, gb⟩ := hd
  have e1 := eqDeedS_same hx.sl ga.sl
  have e2 := eqIntSS_same hy gb
  refine go_eq (fn := g443) rfl rfl fun R hR => ?_
  simp [g443, fillL, upd, hx.cells, hx.cell, hy.cells, hy.cell, ga.cells, ga.cell, gb.cells, gb.cell, e1, e2]; exact hR
end GL

namespace GL
open Go

def Dd.of (p : Int × Bool) : Dd := ⟨p.1, p.2⟩
theorem Dd.of_rep (h : Heap) (p : Int × Bool) (cs : List V) (F : List Nat) (hr : Data.rep h p cs F) : Data.rep h (Dd.of p) cs F := by
  obtain ⟨c, d, F1, F2, rfl, rfl, ⟨rfl, rfl⟩, rfl, rfl⟩ := hr
  exact ⟨rfl, rfl⟩
def Hd.of (p : Int × List Dd × List (List Int)) : Hd := ⟨p.1, p.2.1, p.2.2⟩
theorem Hd.of_rep (h : Heap) (p : Int × List Dd × List (List Int)) (cs : List V) (F : List Nat) (hr : Data.rep h p cs F) : Data.rep h (Hd.of p) cs F := by
  obtain ⟨c, d, F1, F2, rfl, rfl, ⟨rfl, rfl⟩, e, f, G1, G2, rfl, rfl, ⟨x, rfl, hx⟩, ⟨y, rfl, hy⟩⟩ := hr
  exact ⟨x, y, G1, G2, rfl, by simp, hx, hy⟩
end GL

namespace GL
open Go

theorem Equal_eq {h : Heap} {v w : V} {xs ys : List Int} (hs : Sl h v xs) (ht : Sl h w ys) : call p 386 [v, w] h = some (.bool (decide (xs = ys)), h) := by
  refine go_eq (fn := g386) rfl rfl fun R hR => ?_
  by_cases hl : xs.length = ys.length
  · have hl2 : (xs.length : Int) = ys.length := by omega
    simp [g386, hs.len, ht.len, hl2]
    rw [← hl]
    refine Wc_upM (M := [4, 5, 13, 14, 15, 16, 17, 18, 19, 20, 21, 22, 23, 24, 25]) rfl xs.length (fun i s => s.σ 13 = .v (vi i) ∧ s.h = h ∧ xs.take i = ys.take i) 0 (by simp) fun i s ⟨g13, gh, hall⟩ hM J hJ => ?_
    by_cases hn : i < xs.length
    · have hn2 : i < ys.length := by omega
      have ix := hs.idx 1 .i64 i hn
      have iy := ht.idx 1 .i64 i hn2
      simp only [Nat.mul_one] at ix iy
      by_cases he : xs[i] = ys[i]
      · have lx := hs.loadI i hn
        rw [he] at lx
        simp [g386_0, hM, g13, gh, hn, ix, iy, lx, ht.loadI i hn2, hs.step hn]
        exact hJ _ hn ⟨by simp, rfl, by rw [List.take_succ_eq_append_getElem hn, List.take_succ_eq_append_getElem hn2, hall, he]⟩
      · simp [g386_0, hM, g13, gh, hn, ix, iy, hs.loadI i hn, ht.loadI i hn2, he]
        have : decide (xs = ys) = false := decide_eq_false fun e => by subst e; exact he rfl
        rw [this] at hR; exact hR
    · rw [List.take_of_length_le (by omega), List.take_of_length_le (by omega)] at hall
      rw [decide_eq_true hall] at hR
      simp [g386_0, hM, g13, gh, hn]; exact hR
  · have hl2 : ¬ (xs.length : Int) = ys.length := by omega
    have : decide (xs = ys) = false := decide_eq_false fun e => hl (by rw [e])
    rw [this] at hR
    simp [g386, hs.len, ht.len, hl2]; exact hR
theorem l1Same_eq {h : Heap} {v w : V} {xs ys : List Int} (hs : Sl h v xs) (ht : Sl h w ys) : call p 356 [v, w] h = some (.bool (decide (xs = ys)), h) := by
  refine go_eq (fn := g356) rfl rfl fun R hR => ?_
  by_cases hl : xs.length = ys.length
  · have hl2 : (xs.length : Int) = ys.length := by omega
    simp [g356, hs.len, ht.len, hl2]
    rw [← hl]
    refine Wc_upM (M := [4, 5, 13, 14, 15, 16, 17, 18, 19, 20, 21, 22, 23, 24, 25]) rfl xs.length (fun i s => s.σ 13 = .v (vi i) ∧ s.h = h ∧ xs.take i = ys.take i) 0 (by simp) fun i s ⟨g13, gh, hall⟩ hM J hJ => ?_
    by_cases hn : i < xs.length
    · have hn2 : i < ys.length := by omega
      have ix := hs.idx 1 .i64 i hn
      have iy := ht.idx 1 .i64 i hn2
      simp only [Nat.mul_one] at ix iy
      by_cases he : xs[i] = ys[i]
      · have lx := hs.loadI i hn
        rw [he] at lx
        simp [g356_0, hM, g13, gh, hn, ix, iy, lx, ht.loadI i hn2, hs.step hn]
        exact hJ _ hn ⟨by simp, rfl, by rw [List.take_succ_eq_append_getElem hn, List.take_succ_eq_append_getElem hn2, hall, he]⟩
      · simp [g356_0, hM, g13, gh, hn, ix, iy, hs.loadI i hn, ht.loadI i hn2, he]
        have : decide (xs = ys) = false := decide_eq_false fun e => by subst e; exact he rfl
        rw [this] at hR; exact hR
    · rw [List.take_of_length_le (by omega), List.take_of_length_le (by omega)] at hall
      rw [decide_eq_true hall] at hR
      simp [g356_0, hM, g13, gh, hn]; exact hR
  · have hl2 : ¬ (xs.length : Int) = ys.length := by omega
    have : decide (xs = ys) = false := decide_eq_false fun e => hl (by rw [e])
    rw [this] at hR
    simp [g356, hs.len, ht.len, hl2]; exact hR

def alikeB (c : Hd) (ps : List Int) (a : Int) : Bool := ps.all fun p => decide (depsL c p a = depsL c (ps.headD 0) a)
theorem head0 {h : Heap} {w : V} {ps : List Int} (hs : Sl h w ps) (hp : 0 < ps.length) : idxV 1 w (vi 0) = some (.ptr (bOf w) (oOf w)) ∧ rdH h (bOf w) (oOf w) 1 = some [vi (ps.headD 0)] := by
  have e1 := hs.idx 1 .i64 0 hp
  have e2 := hs.loadI 0 hp
  have : ps.headD 0 = ps[0] := by cases ps with | nil => simp at hp | cons a t => rfl
  rw [this]
  exact ⟨by simpa using e1, by simpa using e2⟩
theorem alike1_ok {h : Heap} {v w : V} {c : Hd} {F : List Nat} (hc : HdV h v c F) (hg : goodH c = true) {a : Int} (ha : 0 ≤ a ∧ a ≤ (c.deeds.length : Int) - 1) {ps : List Int} (hp : Sl h w ps) (hpl : 0 < ps.length) (hin : ∀ p ∈ ps, 0 ≤ p ∧ p ≤ c.no - 1)
    {x y : V} (hv : v = .agg [vi c.no, x, y]) {b1 b2 b3 : Nat} (h1 : h[b1]? = some ⟨.own, [vi c.no, x, y]⟩) (h2 : h[b2]? = some ⟨.own, [vi a]⟩) (h3 : h[b3]? = some ⟨.own, [w]⟩) (p : Int) (hp1 : p ∈ ps) :
    ∃ h', call GL.p 566 [vi p, .ptr b1 0, .ptr b2 0, .ptr b3 0] h = some (.bool (!decide (depsL c p a = depsL c (ps.headD 0) a)), h') ∧ Keeps h h' ∧ h.length ≤ h'.length := by
  have hp0 : ps.headD 0 ∈ ps := by cases ps with | nil => simp at hpl | cons a t => simp
  obtain ⟨i0, l0⟩ := head0 hp hpl
  obtain ⟨w1, h4, e4, G4, s4, f4, k4, l4⟩ := depsH_ok hc hg (hin p hp1) ha
  obtain ⟨w2, h5, e5, G5, s5, f5, k5, l5⟩ := depsH_ok (hc.keep k4) hg (hin _ hp0) ha
  have e6 := Equal_eq (s4.keep k5).sl s5.sl
  have r1 : rdH h b1 0 3 = some [vi c.no, x, y] := by rw [rdH_at h1 (by simp)]; rfl
  have r2 : rdH h b2 0 1 = some [vi a] := by rw [rdH_at h2 (by simp)]; rfl
  have r3 : rdH h b3 0 1 = some [w] := by rw [rdH_at h3 (by simp)]; rfl
  have r1' := rdH_keep k4 r1
  have r2' := rdH_keep k4 r2
  have r3' := rdH_keep k4 r3
  have l0' := rdH_keep k4 l0
  subst hv
  obtain ⟨x, h', e, hx, hk, hl⟩ : ∃ r h', call GL.p 566 [vi p, .ptr b1 0, .ptr b2 0, .ptr b3 0] h = some (r, h') ∧ r = .bool (!decide (depsL c p a = depsL c (ps.headD 0) a)) ∧ Keeps h h' ∧ h.length ≤ h'.length := by
    refine go (fn := g566) rfl rfl fun R hR => ?_
    generalize ps.headD 0 = p0 at *
    simp [g566, r1, r2, r3, r1', r2', r3', i0, l0, l0', e4, e5, e6, stable]
    exact hR _ _ ⟨by simp, k4.trans k5, by omega⟩
  exact ⟨h', by rw [e, hx], hk, hl⟩
theorem areAlike_ok {h : Heap} {v w : V} {c : Hd} {F : List Nat} (hc : HdV h v c F) (hg : goodH c = true) {a : Int} (ha : 0 ≤ a ∧ a ≤ (c.deeds.length : Int) - 1) {ps : List Int} (hp : Sl h w ps) (hpl : 0 < ps.length) (hin : ∀ p ∈ ps, 0 ≤ p ∧ p ≤ c.no - 1) :
    ∃ r h', call GL.p 523 [v, vi a, w] h = some (r, h') ∧ r = .bool (alikeB c ps a) ∧ Keeps h h' ∧ h.length ≤ h'.length := by
  have hcc := hc
  obtain ⟨x, y, F1, F2, rfl, rfl, hx, hy⟩ := hc
  have k0 : Keeps h (h ++ [⟨.own, [vi c.no, x, y]⟩, ⟨.own, [vi a]⟩, ⟨.own, [w]⟩]) := Keeps.append _ _
  generalize hh : h ++ [⟨.own, [vi c.no, x, y]⟩, ⟨.own, [vi a]⟩, ⟨.own, [w]⟩] = H at k0
  have hHl : H.length = h.length + 3 := by rw [← hh]; simp
  have b1 : H[h.length]? = some ⟨.own, [vi c.no, x, y]⟩ := by rw [← hh]; simp
  have b2 : H[h.length + 1]? = some ⟨.own, [vi a]⟩ := by rw [← hh]; simp
  have b3 : H[h.length + 2]? = some ⟨.own, [w]⟩ := by rw [← hh]; simp
  have r3 : rdH H (h.length + 2) 0 1 = some [w] := by rw [rdH_at b3 (by simp)]; rfl
  obtain ⟨_, h4, e4, rfl, k4, l4⟩ := containsIg_ok (hp.keeps k0) (f := 566) (capt := [.ptr h.length 0, .ptr (h.length + 1) 0, .ptr (h.length + 2) 0]) (q := fun p => !decide (depsL c p a = depsL c (ps.headD 0) a)) fun h' hk n hn => alike1_ok (hcc.keep (k0.trans hk)) hg ha (hp.keeps (k0.trans hk)) hpl hin rfl (hk _ _ b1 (by simp)) (hk _ _ b2 (by simp)) (hk _ _ b3 (by simp)) n hn
  have ea : (ps.any fun p => !decide (depsL c p a = depsL c (ps.headD 0) a)) = !alikeB c ps a := by rw [alikeB, List.not_all_eq_any_not]
  rw [ea] at e4
  refine go (fn := g523) rfl rfl fun R hR => ?_
  simp [g523, fillL, upd, hx.cells, hx.cell, hy.cells, hy.cell, hp.cells, hp.cell, hh, r3, e4]
  exact hR _ _ ⟨rfl, k0.trans k4, by omega⟩
def fastQ (c : Hd) (a : Int) (ps : List Int) : Bool := goodH c && decide (0 ≤ a ∧ a ≤ (c.deeds.length : Int) - 1) && risB 0 (c.no - 1) ps && decide (c.no.toNat - (c.no.toNat - 1) / 4 ≤ ps.length)
theorem fastQ_facts {c : Hd} {a : Int} {ps : List Int} (h : fastQ c a ps = true) : goodH c = true ∧ (0 ≤ a ∧ a ≤ (c.deeds.length : Int) - 1) ∧ (∀ p ∈ ps, 0 ≤ p ∧ p ≤ c.no - 1) ∧ 0 < ps.length := by
  simp only [fastQ, Bool.and_eq_true, decide_eq_true_eq, risB] at h
  obtain ⟨⟨⟨hg, ha⟩, hr⟩, hl⟩ := h
  obtain ⟨hno, _⟩ := goodH_facts hg
  exact ⟨hg, ha, hr.1, by omega⟩
theorem IsFastOne_ok {h : Heap} {v w : V} {c : Hd} {F : List Nat} (hc : HdV h v c F) {ps : List Int} (hp : Sl h w ps) (a : Int) :
    ∃ r h', call GL.p 447 [v, vi a, w] h = some (r, h') ∧ r = .tup [.bool (fastQ c a ps && alikeB c ps a), .bool (fastQ c a ps)] ∧ Keeps h h' ∧ h.length ≤ h'.length := by
  obtain ⟨_, h1, e1, rfl, k1, l1⟩ := GoodHeard_ok hc
  have hc1 := hc.keep k1
  have e2 := isOneH_eq hc1 a
  have e3 := arePlaces_eq (hp.keeps k1) c.no
  have hcc := hc
  obtain ⟨x, y, F1, F2, rfl, rfl, hx, hy⟩ := hc
  refine go (fn := g447) rfl rfl fun R hR => ?_
  have fin : fastQ c a ps = false → R (.tup [.bool false, .bool false]) h1 := fun hb => hR _ _ ⟨by rw [hb]; rfl, k1, l1⟩
  cases hg : goodH c with
  | false =>
    rw [hg] at e1
    simp [g447, fillL, upd, hx.cells, hx.cell, hy.cells, hy.cell, e1]
    exact fin (by simp [fastQ, hg])
  | true =>
    rw [hg] at e1
    obtain ⟨hno, h8, _, _⟩ := goodH_facts hg
    have hm : manyB c.no = true := by simp only [goodH, Bool.and_eq_true] at hg; exact hg.1.1.1.1
    obtain ⟨n, hn⟩ : ∃ n : Nat, c.no = n := ⟨c.no.toNat, by omega⟩
    have e4 := fast_eq n (by omega) h1
    rw [← hn] at e4
    by_cases ha : 0 ≤ a ∧ a ≤ (c.deeds.length : Int) - 1
    · rw [decide_eq_true ha] at e2
      rw [hm, Bool.true_and] at e3
      cases hr : risB 0 (c.no - 1) ps with
      | false =>
        rw [hr] at e3
        simp [g447, fillL, upd, hx.cells, hx.cell, hy.cells, hy.cell, e1, e2, e3]
        exact fin (by simp [fastQ, hr])
      | true =>
        rw [hr] at e3
        have hq : fastQ c a ps = decide (n - (n - 1) / 4 ≤ ps.length) := by
          have hnn : c.no.toNat = n := by omega
          simp only [fastQ, hg, hr, decide_eq_true ha, Bool.and_self, Bool.true_and, hnn]
        by_cases hl : n - (n - 1) / 4 ≤ ps.length
        · have hl2 : ¬ (ps.length : Int) < ((n - (n - 1) / 4 : Nat) : Int) := by omega
          rw [decide_eq_true hl] at hq
          obtain ⟨_, _, hin, hpl⟩ := fastQ_facts hq
          obtain ⟨_, h5, e5, rfl, k5, l5⟩ := areAlike_ok hc1 hg ha (hp.keeps k1) hpl hin
          simp [g447, fillL, upd, hx.cells, hx.cell, hy.cells, hy.cell, e1, e2, e3, e4, hp.len, hl2, e5]
          exact hR _ _ ⟨by rw [hq]; rfl, k1.trans k5, by omega⟩
        · have hl2 : (ps.length : Int) < ((n - (n - 1) / 4 : Nat) : Int) := by omega
          rw [decide_eq_false hl] at hq
          simp [g447, fillL, upd, hx.cells, hx.cell, hy.cells, hy.cell, e1, e2, e3, e4, hp.len, hl2]
          exact fin hq
    · rw [decide_eq_false ha] at e2
      simp [g447, fillL, upd, hx.cells, hx.cell, hy.cells, hy.cell, e1, e2]
      exact fin (by simp only [fastQ, decide_eq_false ha, Bool.and_false, Bool.false_and])
theorem l13Group_eq {h : Heap} {v w : V} {c : Hd} {F : List Nat} (hc : HdV h v c F) (hg : goodH c = true) {ps : List Int} (hp : Sl h w ps) : call GL.p 522 [v, w] h = some (.bool (risB 0 (c.no - 1) ps && decide (c.no.toNat / 2 + 1 ≤ ps.length)), h) := by
  obtain ⟨x, y, F1, F2, rfl, rfl, hx, hy⟩ := hc
  obtain ⟨hno, h8, _, _⟩ := goodH_facts hg
  have w1 : IntKind.i64.wrap (c.no - 1) = c.no - 1 := by rw [IntWalk.i64_in] <;> omega
  obtain ⟨n, hn⟩ : ∃ n : Nat, c.no = n := ⟨c.no.toNat, by omega⟩
  have e1 := l1Rising_eq hp 0 (c.no - 1)
  have e2 := l11Slow_eq n (by omega) h
  rw [← hn] at e2
  have hnn : c.no.toNat = n := by omega
  rw [hnn]
  refine go_eq (fn := g522) rfl rfl fun R hR => ?_
  cases hr : risB 0 (c.no - 1) ps with
  | false => rw [hr] at e1 hR; simp [g522, fillL, upd, hx.cells, hx.cell, hy.cells, hy.cell, w1, e1]; simpa using hR
  | true =>
    rw [hr] at e1 hR
    have : decide (((n / 2 + 1 : Nat) : Int) ≤ ps.length) = decide (n / 2 + 1 ≤ ps.length) := by congr 1; refine propext ⟨fun h => by omega, fun h => by omega⟩
    simp [g522, fillL, upd, hx.cells, hx.cell, hy.cells, hy.cell, w1, e1, e2, hp.len, this, -Int.natCast_add, -Int.natCast_ediv]; simpa using hR
theorem IsFastOneS_ok {h : Heap} {v w : V} {c : Hd} {F : List Nat} (hc : HdV h v c F) {ps : List Int} (hp : Sl h w ps) (a : Int) :
    ∃ r h', call GL.p 446 [v, vi a, w] h = some (r, h') ∧ r = .tup [.bool (fastQ c a ps && alikeB c ps a), .bool (fastQ c a ps)] ∧ Keeps h h' ∧ h.length ≤ h'.length := by
  have e1 := l13Ok_eq hc a
  have hcc := hc
  obtain ⟨x, y, F1, F2, rfl, rfl, hx, hy⟩ := hc
  refine go (fn := g446) rfl rfl fun R hR => ?_
  have fin : fastQ c a ps = false → R (.tup [.bool false, .bool false]) h := fun hb => hR _ _ ⟨by rw [hb]; rfl, Keeps.refl _, Nat.le_refl _⟩
  cases hk : okH c a with
  | false =>
    rw [hk] at e1
    simp [g446, fillL, upd, hx.cells, hx.cell, hy.cells, hy.cell, e1]
    refine fin ?_
    simp only [okH, Bool.and_eq_false_iff] at hk
    rcases hk with hk | hk <;> simp only [fastQ, hk, Bool.and_false, Bool.false_and]
  | true =>
    rw [hk] at e1
    simp only [okH, Bool.and_eq_true, decide_eq_true_eq] at hk
    obtain ⟨hg, ha⟩ := hk
    obtain ⟨hno, h8, _, _⟩ := goodH_facts hg
    have e2 := l13Group_eq hcc hg hp
    obtain ⟨n, hn⟩ : ∃ n : Nat, c.no = n := ⟨c.no.toNat, by omega⟩
    have hnn : c.no.toNat = n := by omega
    rw [hnn] at e2
    have e3 := l11Fast_eq n (by omega) h
    rw [← hn] at e3
    have hmany : n = 3 ∨ n = 5 ∨ n = 7 ∨ n = 9 := by
      have hm : manyB c.no = true := by simp only [goodH, Bool.and_eq_true] at hg; exact hg.1.1.1.1
      simp only [manyB, Bool.and_eq_true, decide_eq_true_eq] at hm
      have h2 := hm.2
      rw [hn, Int.tmod_eq_emod_of_nonneg (by omega)] at h2
      omega
    cases hq : fastQ c a ps with
    | false =>
      rw [hq] at fin
      have hor : (risB 0 (c.no - 1) ps && decide (n / 2 + 1 ≤ ps.length)) = false ∨ ((ps.length : Int) < ((n - (n - 1) / 4 : Nat) : Int)) := by
        simp only [fastQ, hg, decide_eq_true ha, Bool.true_and, Bool.and_eq_false_iff, decide_eq_false_iff_not, hnn] at hq
        rcases hq with hq | hq
        · left; rw [hq, Bool.false_and]
        · right; omega
      cases hb : (risB 0 (c.no - 1) ps && decide (n / 2 + 1 ≤ ps.length)) with
      | false =>
        rw [hb] at e2
        simp [g446, fillL, upd, hx.cells, hx.cell, hy.cells, hy.cell, e1, e2]
        exact fin rfl
      | true =>
        rcases hor with hor | hor
        · rw [hb] at hor; cases hor
        · rw [hb] at e2
          simp [g446, fillL, upd, hx.cells, hx.cell, hy.cells, hy.cell, e1, e2, e3, hp.len, hor]
          exact fin rfl
    | true =>
      obtain ⟨_, _, hin, hpl⟩ := fastQ_facts hq
      have hq2 := hq
      simp only [fastQ, hg, decide_eq_true ha, Bool.true_and, Bool.and_eq_true, decide_eq_true_eq, hnn] at hq2
      have hs1 : n / 2 + 1 ≤ ps.length := by have := hq2.2; omega
      rw [hq2.1, decide_eq_true hs1] at e2
      have hl2 : ¬ (ps.length : Int) < ((n - (n - 1) / 4 : Nat) : Int) := by have := hq2.2; omega
      have hp0 : ps.headD 0 ∈ ps := by cases ps with | nil => simp at hpl | cons a t => simp
      simp [g446, fillL, upd, hx.cells, hx.cell, hy.cells, hy.cell, e1, e2, e3, hp.len, hl2]
      refine Wc_upM (M := [6, 7, 9, 30, 31, 32, 33, 34, 35, 36, 37, 38, 39, 40, 41, 42, 43, 44, 45, 46]) rfl ps.length (fun i s => s.σ 30 = .v (vi i) ∧ s.L 3 = (1, [vi c.no, x, y]) ∧ (∀ p ∈ ps.take i, depsL c p a = depsL c (ps.headD 0) a) ∧ Keeps h s.h ∧ h.length ≤ s.h.length) 0
        ⟨by simp, by simp [upd], by simp, Keeps.refl _, Nat.le_refl _⟩ fun i s ⟨g30, gL, hall, hk, hl⟩ hM J hJ => ?_
      by_cases hi : i < ps.length
      · have hp' := hp.keeps hk
        have ix := hp.idx 1 .i64 i hi
        simp only [Nat.mul_one] at ix
        have ld := hp'.loadI i hi
        obtain ⟨i0, l0⟩ := head0 hp' hpl
        obtain ⟨w1, h4, e4, G4, s4, f4, k4, l4⟩ := l13At_ok (hcc.keep hk) hg (hin _ (List.getElem_mem hi)) ha
        obtain ⟨w2, h5, e5, G5, s5, f5, k5, l5⟩ := l13At_ok ((hcc.keep hk).keep k4) hg (hin _ hp0) ha
        have e6 := l1Same_eq (s4.keep k5).sl s5.sl
        have l0' := rdH_keep k4 l0
        have st := hp.step hi
        have hts0 := fun e => (all_take_succ (P := fun p => depsL c p a = depsL c (ps.headD 0) a) hi).2 ⟨hall, e⟩
        have hno2 : ¬ depsL c ps[i] a = depsL c (ps.headD 0) a → alikeB c ps a = false := fun hne => List.all_eq_false.2 ⟨_, List.getElem_mem hi, by simpa using hne⟩
        by_cases he : depsL c ps[i] a = depsL c (ps.headD 0) a
        · rw [decide_eq_true he] at e6
          have hts := hts0 he
          clear hts0
          generalize ps[i] = pi at *
          generalize ps.headD 0 = p0 at *
          simp [g446_0, hM, g30, gL, hi, ix, ld, i0, l0, l0', e4, e5, e6, st, stable]
          exact hJ _ hi ⟨by simp, by simp [gL], hts, (hk.trans k4).trans k5, by show h.length ≤ h5.length; omega⟩
        · rw [decide_eq_false he] at e6
          have hb := hno2 he
          generalize ps[i] = pi at *
          generalize ps.headD 0 = p0 at *
          simp [g446_0, hM, g30, gL, hi, ix, ld, i0, l0, l0', e4, e5, e6, stable]
          exact hR _ _ ⟨by rw [hq, hb]; rfl, (hk.trans k4).trans k5, by omega⟩
      · rw [List.take_of_length_le (by omega)] at hall
        have hb : alikeB c ps a = true := List.all_eq_true.2 fun p hp => decide_eq_true (hall p hp)
        simp [g446_0, hM, g30, hi]
        exact hR _ _ ⟨by rw [hq, hb]; rfl, hk, hl⟩
end GL

namespace GL
open Go

theorem FnExactIsFastOne_ok {h : Heap} {va vb : V} {c : Hd} {F : List Nat} (hc : HdV h va c F) {ps : List Int} {F9 : List Nat} (hp : SdF h vb ps F9) (a : Int) : ∃ w h', call p 445 [va, vi a, vb] h = some (w, h') ∧ w = .bool true := by
  refine go (fn := g445) rfl rfl fun R hR => ?_
  obtain ⟨n, en, hn⟩ := szHeard_eq hc (l0 := 1048576) (by decide)
  have hcc := hc
  obtain ⟨x, y, F1, F2, rfl, rfl, hx, hy⟩ := hc
  by_cases hbig : (1048576 : Int) < ps.length
  · simp [g445, fillL, upd, hx.cells, hx.cell, hy.cells, hy.cell, hp.len, hbig]
    exact hR _ _ rfl
  · by_cases hneg : n < 0
    · simp [g445, fillL, upd, hx.cells, hx.cell, hy.cells, hy.cell, hp.len, hbig, en, hneg]
      exact hR _ _ rfl
    · have hsm : smH c := by
        rcases hn with h | h
        · exact absurd h hneg
        · exact ⟨by omega, by omega⟩
      have hpl : ps.length ≤ 2 ^ 20 := by omega
      obtain ⟨r1, h1, e1, G1, c1, f1, k1, l1⟩ := toHeard_ok hcc hsm
      obtain ⟨r2, h2, e2, G2, s2, f2, k2, l2⟩ := toIntS_ok (hp.sl.keeps k1) hpl
      obtain ⟨_, h3, e3, rfl, k3, l3⟩ := IsFastOneS_ok (c1.keep k2) s2.sl a
      have k13 := (k1.trans k2).trans k3
      obtain ⟨r4, h4, e4, G4, c4, f4, k4, l4⟩ := toHeard_ok (hcc.keep k13) hsm
      obtain ⟨r5, h5, e5, G5, s5, f5, k5, l5⟩ := toIntS_ok (hp.sl.keeps (k13.trans k4)) hpl
      obtain ⟨_, h6, e6, rfl, k6, l6⟩ := IsFastOne_ok (c4.keep k5) s5.sl a
      have k16 := ((k13.trans k4).trans k5).trans k6
      obtain ⟨r7, h7, e7, G7, c7, f7, k7, l7⟩ := toHeard_ok (hcc.keep k16) hsm
      have e8 := eqHeard_same (c4.keep ((k5.trans k6).trans k7)) c7
      obtain ⟨r9, h8, e9, G9, s9, f9, k9, l9⟩ := toIntS_ok (hp.sl.keeps (k16.trans k7)) hpl
      have e10 := eqIntS_eq (s5.keep ((k6.trans k7).trans k9)).sl s9.sl
      rw [decide_eq_true rfl] at e10
      generalize (fastQ c a ps && alikeB c ps a) = q1 at *
      generalize fastQ c a ps = q2 at *
      obtain ⟨x1, y1, _, _, rfl, _, p1, t1⟩ := c1
      obtain ⟨x4, y4, _, _, rfl, _, p4, t4⟩ := c4
      obtain ⟨x7, y7, _, _, rfl, _, p7, t7⟩ := c7
      simp [g445, fillL, upd, resV, mkV, hx.cells, hx.cell, hy.cells, hy.cell, hp.len, hbig, p1.cells, p1.cell, t1.cells, t1.cell, p4.cells, p4.cell, t4.cells, t4.cell, p7.cells, p7.cell, t7.cells, t7.cell,
        en, hneg, e1, e2, e3, e4, e5, e6, e7, e8, e9, e10]
      exact hR _ _ rfl
theorem FnExactIsFastOne_law {h : Heap} {x0 x1 x2 : V} {c : Hd} {a : Int} {ps : List Int} {F0 F1 F2 : List Nat} (r0 : RepA h x0 c F0 true) (r1 : RepA h x1 a F1 false) (r2 : RepA h x2 ps F2 false) : ∃ w h', call p 445 [x0, x1, x2] h = some (w, h') ∧ w = .bool true := by
  obtain ⟨vs, rfl, _, x, y, G1, G2, rfl, rfl, hx, hy⟩ := r0
  obtain ⟨u1, rfl, s1, rfl, _⟩ := r1
  obtain ⟨u2, _, e2, v, rfl, hs⟩ := r2
  have e2 := e2 rfl
  injection e2 with e2; subst e2
  exact FnExactIsFastOne_ok (c := c) (F := G1 ++ G2) ⟨x, y, G1, G2, rfl, rfl, hx, hy⟩ hs a
end GL

