import Derived.ChangeArms
import Derived.IntWalk
import Derived.WideShapes
import Derived.Test.YtpmpdfpgkcagnaaGuFnExactDepsAtA
/- What the functions of the law do, on the machine. -/
set_option linter.unusedSimpArgs false
set_option linter.unusedVariables false
set_option linter.unnecessarySimpa false
namespace GL
open Go

def dAt (c : Hd) (x : Int) : Dd := c.deeds.getD x.toNat zD
def clH (c : Hd) (x a : Int) : Bool := clD (dAt c x) (dAt c a)
/-- those that were heard ahead of a, and clash with it -/
def depsPre (c : Hd) (row : List Int) (a : Int) : List Int := (row.takeWhile fun x => !decide (x = a)).filter fun x => clH c x a
def rowAt (c : Hd) (r : Int) : List Int := c.rows.getD r.toNat []
def depsL (c : Hd) (r a : Int) : List Int := srtI (depsPre c (rowAt c r) a)
theorem takeW {row : List Int} {a : Int} {i : Nat} (hall : ∀ x ∈ row.take i, x ≠ a) (h : row.length ≤ i ∨ ∃ hi : i < row.length, row[i] = a) : (row.takeWhile fun x => !decide (x = a)) = row.take i := by
  induction row generalizing i with
  | nil => simp
  | cons y row ih =>
    cases i with
    | zero =>
      rcases h with h | ⟨_, h⟩
      · simp at h
      · simp at h; simp [h]
    | succ i =>
      have hy : y ≠ a := hall y (by simp)
      simp only [List.takeWhile_cons, List.take_succ_cons, decide_eq_false hy, Bool.not_false, if_true]
      rw [ih (i := i) (fun x hx => hall x (by simp [hx]))]
      rcases h with h | ⟨h1, h2⟩
      · simp at h; exact .inl h
      · exact .inr ⟨by simpa using h1, by simpa using h2⟩
theorem goodH_facts {c : Hd} (h : goodH c = true) : (3 ≤ c.no ∧ c.no ≤ 9) ∧ c.deeds.length ≤ 8 ∧ (c.rows.length : Int) = c.no ∧ (∀ r ∈ c.rows, r.length = c.deeds.length ∧ (∀ x ∈ r, 0 ≤ x ∧ x < (c.deeds.length : Int)) ∧ r.Nodup ∧ ∀ j : Nat, j < c.deeds.length → (j : Int) ∈ r) := by
  simp only [goodH, Bool.and_eq_true, decide_eq_true_eq, manyB] at h
  obtain ⟨⟨⟨⟨hm, h8⟩, hr⟩, hd⟩, hrr⟩ := h
  refine ⟨hm.1, h8, hr, fun r hr => ?_⟩
  have h1 := List.all_eq_true.1 hrr r hr
  simp only [rowB, Bool.and_eq_true, decide_eq_true_eq] at h1
  have h2 := h1.2
  rw [onceB_iff h1.1, decide_eq_true_eq] at h2
  have h3 := h1.2
  simp only [onceB, decide_eq_true_eq] at h3
  exact ⟨h1.1, fun x hx => ⟨(h2.1 x hx).1, by have := (h2.1 x hx).2; omega⟩, h3.2, h2.2⟩
theorem srtI_ext {xs ys : List Int} (hn : xs.Nodup) (hy : ys.Pairwise (· < ·)) (hm : ∀ x, x ∈ ys ↔ x ∈ xs) : ys = srtI xs := by
  have hp := srtI_perm xs
  exact rising_ext hy (sorted_nodup (srtI_le xs) (hp.nodup_iff.2 hn)) fun x => by rw [hm, hp.mem_iff]
theorem takeWhile_nodup {xs : List Int} (h : xs.Nodup) (q : Int → Bool) : (xs.takeWhile q).Nodup := List.Sublist.nodup (List.takeWhile_sublist q) h
theorem depsPre_nodup {c : Hd} {row : List Int} (h : row.Nodup) (a : Int) : (depsPre c row a).Nodup := List.Sublist.nodup List.filter_sublist (takeWhile_nodup h _)
theorem depsPre_len (c : Hd) (row : List Int) (a : Int) : (depsPre c row a).length ≤ row.length := Nat.le_trans (List.length_filter_le ..) ((List.takeWhile_sublist _).length_le)

/-- one step of the reading: the deeds at x and at a -/
theorem readD {h : Heap} {x : V} {c : Hd} (hx : Sl h x c.deeds) {k : Int} (hk : 0 ≤ k ∧ k < c.deeds.length) : idxV 2 x (vi k) = some (.ptr (bOf x) (oOf x + k.toNat * 2)) ∧ rdH h (bOf x) (oOf x + k.toNat * 2) 2 = some [vi (dAt c k).key, .bool (dAt c k).wr] := by
  obtain ⟨i, rfl⟩ : ∃ i : Nat, k = i := ⟨k.toNat, by omega⟩
  have hi : i < c.deeds.length := by omega
  have e1 := hx.idx 2 .i64 i hi
  have e2 := hx.loadD i hi
  simp only [dAt, Int.toNat_natCast, List.getD_eq_getElem?_getD, List.getElem?_eq_getElem hi, Option.getD_some]
  exact ⟨e1, e2⟩
theorem readL {h : Heap} {y : V} {ls : List (List Int)} {F : List Nat} (hy : SdF h y ls F) {k : Int} (hk : 0 ≤ k ∧ k < ls.length) : ∃ z G, idxV 1 y (vi k) = some (.ptr (bOf y) (oOf y + k.toNat)) ∧ rdH h (bOf y) (oOf y + k.toNat) 1 = some [z] ∧ SdF h z (ls.getD k.toNat []) G ∧ ∀ b ∈ G, b ∈ F := by
  obtain ⟨i, rfl⟩ : ∃ i : Nat, k = i := ⟨k.toNat, by omega⟩
  have hi : i < ls.length := by omega
  have e1 := hy.idx 1 .i64 i hi
  obtain ⟨z, G, e2, hz, hG⟩ := hy.loadL i hi
  simp only [Nat.mul_one] at e1
  simp only [Int.toNat_natCast, List.getD_eq_getElem?_getD, List.getElem?_eq_getElem hi, Option.getD_some]
  exact ⟨z, G, e1, e2, hz, hG⟩
theorem isOneH_eq {h : Heap} {v : V} {c : Hd} {F : List Nat} (hc : HdV h v c F) (a : Int) : call p 518 [v, vi a] h = some (.bool (decide (0 ≤ a ∧ a ≤ (c.deeds.length : Int) - 1)), h) := by
  obtain ⟨x, y, F1, F2, rfl, rfl, hx, hy⟩ := hc
  have w1 : IntKind.i64.wrap ((c.deeds.length : Int) - 1) = (c.deeds.length : Int) - 1 := by have := hx.bd; rw [IntWalk.i64_in] <;> omega
  refine go_eq (fn := g518) rfl rfl fun R hR => ?_
  simp [g518, fillL, upd, hx.cells, hx.cell, hy.cells, hy.cell, hx.len, w1, -Bool.decide_and]; exact hR
theorem rows_get {c : Hd} (hg : goodH c = true) {r : Int} (hr : 0 ≤ r ∧ r ≤ c.no - 1) : 0 ≤ r ∧ r < (c.rows.length : Int) ∧ c.rows.getD r.toNat [] ∈ c.rows := by
  obtain ⟨_, _, h3, _⟩ := goodH_facts hg
  have hi : r.toNat < c.rows.length := by omega
  refine ⟨hr.1, by omega, ?_⟩
  rw [List.getD_eq_getElem?_getD, List.getElem?_eq_getElem hi]
  exact List.getElem_mem hi
theorem depsH_ok {h : Heap} {v : V} {c : Hd} {F : List Nat} (hc : HdV h v c F) (hg : goodH c = true) {r a : Int} (hr : 0 ≤ r ∧ r ≤ c.no - 1) (ha : 0 ≤ a ∧ a ≤ (c.deeds.length : Int) - 1) :
    ∃ w h', call p 519 [v, vi r, vi a] h = some (w, h') ∧ ∃ G, SdF h' w (depsL c r a) G ∧ Fresh h.length h' G ∧ Keeps h h' ∧ h.length ≤ h'.length := by
  obtain ⟨x, y, F1, F2, rfl, rfl, hx, hy⟩ := hc
  obtain ⟨r0, r1, hmem⟩ := rows_get hg hr
  obtain ⟨_, h8, _, hrows⟩ := goodH_facts hg
  obtain ⟨hlen, hin, hnd, hcov⟩ := hrows _ hmem
  obtain ⟨z, G0, ez1, ez2, hz, _⟩ := readL hy ⟨r0, r1⟩
  unfold depsL
  change SdF h z (rowAt c r) G0 at hz
  change rowAt c r ∈ c.rows at hmem
  change (rowAt c r).length = _ at hlen
  change ∀ x ∈ rowAt c r, _ at hin
  change (rowAt c r).Nodup at hnd
  generalize rowAt c r = row at *
  have k0 : Keeps h (h ++ [⟨.own, []⟩]) := Keeps.append _ _
  obtain ⟨a1, a2⟩ := readD (hx.keep k0).sl (k := a) (by omega)
  have hz0 := rdH_keep k0 ez2
  refine go (fn := g519) rfl rfl fun R hR => ?_
  have fin : ∀ (i : Nat) (w : V) (h1 : Heap), Out h.length h1 w ((row.take i).filter fun x => clH c x a) → (row.takeWhile fun x => !decide (x = a)) = row.take i → Keeps h h1 → h.length ≤ h1.length →
      ∃ h2, call p 340 [w] h1 = some (.tup [], h2) ∧ ∃ G, SdF h2 w (srtI (depsPre c row a)) G ∧ Fresh h.length h2 G ∧ Keeps h h2 ∧ h.length ≤ h2.length := fun i w h1 ho ht hk hl => by
    have he : ((row.take i).filter fun x => clH c x a) = depsPre c row a := by rw [depsPre, ht]
    rw [he] at ho
    obtain ⟨G, sG, fG⟩ := ho.fr
    obtain ⟨_, h2, e2, ys, rfl, s2, p2, o2, k2, l2, ow2⟩ := sortI_ok sG fG.own (Nat.le_trans (depsPre_len c row a) (by omega))
    have hys : ys = srtI (depsPre c row a) := srtI_ext (depsPre_nodup hnd a) (sorted_nodup o2 (p2.nodup_iff.2 (depsPre_nodup hnd a))) fun x => p2.mem_iff
    rw [hys] at s2
    exact ⟨h2, e2, G, s2, ⟨fG.nodup, fG.ge, fun b hb => ow2 b (fG.own b hb)⟩, Keeps.far (n := h.length) hk k2 (Nat.le_refl _) fun i hi hm => by have := fG.ge i hm; omega, by omega⟩
  simp [g519, fillL, upd, hx.cells, hx.cell, hy.cells, hy.cell, ez1, hz0, hz.len]
  refine Wc_upM (M := [7, 9, 17, 18, 19, 20, 21, 22, 23, 24, 25, 26, 27, 28, 29, 30, 31, 32, 33, 34, 35, 36, 37, 38, 39]) rfl row.length (fun i s => s.σ 17 = .v (vi i) ∧ s.L 3 = (1, [vi c.no, x, y]) ∧ (∃ w, s.σ 7 = .v w ∧ Out h.length s.h w ((row.take i).filter fun x => clH c x a)) ∧ (∀ x ∈ row.take i, x ≠ a) ∧ Keeps h s.h ∧ h.length ≤ s.h.length) 0
    ⟨by simp, by simp [upd], ⟨_, by simp; rfl, by simpa using Out.empty (Nat.le_refl _) (by simp)⟩, by simp, k0, by simp⟩ fun i s ⟨g17, gL, ⟨w, g7, ho⟩, hall, hk, hl⟩ hM J hJ => ?_
  by_cases hn : i < row.length
  · have hz' := hz.keep hk
    have ix := hz'.idx 1 .i64 i hn
    have ld := hz'.sl.loadI i hn
    simp only [Nat.mul_one] at ix
    have ht := List.take_succ_eq_append_getElem hn
    by_cases he : row[i] = a
    · obtain ⟨h2, e2, G, q1, q2, q3, q4⟩ := fin i w s.h ho (takeW hall (.inr ⟨hn, he⟩)) hk hl
      have ld2 : rdH s.h (bOf z) (oOf z + i) 1 = some [vi a] := by rw [ld, he]
      simp [g519_0, hM, g17, g7, hn, ix, ld2, upd, e2]
      exact hR _ _ ⟨G, q1, q2, q3, q4⟩
    · have hxi := hin _ (List.getElem_mem hn)
      obtain ⟨b1, b2⟩ := readD (hx.keep hk).sl hxi
      have a2' := rdH_keep hk (readD hx.sl (k := a) (by omega)).2
      have ec := clashing_eq (dAt c row[i]) (dAt c a) s.h
      have ht2 : (row.take (i + 1)).filter (fun x => clH c x a) = (row.take i).filter (fun x => clH c x a) ++ (if clH c row[i] a = true then [row[i]] else []) := by
        rw [ht, List.filter_append, List.filter_cons, List.filter_nil]
      have hall2 : ∀ x ∈ row.take (i + 1), x ≠ a := (all_take_succ hn).2 ⟨hall, he⟩
      have st := hz.step hn
      cases hcl : clH c row[i] a with
      | false =>
        have hcl' : clD (dAt c row[i]) (dAt c a) = false := hcl
        rw [hcl'] at ec
        rw [hcl] at ht2
        generalize row[i] = xi at *
        simp [g519_0, hM, g17, g7, gL, hn, ix, ld, upd, he, b1, b2, a1, a2', ec, st]
        refine hJ _ hn ⟨by simp, by simp [upd, gL], ⟨w, by simp [g7], by rw [ht2]; simpa using ho⟩, hall2, hk, hl⟩
      | true =>
        have hcl' : clD (dAt c row[i]) (dAt c a) = true := hcl
        rw [hcl'] at ec
        rw [hcl] at ht2
        have hle : ((row.take i).filter fun x => clH c x a).length ≤ 2 ^ 20 := Nat.le_trans (List.length_filter_le ..) (by simp; omega)
        obtain ⟨w6, h3, e5, o3, k3, l3⟩ := ho.one row[i] hle
        generalize row[i] = xi at *
        simp [g519_0, hM, g17, g7, gL, hn, ix, ld, upd, he, b1, b2, a1, a2', ec, rdS_last, e5, st]
        refine hJ _ hn ⟨by simp, by simp [upd, gL], ⟨w6, by simp, by rw [ht2]; simpa using o3⟩, hall2, ho.far hk k3 (Nat.le_refl _), by show h.length ≤ h3.length; omega⟩
  · obtain ⟨h2, e2, G, q1, q2, q3, q4⟩ := fin i w s.h ho (takeW hall (.inl (by omega))) hk hl
    simp [g519_0, hM, g17, g7, hn, e2]
    exact hR _ _ ⟨G, q1, q2, q3, q4⟩
end GL

namespace GL
open Go

theorem l13At_ok {h : Heap} {v : V} {c : Hd} {F : List Nat} (hc : HdV h v c F) (hg : goodH c = true) {r a : Int} (hr : 0 ≤ r ∧ r ≤ c.no - 1) (ha : 0 ≤ a ∧ a ≤ (c.deeds.length : Int) - 1) :
    ∃ w h', call p 516 [v, vi r, vi a] h = some (w, h') ∧ ∃ G, SdF h' w (depsL c r a) G ∧ (∀ b ∈ G, h.length ≤ b) ∧ Keeps h h' ∧ h.length ≤ h'.length := by
  obtain ⟨x, y, F1, F2, rfl, rfl, hx, hy⟩ := hc
  obtain ⟨r0, r1, hmem⟩ := rows_get hg hr
  obtain ⟨_, h8, _, hrows⟩ := goodH_facts hg
  obtain ⟨hlen, hin, hnd, hcov⟩ := hrows _ hmem
  obtain ⟨z, G0, ez1, ez2, hz, _⟩ := readL hy ⟨r0, r1⟩
  unfold depsL
  change SdF h z (rowAt c r) G0 at hz
  change rowAt c r ∈ c.rows at hmem
  change (rowAt c r).length = _ at hlen
  change ∀ x ∈ rowAt c r, _ at hin
  change (rowAt c r).Nodup at hnd
  generalize rowAt c r = row at *
  obtain ⟨a1, a2⟩ := readD hx.sl (k := a) (by omega)
  refine go (fn := g516) rfl rfl fun R hR => ?_
  have fin : ∀ (i : Nat) (w : V) (h1 : Heap) (ys : List Int) (G : List Nat), SdF h1 w ys G → ys.Pairwise (· < ·) → (∀ b ∈ G, h.length ≤ b) → (∀ x, x ∈ ys ↔ x ∈ (row.take i).filter fun x => clH c x a) → (row.takeWhile fun x => !decide (x = a)) = row.take i → Keeps h h1 → h.length ≤ h1.length → R w h1 := fun i w h1 ys G hs hp hG hm ht hk hl => by
    have he : ((row.take i).filter fun x => clH c x a) = depsPre c row a := by rw [depsPre, ht]
    rw [he] at hm
    rw [srtI_ext (depsPre_nodup hnd a) hp hm] at hs
    exact hR _ _ ⟨G, hs, hG, hk, hl⟩
  simp [g516, fillL, upd, hx.cells, hx.cell, hy.cells, hy.cell, ez1, ez2, hz.len]
  refine Wc_upM (M := [7, 9, 16, 17, 18, 19, 20, 21, 22, 23, 24, 25, 26, 27, 28, 29, 30, 31, 32, 33, 34, 35, 36, 37]) rfl row.length (fun i s => s.σ 16 = .v (vi i) ∧ s.L 3 = (1, [vi c.no, x, y]) ∧ (∃ w ys G, s.σ 7 = .v w ∧ SdF s.h w ys G ∧ ys.Pairwise (· < ·) ∧ (∀ b ∈ G, h.length ≤ b) ∧ ys.length ≤ i ∧ ∀ x, x ∈ ys ↔ x ∈ (row.take i).filter fun x => clH c x a) ∧ (∀ x ∈ row.take i, x ≠ a) ∧ Keeps h s.h ∧ h.length ≤ s.h.length) 0
    ⟨by simp, by simp [upd], ⟨.nils, [], [], by simp, .nil, by simp, by simp, by simp, by simp⟩, by simp, Keeps.refl _, by simp⟩ fun i s ⟨g16, gL, ⟨w, ys, G, g7, hs, hp, hG, hyl, hm⟩, hall, hk, hl⟩ hM J hJ => ?_
  by_cases hn : i < row.length
  · have hz' := hz.keep hk
    have ix := hz'.idx 1 .i64 i hn
    have ld := hz'.sl.loadI i hn
    simp only [Nat.mul_one] at ix
    have ht := List.take_succ_eq_append_getElem hn
    by_cases he : row[i] = a
    · have f := fin i w s.h ys G hs hp hG hm (takeW hall (.inr ⟨hn, he⟩)) hk hl
      have ld2 : rdH s.h (bOf z) (oOf z + i) 1 = some [vi a] := by rw [ld, he]
      simp [g516_0, hM, g16, g7, hn, ix, ld2, upd]
      exact f
    · have hxi := hin _ (List.getElem_mem hn)
      obtain ⟨b1, b2⟩ := readD (hx.keep hk).sl hxi
      have a2' := rdH_keep hk a2
      have ec := l13Clash_eq (dAt c row[i]) (dAt c a) s.h
      have ht2 : (row.take (i + 1)).filter (fun x => clH c x a) = (row.take i).filter (fun x => clH c x a) ++ (if clH c row[i] a = true then [row[i]] else []) := by
        rw [ht, List.filter_append, List.filter_cons, List.filter_nil]
      have hall2 : ∀ x ∈ row.take (i + 1), x ≠ a := (all_take_succ hn).2 ⟨hall, he⟩
      have st := hz.step hn
      cases hcl : clH c row[i] a with
      | false =>
        have hcl' : clD (dAt c row[i]) (dAt c a) = false := hcl
        rw [hcl'] at ec
        rw [hcl] at ht2
        generalize row[i] = xi at *
        simp [g516_0, hM, g16, g7, gL, hn, ix, ld, upd, he, b1, b2, a1, a2', ec, st]
        refine hJ _ hn ⟨by simp, by simp [upd, gL], ⟨w, ys, G, by simp [g7], hs, hp, hG, by omega, fun x => by rw [ht2, hm]; simp⟩, hall2, hk, hl⟩
      | true =>
        have hcl' : clD (dAt c row[i]) (dAt c a) = true := hcl
        rw [hcl'] at ec
        rw [hcl] at ht2
        obtain ⟨w6, h3, e5, zs, G6, s6, r6, m6, zl, hG6, k3, l3⟩ := l1Put_ok hs hp (by omega) row[i]
        generalize row[i] = xi at *
        simp [g516_0, hM, g16, g7, gL, hn, ix, ld, upd, he, b1, b2, a1, a2', ec, e5, st]
        refine hJ _ hn ⟨by simp, by simp [upd, gL], ⟨w6, zs, G6, by simp, s6, r6, fun b hb => ?_, by omega, fun x => by rw [ht2, m6, hm]; simp⟩, hall2, hk.trans k3, by show h.length ≤ h3.length; omega⟩
        rcases hG6 b hb with h | h
        · exact hG b h
        · omega
  · have f := fin i w s.h ys G hs hp hG hm (takeW hall (.inl (by omega))) hk hl
    simp [g516_0, hM, g16, g7, hn]
    exact f
def okH (c : Hd) (a : Int) : Bool := goodH c && decide (0 ≤ a ∧ a ≤ (c.deeds.length : Int) - 1)
theorem l13Ok_eq {h : Heap} {v : V} {c : Hd} {F : List Nat} (hc : HdV h v c F) (a : Int) : call p 515 [v, vi a] h = some (.bool (okH c a), h) := by
  have e1 := GoodHeardS_eq hc
  obtain ⟨x, y, F1, F2, rfl, rfl, hx, hy⟩ := hc
  have w1 : IntKind.i64.wrap ((c.deeds.length : Int) - 1) = (c.deeds.length : Int) - 1 := by have := hx.bd; rw [IntWalk.i64_in] <;> omega
  refine go_eq (fn := g515) rfl rfl fun R hR => ?_
  cases hg : goodH c with
  | false =>
    rw [hg] at e1
    simp [g515, fillL, upd, hx.cells, hx.cell, hy.cells, hy.cell, e1]; simpa [okH, hg] using hR
  | true =>
    rw [hg] at e1
    simp [g515, fillL, upd, hx.cells, hx.cell, hy.cells, hy.cell, e1, hx.len, w1, -Bool.decide_and]; simpa [okH, hg] using hR
def depB (c : Hd) (r a : Int) : Bool := goodH c && decide (0 ≤ r ∧ r ≤ c.no - 1) && decide (0 ≤ a ∧ a ≤ (c.deeds.length : Int) - 1)
def depR (c : Hd) (r a : Int) : List Int := if depB c r a = true then depsL c r a else []
theorem DepsAt_ok {h : Heap} {v : V} {c : Hd} {F : List Nat} (hc : HdV h v c F) (r a : Int) :
    ∃ w h', call p 442 [v, vi r, vi a] h = some (w, h') ∧ ∃ o G, w = .tup [o, .bool (depB c r a)] ∧ SdF h' o (depR c r a) G ∧ Fresh h.length h' G ∧ Keeps h h' ∧ h.length ≤ h'.length := by
  obtain ⟨_, h1, e1, rfl, k1, l1⟩ := GoodHeard_ok hc
  have hc1 := hc.keep k1
  have e2 := isOneH_eq hc1 a
  have hcc := hc
  obtain ⟨x, y, F1, F2, rfl, rfl, hx, hy⟩ := hc
  have fin : depB c r a = false → ∀ R : V → Heap → Prop, (∀ v h', (∃ o G, v = .tup [o, .bool (depB c r a)] ∧ SdF h' o (depR c r a) G ∧ Fresh h.length h' G ∧ Keeps h h' ∧ h.length ≤ h'.length) → R v h') → R (.tup [.nils, .bool false]) h1 := fun hb R hR => hR _ _ ⟨.nils, [], by rw [hb], by simp [depR, hb]; exact .nil, Fresh.nil, k1, l1⟩
  refine go (fn := g442) rfl rfl fun R hR => ?_
  cases hg : goodH c with
  | false =>
    rw [hg] at e1
    simp [g442, fillL, upd, hx.cells, hx.cell, hy.cells, hy.cell, e1]
    exact fin (by simp [depB, hg]) R hR
  | true =>
    rw [hg] at e1
    obtain ⟨hno, h8, _, _⟩ := goodH_facts hg
    have w1 : IntKind.i64.wrap (c.no - 1) = c.no - 1 := by rw [IntWalk.i64_in] <;> omega
    by_cases hr : 0 ≤ r ∧ r ≤ c.no - 1
    · by_cases ha : 0 ≤ a ∧ a ≤ (c.deeds.length : Int) - 1
      · obtain ⟨w, h2, e3, G, s3, f3, k3, l3⟩ := depsH_ok hc1 hg hr ha
        rw [decide_eq_true ha] at e2
        simp [g442, fillL, upd, hx.cells, hx.cell, hy.cells, hy.cell, e1, w1, hr, e2, e3]
        have hb : depB c r a = true := by simp only [depB, hg, decide_eq_true hr, decide_eq_true ha, Bool.and_self]
        exact hR _ _ ⟨w, G, by rw [hb], by simpa [depR, hb] using s3, f3.mono l1, k1.trans k3, by omega⟩
      · rw [decide_eq_false ha] at e2
        simp [g442, fillL, upd, hx.cells, hx.cell, hy.cells, hy.cell, e1, w1, hr, e2]
        exact fin (by simp only [depB, decide_eq_false ha, Bool.and_false]) R hR
    · have hr2 : decide (0 ≤ r ∧ r ≤ c.no - 1) = false := decide_eq_false hr
      simp [g442, fillL, upd, hx.cells, hx.cell, hy.cells, hy.cell, e1, w1, hr2, -Bool.decide_and]
      exact fin (by simp only [depB, hr2, Bool.and_false, Bool.false_and]) R hR
theorem DepsAtS_ok {h : Heap} {v : V} {c : Hd} {F : List Nat} (hc : HdV h v c F) (r a : Int) :
    ∃ w h', call p 441 [v, vi r, vi a] h = some (w, h') ∧ ∃ o G, w = .tup [o, .bool (depB c r a)] ∧ SdF h' o (depR c r a) G ∧ (∀ b ∈ G, h.length ≤ b) ∧ Keeps h h' ∧ h.length ≤ h'.length := by
  have e1 := l13Ok_eq hc a
  have hcc := hc
  obtain ⟨x, y, F1, F2, rfl, rfl, hx, hy⟩ := hc
  refine go (fn := g441) rfl rfl fun R hR => ?_
  have fin : depB c r a = false → R (.tup [.nils, .bool false]) h := fun hb => hR _ _ ⟨.nils, [], by rw [hb], by simp [depR, hb]; exact .nil, by simp, Keeps.refl _, Nat.le_refl _⟩
  cases hk : okH c a with
  | false =>
    rw [hk] at e1
    simp [g441, fillL, upd, hx.cells, hx.cell, hy.cells, hy.cell, e1]
    refine fin ?_
    simp only [okH, Bool.and_eq_false_iff] at hk
    rcases hk with hk | hk <;> simp only [depB, hk, Bool.and_false, Bool.false_and]
  | true =>
    rw [hk] at e1
    simp only [okH, Bool.and_eq_true, decide_eq_true_eq] at hk
    obtain ⟨hg, ha⟩ := hk
    obtain ⟨hno, h8, _, _⟩ := goodH_facts hg
    have w1 : IntKind.i64.wrap (c.no - 1) = c.no - 1 := by rw [IntWalk.i64_in] <;> omega
    by_cases hr : 0 ≤ r ∧ r ≤ c.no - 1
    · obtain ⟨w, h2, e3, G, s3, f3, k3, l3⟩ := l13At_ok hcc hg hr ha
      simp [g441, fillL, upd, hx.cells, hx.cell, hy.cells, hy.cell, e1, w1, hr, e3]
      have hb : depB c r a = true := by simp only [depB, hg, decide_eq_true hr, decide_eq_true ha, Bool.and_self]
      exact hR _ _ ⟨w, G, by rw [hb], by simpa [depR, hb] using s3, f3, k3, l3⟩
    · have hr2 : decide (0 ≤ r ∧ r ≤ c.no - 1) = false := decide_eq_false hr
      simp [g441, fillL, upd, hx.cells, hx.cell, hy.cells, hy.cell, e1, w1, hr2, -Bool.decide_and]
      exact fin (by simp only [depB, hr2, Bool.and_false, Bool.false_and])
theorem depR_len (c : Hd) (r a : Int) : (depR c r a).length ≤ 8 := by
  unfold depR
  split
  · rename_i hb
    simp only [depB, Bool.and_eq_true, decide_eq_true_eq] at hb
    obtain ⟨_, h8, _, hrows⟩ := goodH_facts hb.1.1
    have h1 := (hrows _ (rows_get hb.1.1 hb.1.2).2.2).1
    rw [depsL, srtI_length]
    have := depsPre_len c (rowAt c r) a
    have : (rowAt c r).length = c.deeds.length := h1
    omega
  · simp

/-! frames -/
theorem szHeard_eq {h : Heap} {v : V} {c : Hd} {F : List Nat} (hc : HdV h v c F) {l0 : Int} (h0 : 0 ≤ l0 ∧ l0 ≤ 2 ^ 20) : ∃ r : Int, call p 439 [v, vi l0] h = some (vi r, h) ∧ (r < 0 ∨ (0 ≤ r ∧ c.deeds.length + (c.rows.length + numN c.rows) + r = l0)) := by
  obtain ⟨x, y, F1, F2, rfl, rfl, hx, hy⟩ := hc
  have e1 := szDeedS_eq hx.sl h0
  by_cases h1 : l0 < c.deeds.length
  · rw [if_pos h1] at e1
    refine ⟨-1, go_eq (fn := g439) rfl rfl fun R hR => ?_, .inl (by decide)⟩
    simp [g439, fillL, upd, hx.cells, hx.cell, hy.cells, hy.cell, e1]; exact hR
  · rw [if_neg h1] at e1
    have n1 : ¬ l0 - (c.deeds.length : Int) < 0 := by omega
    obtain ⟨r, e2, hr⟩ := szIntSS_eq hy (l0 := l0 - c.deeds.length) (by omega)
    by_cases hr0 : r < 0
    · refine ⟨-1, go_eq (fn := g439) rfl rfl fun R hR => ?_, .inl (by decide)⟩
      simp [g439, fillL, upd, hx.cells, hx.cell, hy.cells, hy.cell, e1, n1, e2, hr0]; exact hR
    · refine ⟨r, go_eq (fn := g439) rfl rfl fun R hR => ?_, .inr ?_⟩
      · simp [g439, fillL, upd, hx.cells, hx.cell, hy.cells, hy.cell, e1, n1, e2, hr0]; exact hR
      · rcases hr with h | h
        · exact absurd h hr0
        · omega
/-- small enough -/
def smH (c : Hd) : Prop := c.deeds.length ≤ 2 ^ 20 ∧ c.rows.length + numN c.rows ≤ 2 ^ 20
theorem toHeard_ok {h : Heap} {v : V} {c : Hd} {F : List Nat} (hc : HdV h v c F) (hsm : smH c) : ∃ r h', call p 440 [v] h = some (r, h') ∧ ∃ G, HdV h' r c G ∧ Fresh h.length h' G ∧ Keeps h h' ∧ h.length ≤ h'.length := by
  obtain ⟨x, y, F1, F2, rfl, rfl, hx, hy⟩ := hc
  obtain ⟨a, h1, e1, G1, s1, f1, k1, l1⟩ := toDeedS_ok hx.sl hsm.1
  obtain ⟨b, h2, e2, G2, s2, f2, k2, l2⟩ := toIntSS_ok (hy.keep k1) (by have := hsm.2; omega) fun r hr => by have := numN_mem hr; have := hsm.2; omega
  refine go (fn := g440) rfl rfl fun R hR => ?_
  simp [g440, fillL, upd, hx.cells, hx.cell, hy.cells, hy.cell, e1, e2, resV, mkV, s1.cells, s1.cell, s2.cells, s2.cell]
  exact hR _ _ ⟨G1 ++ G2, ⟨a, b, G1, G2, rfl, rfl, s1.keep k2, s2⟩, f1.app f2 k2 l1, k1.trans k2, by omega⟩
theorem eqHeard_same {h : Heap} {v w : V} {c : Hd} {F G : List Nat} (hc : HdV h v c F) (hd : HdV h w c G) : call p 443 [v, w] h = some (.bool true, h) := by
  obtain ⟨x, y, F1, F2, rfl, rfl, hx, hy⟩ := hc
  obtain ⟨a, b, G1, G2, rfl, rfl, ga, gb⟩ := hd
  have e1 := eqDeedS_same hx.sl ga.sl
  have e2 := eqIntSS_same hy gb
  refine go_eq (fn := g443) rfl rfl fun R hR => ?_
  simp [g443, fillL, upd, hx.cells, hx.cell, hy.cells, hy.cell, ga.cells, ga.cell, gb.cells, gb.cell, e1, e2]; exact hR
theorem markHeard_ok {h : Heap} {v : V} {c : Hd} {F : List Nat} {lo : Nat} (hc : HdV h v c F) (fr : Fresh lo h F) (hsm : smH c) : ∃ r h', call p 444 [v, vi 1] h = some (r, h') ∧ r = vi (1 + 2 * c.deeds.length + numN c.rows) ∧ KeepsP (fun b => b ∉ F) h h' ∧ h'.length = h.length := by
  obtain ⟨x, y, F1, F2, rfl, rfl, hx, hy⟩ := hc
  have hnd := List.nodup_append.1 fr.nodup
  obtain ⟨_, h1, e1, rfl, _, k1, l1, o1⟩ := markDeedS_ok hx (fun b hb => fr.own b (List.mem_append_left _ hb)) (k := 1) (by decide) (by have := hsm.1; omega)
  have hy' := hy.keeps (k1.mono fun b hb hb2 => hnd.2.2 b hb2 b hb rfl)
  obtain ⟨_, h2, e2, rfl, _, k2, l2, _⟩ := markIntSS_ok (lo := lo) hy' ⟨hnd.2.1, fun b hb => fr.ge b (List.mem_append_right _ hb), fun b hb => o1 b (fr.own b (List.mem_append_right _ hb))⟩ (k := 1 + 2 * c.deeds.length) (by have := hsm.1; omega) hsm.2
  refine go (fn := g444) rfl rfl fun R hR => ?_
  simp [g444, fillL, upd, hx.cells, hx.cell, hy.cells, hy.cell, e1, e2]
  exact hR _ _ ⟨rfl, (k1.mono fun b hb hb2 => hb (List.mem_append_left _ hb2)).trans (k2.mono fun b hb hb2 => hb (List.mem_append_right _ hb2)), by omega⟩
end GL

namespace GL
open Go

def Dd.of (p : Int × Bool) : Dd := ⟨p.1, p.2⟩
theorem Dd.of_rep (h : Heap) (p : Int × Bool) (cs : List V) (F : List Nat) (hr : Data.rep h p cs F) : Data.rep h (Dd.of p) cs F := by
  obtain ⟨c, d, F1, F2, rfl, rfl, ⟨rfl, rfl⟩, rfl, rfl⟩ := hr
  exact ⟨rfl, rfl⟩
def Hd.of (p : Int × List Dd × List (List Int)) : Hd := ⟨p.1, p.2.1, p.2.2⟩
theorem Hd.of_rep (h : Heap) (p : Int × List Dd × List (List Int)) (cs : List V) (F : List Nat) (hr : Data.rep h p cs F) : Data.rep h (Hd.of p) cs F := by
  obtain ⟨c, d, F1, F2, rfl, rfl, ⟨rfl, rfl⟩, e, f, G1, G2, rfl, rfl, ⟨x, rfl, hx⟩, ⟨y, rfl, hy⟩⟩ := hr
  exact ⟨x, y, G1, G2, rfl, by simp, hx, hy⟩
theorem FnExactDepsAt_ok {h : Heap} {va : V} {c : Hd} {F : List Nat} (hc : HdV h va c F) (r a : Int) : ∃ w h', call p 438 [va, vi r, vi a] h = some (w, h') ∧ w = .bool true := by
  refine go (fn := g438) rfl rfl fun R hR => ?_
  obtain ⟨n, en, hn⟩ := szHeard_eq hc (l0 := 1048576) (by decide)
  have hcc := hc
  obtain ⟨x, y, F1, F2, rfl, rfl, hx, hy⟩ := hc
  by_cases hneg : n < 0
  · simp [g438, fillL, upd, hx.cells, hx.cell, hy.cells, hy.cell, en, hneg]
    exact hR _ _ rfl
  · have hsm : smH c := by
      rcases hn with h | h
      · exact absurd h hneg
      · exact ⟨by omega, by omega⟩
    obtain ⟨r1, h1, e1, G1, c1, f1, k1, l1⟩ := toHeard_ok hcc hsm
    obtain ⟨_, h2, e2, o2, G2, rfl, s2, f2, k2, l2⟩ := DepsAtS_ok c1 r a
    obtain ⟨r3, h3, e3, G3, c3, f3, k3, l3⟩ := toHeard_ok (hcc.keep (k1.trans k2)) hsm
    obtain ⟨_, h4, e4, o4, G4, rfl, s4, f4, k4, l4⟩ := DepsAt_ok c3 r a
    have s2' := s2.keep (k3.trans k4)
    have e5 := eqIntS_eq s4.sl s2'.sl
    rw [decide_eq_true rfl] at e5
    obtain ⟨r6, h5, e6, G6, c6, f6, k6, l6⟩ := toHeard_ok (hcc.keep (((k1.trans k2).trans k3).trans k4)) hsm
    have e7 := eqHeard_same (c3.keep (k4.trans k6)) c6
    obtain ⟨_, h6, e8, rfl, k8, l8⟩ := markHeard_ok (c3.keep (k4.trans k6)) (f3.keeps ((k4.trans k6).p _)) hsm
    have n4 : ∀ b ∈ G4, b ∉ G3 := fun b hb hb2 => by have := f4.ge b hb; have := c3.lt hb2; omega
    have n2 : ∀ b ∈ G2, b ∉ G3 := fun b hb hb2 => by
      have := f3.ge b hb2
      obtain ⟨_, h9, _⟩ := s2.lt hb
      have := get_lt h9; omega
    have n24 : ∀ b ∈ G2, b ∉ G4 := fun b hb hb2 => by
      have := f4.ge b hb2
      obtain ⟨_, h9, _⟩ := s2.lt hb
      have := get_lt h9; omega
    have s4' := (s4.keep k6).keeps (k8.mono n4)
    have s2'' := (s2'.keep k6).keeps (k8.mono n2)
    have e9 := eqIntS_eq s4'.sl s2''.sl
    rw [decide_eq_true rfl] at e9
    have hlen := depR_len c r a
    have f4' := (f4.keeps (k6.p _)).keeps (k8.mono n4)
    obtain ⟨_, h7, e10, rfl, s10, k10, l10, o10⟩ := markIntS_ok s4' f4'.own (k := 1) (by decide) (by omega)
    have e11 := heldIntS_eq s10.sl (by decide) (by omega)
    have hF3 : ∀ b ∈ F1 ++ F2, b ∉ G3 := fun b hb hb2 => by have := f3.ge b hb2; have := hcc.lt hb; omega
    have hF4 : ∀ b ∈ F1 ++ F2, b ∉ G4 := fun b hb hb2 => by have := f4.ge b hb2; have := hcc.lt hb; omega
    have hc7 := (((hcc.keep ((((k1.trans k2).trans k3).trans k4).trans k6)).keeps (k8.mono hF3)).keeps (k10.mono hF4))
    obtain ⟨r12, h8, e12, G12, c12, f12, k12, l12⟩ := toHeard_ok hc7 hsm
    obtain ⟨_, h9, e13, o13, G13, rfl, s13, f13, k13, l13⟩ := DepsAt_ok c12 r a
    have e14 := eqIntS_eq s13.sl ((s2''.keeps (k10.mono n24)).keep (k12.trans k13)).sl
    rw [decide_eq_true rfl] at e14
    have e15 := heldIntS_eq (s10.keep (k12.trans k13)).sl (by decide) (by omega)
    generalize depB c r a = ok at *
    generalize depR c r a = dl at *
    obtain ⟨x1, y1, _, _, rfl, _, p1, q1⟩ := c1
    obtain ⟨x3, y3, _, _, rfl, _, p3, q3⟩ := c3
    obtain ⟨x6, y6, _, _, rfl, _, p6, q6⟩ := c6
    obtain ⟨x12, y12, _, _, rfl, _, p12, q12⟩ := c12
    have z1 : ¬ 1 + 2 * (c.deeds.length : Int) + (numN c.rows : Int) < 0 := by omega
    have z2 : ¬ 1 + (dl.length : Int) < 0 := by omega
    simp [g438, fillL, upd, resV, mkV, hx.cells, hx.cell, hy.cells, hy.cell, p1.cells, p1.cell, q1.cells, q1.cell, p3.cells, p3.cell, q3.cells, q3.cell, p6.cells, p6.cell, q6.cells, q6.cell, p12.cells, p12.cell, q12.cells, q12.cell,
      en, hneg, e1, e2, e3, e4, e5, e6, e7, e8, e9, e10, e11, e12, e13, e14, e15, z1, z2]
    exact hR _ _ rfl
theorem FnExactDepsAt_law {h : Heap} {x0 x1 x2 : V} {c : Hd} {r a : Int} {F0 F1 F2 : List Nat} (r0 : RepA h x0 c F0 true) (r1 : RepA h x1 r F1 false) (r2 : RepA h x2 a F2 false) : ∃ w h', call p 438 [x0, x1, x2] h = some (w, h') ∧ w = .bool true := by
  obtain ⟨vs, rfl, _, x, y, G1, G2, rfl, rfl, hx, hy⟩ := r0
  obtain ⟨u1, rfl, s1, rfl, _⟩ := r1
  obtain ⟨u2, rfl, s2, rfl, _⟩ := r2
  exact FnExactDepsAt_ok (c := c) (F := G1 ++ G2) ⟨x, y, G1, G2, rfl, rfl, hx, hy⟩ r a
end GL

