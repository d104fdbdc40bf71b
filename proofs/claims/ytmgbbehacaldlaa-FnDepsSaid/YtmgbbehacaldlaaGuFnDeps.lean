import Derived.ChangeArms
import Derived.IntWalk
import Derived.WideShapes
import Derived.Test.YtmgbbehacaldlaaGuFnDepsA
/- What the functions of the law do, on the machine. -/
set_option linter.unusedSimpArgs false
set_option linter.unusedVariables false
set_option linter.unnecessarySimpa false
namespace GL
open Go

def dAt (c : Hd) (x : Int) : Dd := c.deeds.getD x.toNat zD
def clH (c : Hd) (x a : Int) : Bool := clD (dAt c x) (dAt c a)
/-- those that were heard ahead of a, and clash with it -/
def depsPre (c : Hd) (row : List Int) (a : Int) : List Int := (row.takeWhile fun x => !decide (x = a)).filter fun x => clH c x a
def rowAt (c : Hd) (r : Int) : List Int := c.rows.getD r.toNat []
def depsL (c : Hd) (r a : Int) : List Int := srtI (depsPre c (rowAt c r) a)
theorem takeW {row : List Int} {a : Int} {i : Nat} (hall : ∀ x ∈ row.take i, x ≠ a) (h : row.length ≤ i ∨ ∃ hi : i < row.length, row[i] = a) : (row.takeWhile fun x => !decide (x = a)) = row.take i := by
  induction row generalizing i with
  | nil => simp
  | cons y row ih =>
    cases i with
    | zero =>
      rcases h with h | ⟨_, h⟩
      · simp at h
      · simp at h; simp [h]
    | succ i =>
      have hy : y ≠ a := hall y (by simp)
      simp only [List.takeWhile_cons, List.take_succ_cons, decide_eq_false hy, Bool.not_false, if_true]
      rw [ih (i := i) (fun x hx => hall x (by simp [hx]))]
      rcases h with h | ⟨h1, h2⟩
      · simp at h; exact .inl h
      · exact .inr ⟨by simpa using h1, by simpa using h2⟩
theorem goodH_facts {c : Hd} (h : goodH c = true) : (3 ≤ c.no ∧ c.no ≤ 9) ∧ c.deeds.length ≤ 8 ∧ (c.rows.length : Int) = c.no ∧ (∀ r ∈ c.rows, r.length = c.deeds.length ∧ (∀ x ∈ r, 0 ≤ x ∧ x < (c.deeds.length : Int)) ∧ r.Nodup ∧ ∀ j : Nat, j < c.deeds.length → (j : Int) ∈ r) := by
  simp only [goodH, Bool.and_eq_true, decide_eq_true_eq, manyB] at h
  obtain ⟨⟨⟨⟨hm, h8⟩, hr⟩, hd⟩, hrr⟩ := h
  refine ⟨hm.1, h8, hr, fun r hr => ?_⟩
  have h1 := List.all_eq_true.1 hrr r hr
  simp only [rowB, Bool.and_eq_true, decide_eq_true_eq] at h1
  have h2 := h1.2
  rw [onceB_iff h1.1, decide_eq_true_eq] at h2
  have h3 := h1.2
  simp only [onceB, decide_eq_true_eq] at h3
  exact ⟨h1.1, fun x hx => ⟨(h2.1 x hx).1, by have := (h2.1 x hx).2; omega⟩, h3.2, h2.2⟩
theorem srtI_ext {xs ys : List Int} (hn : xs.Nodup) (hy : ys.Pairwise (· < ·)) (hm : ∀ x, x ∈ ys ↔ x ∈ xs) : ys = srtI xs := by
  have hp := srtI_perm xs
  exact rising_ext hy (sorted_nodup (srtI_le xs) (hp.nodup_iff.2 hn)) fun x => by rw [hm, hp.mem_iff]
theorem takeWhile_nodup {xs : List Int} (h : xs.Nodup) (q : Int → Bool) : (xs.takeWhile q).Nodup := List.Sublist.nodup (List.takeWhile_sublist q) h
theorem depsPre_nodup {c : Hd} {row : List Int} (h : row.Nodup) (a : Int) : (depsPre c row a).Nodup := List.Sublist.nodup List.filter_sublist (takeWhile_nodup h _)
theorem depsPre_len (c : Hd) (row : List Int) (a : Int) : (depsPre c row a).length ≤ row.length := Nat.le_trans (List.length_filter_le ..) ((List.takeWhile_sublist _).length_le)

/-- one step of the reading: the deeds at x and at a -/
theorem readD {h : Heap} {x : V} {c : Hd} (hx : Sl h x c.deeds) {k : Int} (hk : 0 ≤ k ∧ k < c.deeds.length) : idxV 2 x (vi k) = some (.ptr (bOf x) (oOf x + k.toNat * 2)) ∧ rdH h (bOf x) (oOf x + k.toNat * 2) 2 = some [vi (dAt c k).key, .bool (dAt c k).wr] := by
  obtain ⟨i, rfl⟩ : ∃ i : Nat, k = i := ⟨k.toNat, by omega⟩
  have hi : i < c.deeds.length := by omega
  have e1 := hx.idx 2 .i64 i hi
  have e2 := hx.loadD i hi
  simp only [dAt, Int.toNat_natCast, List.getD_eq_getElem?_getD, List.getElem?_eq_getElem hi, Option.getD_some]
  exact ⟨e1, e2⟩
theorem readL {h : Heap} {y : V} {ls : List (List Int)} {F : List Nat} (hy : SdF h y ls F) {k : Int} (hk : 0 ≤ k ∧ k < ls.length) : ∃ z G, idxV 1 y (vi k) = some (.ptr (bOf y) (oOf y + k.toNat)) ∧ rdH h (bOf y) (oOf y + k.toNat) 1 = some [z] ∧ SdF h z (ls.getD k.toNat []) G ∧ ∀ b ∈ G, b ∈ F := by
  obtain ⟨i, rfl⟩ : ∃ i : Nat, k = i := ⟨k.toNat, by omega⟩
  have hi : i < ls.length := by omega
  have e1 := hy.idx 1 .i64 i hi
  obtain ⟨z, G, e2, hz, hG⟩ := hy.loadL i hi
  simp only [Nat.mul_one] at e1
  simp only [Int.toNat_natCast, List.getD_eq_getElem?_getD, List.getElem?_eq_getElem hi, Option.getD_some]
  exact ⟨z, G, e1, e2, hz, hG⟩
theorem isOneH_eq {h : Heap} {v : V} {c : Hd} {F : List Nat} (hc : HdV h v c F) (a : Int) : call p 518 [v, vi a] h = some (.bool (decide (0 ≤ a ∧ a ≤ (c.deeds.length : Int) - 1)), h) := by
  obtain ⟨x, y, F1, F2, rfl, rfl, hx, hy⟩ := hc
  have w1 : IntKind.i64.wrap ((c.deeds.length : Int) - 1) = (c.deeds.length : Int) - 1 := by have := hx.bd; rw [IntWalk.i64_in] <;> omega
  refine go_eq (fn := g518) rfl rfl fun R hR => ?_
  simp [g518, fillL, upd, hx.cells, hx.cell, hy.cells, hy.cell, hx.len, w1, -Bool.decide_and]; exact hR
theorem rows_get {c : Hd} (hg : goodH c = true) {r : Int} (hr : 0 ≤ r ∧ r ≤ c.no - 1) : 0 ≤ r ∧ r < (c.rows.length : Int) ∧ c.rows.getD r.toNat [] ∈ c.rows := by
  obtain ⟨_, _, h3, _⟩ := goodH_facts hg
  have hi : r.toNat < c.rows.length := by omega
  refine ⟨hr.1, by omega, ?_⟩
  rw [List.getD_eq_getElem?_getD, List.getElem?_eq_getElem hi]
  exact List.getElem_mem hi
theorem depsH_ok {h : Heap} {v : V} {c : Hd} {F : List Nat} (hc : HdV h v c F) (hg : goodH c = true) {r a : Int} (hr : 0 ≤ r ∧ r ≤ c.no - 1) (ha : 0 ≤ a ∧ a ≤ (c.deeds.length : Int) - 1) :
    ∃ w h', call p 519 [v, vi r, vi a] h = some (w, h') ∧ ∃ G, SdF h' w (depsL c r a) G ∧ Fresh h.length h' G ∧ Keeps h h' ∧ h.length ≤ h'.length := by
  obtain ⟨x, y, F1, F2, rfl, rfl, hx, hy⟩ := hc
  obtain ⟨r0, r1, hmem⟩ := rows_get hg hr
  obtain ⟨_, h8, _, hrows⟩ := goodH_facts hg
  obtain ⟨hlen, hin, hnd, hcov⟩ := hrows _ hmem
  obtain ⟨z, G0, ez1, ez2, hz, _⟩ := readL hy ⟨r0, r1⟩
  unfold depsL
  change SdF h z (rowAt c r) G0 at hz
  change rowAt c r ∈ c.rows at hmem
  change (rowAt c r).length = _ at hlen
  change ∀ x ∈ rowAt c r, _ at hin
  change (rowAt c r).Nodup at hnd
  generalize rowAt c r = row at *
  have k0 : Keeps h (h ++ [⟨.own, []⟩]) := Keeps.append _ _
  obtain ⟨a1, a2⟩ := readD (hx.keep k0).sl (k := a) (by omega)
  have hz0 := rdH_keep k0 ez2
  refine go (fn := g519) rfl rfl fun R hR => ?_
  have fin : ∀ (i : Nat) (w : V) (h1 : Heap), Out h.length h1 w ((row.take i).filter fun x => clH c x a) → (row.takeWhile fun x => !decide (x = a)) = row.take i → Keeps h h1 → h.length ≤ h1.length →
      ∃ h2, call p 340 [w] h1 = some (.tup [], h2) ∧ ∃ G, SdF h2 w (srtI (depsPre c row a)) G ∧ Fresh h.length h2 G ∧ Keeps h h2 ∧ h.length ≤ h2.length := fun i w h1 ho ht hk hl => by
    have he : ((row.take i).filter fun x => clH c x a) = depsPre c row a := by rw [depsPre, ht]
    rw [he] at ho
    obtain ⟨G, sG, fG⟩ := ho.fr
    obtain ⟨_, h2, e2, ys, rfl, s2, p2, o2, k2, l2, ow2⟩ := sortI_ok sG fG.own (Nat.le_trans (depsPre_len c row a) (by omega))
    have hys : ys = srtI (depsPre c row a) := srtI_ext (depsPre_nodup hnd a) (sorted_nodup o2 (p2.nodup_iff.2 (depsPre_nodup hnd a))) fun x => p2.mem_iff
    rw [hys] at s2
    exact ⟨h2, e2, G, s2, ⟨fG.nodup, fG.ge, fun b hb => ow2 b (fG.own b hb)⟩, Keeps.far (n := h.length) hk k2 (Nat.le_refl _) fun i hi hm => by have := fG.ge i hm; omega, by omega⟩
  simp [g519, fillL, upd, hx.cells, hx.cell, hy.cells, hy.cell, ez1, hz0, hz.len]
  refine Wc_upM (M := [7, 9, 17, 18, 19, 20, 21, 22, 23, 24, 25, 26, 27, 28, 29, 30, 31, 32, 33, 34, 35, 36, 37, 38, 39]) rfl row.length (fun i s => s.σ 17 = .v (vi i) ∧ s.L 3 = (1, [vi c.no, x, y]) ∧ (∃ w, s.σ 7 = .v w ∧ Out h.length s.h w ((row.take i).filter fun x => clH c x a)) ∧ (∀ x ∈ row.take i, x ≠ a) ∧ Keeps h s.h ∧ h.length ≤ s.h.length) 0
    ⟨by simp, by simp [upd], ⟨_, by simp; rfl, by simpa using Out.empty (Nat.le_refl _) (by simp)⟩, by simp, k0, by simp⟩ fun i s ⟨g17, gL, ⟨w, g7, ho⟩, hall, hk, hl⟩ hM J hJ => ?_
  by_cases hn : i < row.length
  · have hz' := hz.keep hk
    have ix := hz'.idx 1 .i64 i hn
    have ld := hz'.sl.loadI i hn
    simp only [Nat.mul_one] at ix
    have ht := List.take_succ_eq_append_getElem hn
    by_cases he : row[i] = a
    · obtain ⟨h2, e2, G, q1, q2, q3, q4⟩ := fin i w s.h ho (takeW hall (.inr ⟨hn, he⟩)) hk hl
      have ld2 : rdH s.h (bOf z) (oOf z + i) 1 = some [vi a] := by rw [ld, he]
      simp [g519_0, hM, g17, g7, hn, ix, ld2, upd, e2]
      exact hR _ _ ⟨G, q1, q2, q3, q4⟩
    · have hxi := hin _ (List.getElem_mem hn)
      obtain ⟨b1, b2⟩ := readD (hx.keep hk).sl hxi
      have a2' := rdH_keep hk (readD hx.sl (k := a) (by omega)).2
      have ec := clashing_eq (dAt c row[i]) (dAt c a) s.h
      have ht2 : (row.take (i + 1)).filter (fun x => clH c x a) = (row.take i).filter (fun x => clH c x a) ++ (if clH c row[i] a = true then [row[i]] else []) := by
        rw [ht, List.filter_append, List.filter_cons, List.filter_nil]
      have hall2 : ∀ x ∈ row.take (i + 1), x ≠ a := (all_take_succ hn).2 ⟨hall, he⟩
      have st := hz.step hn
      cases hcl : clH c row[i] a with
      | false =>
        have hcl' : clD (dAt c row[i]) (dAt c a) = false := hcl
        rw [hcl'] at ec
        rw [hcl] at ht2
        generalize row[i] = xi at *
        simp [g519_0, hM, g17, g7, gL, hn, ix, ld, upd, he, b1, b2, a1, a2', ec, st]
        refine hJ _ hn ⟨by simp, by simp [upd, gL], ⟨w, by simp [g7], by rw [ht2]; simpa using ho⟩, hall2, hk, hl⟩
      | true =>
        have hcl' : clD (dAt c row[i]) (dAt c a) = true := hcl
        rw [hcl'] at ec
        rw [hcl] at ht2
        have hle : ((row.take i).filter fun x => clH c x a).length ≤ 2 ^ 20 := Nat.le_trans (List.length_filter_le ..) (by simp; omega)
        obtain ⟨w6, h3, e5, o3, k3, l3⟩ := ho.one row[i] hle
        generalize row[i] = xi at *
        simp [g519_0, hM, g17, g7, gL, hn, ix, ld, upd, he, b1, b2, a1, a2', ec, rdS_last, e5, st]
        refine hJ _ hn ⟨by simp, by simp [upd, gL], ⟨w6, by simp, by rw [ht2]; simpa using o3⟩, hall2, ho.far hk k3 (Nat.le_refl _), by show h.length ≤ h3.length; omega⟩
  · obtain ⟨h2, e2, G, q1, q2, q3, q4⟩ := fin i w s.h ho (takeW hall (.inl (by omega))) hk hl
    simp [g519_0, hM, g17, g7, hn, e2]
    exact hR _ _ ⟨G, q1, q2, q3, q4⟩
end GL

namespace GL
open Go

theorem l13At_ok {h : Heap} {v : V} {c : Hd} {F : List Nat} (hc : HdV h v c F) (hg : goodH c = true) {r a : Int} (hr : 0 ≤ r ∧ r ≤ c.no - 1) (ha : 0 ≤ a ∧ a ≤ (c.deeds.length : Int) - 1) :
    ∃ w h', call p 516 [v, vi r, vi a] h = some (w, h') ∧ ∃ G, SdF h' w (depsL c r a) G ∧ (∀ b ∈ G, h.length ≤ b) ∧ Keeps h h' ∧ h.length ≤ h'.length := by
  obtain ⟨x, y, F1, F2, rfl, rfl, hx, hy⟩ := hc
  obtain ⟨r0, r1, hmem⟩ := rows_get hg hr
  obtain ⟨_, h8, _, hrows⟩ := goodH_facts hg
  obtain ⟨hlen, hin, hnd, hcov⟩ := hrows _ hmem
  obtain ⟨z, G0, ez1, ez2, hz, _⟩ := readL hy ⟨r0, r1⟩
  unfold depsL
  change SdF h z (rowAt c r) G0 at hz
  change rowAt c r ∈ c.rows at hmem
  change (rowAt c r).length = _ at hlen
  change ∀ x ∈ rowAt c r, _ at hin
  change (rowAt c r).Nodup at hnd
  generalize rowAt c r = row at *
  obtain ⟨a1, a2⟩ := readD hx.sl (k := a) (by omega)
  refine go (fn := g516) rfl rfl fun R hR => ?_
  have fin : ∀ (i : Nat) (w : V) (h1 : Heap) (ys : List Int) (G : List Nat), SdF h1 w ys G → ys.Pairwise (· < ·) → (∀ b ∈ G, h.length ≤ b) → (∀ x, x ∈ ys ↔ x ∈ (row.take i).filter fun x => clH c x a) → (row.takeWhile fun x => !decide (x = a)) = row.take i → Keeps h h1 → h.length ≤ h1.length → R w h1 := fun i w h1 ys G hs hp hG hm ht hk hl => by
    have he : ((row.take i).filter fun x => clH c x a) = depsPre c row a := by rw [depsPre, ht]
    rw [he] at hm
    rw [srtI_ext (depsPre_nodup hnd a) hp hm] at hs
    exact hR _ _ ⟨G, hs, hG, hk, hl⟩
  simp [g516, fillL, upd, hx.cells, hx.cell, hy.cells, hy.cell, ez1, ez2, hz.len]
  refine Wc_upM (M := [7, 9, 16, 17, 18, 19, 20, 21, 22, 23, 24, 25, 26, 27, 28, 29, 30, 31, 32, 33, 34, 35, 36, 37]) rfl row.length (fun i s => s.σ 16 = .v (vi i) ∧ s.L 3 = (1, [vi c.no, x, y]) ∧ (∃ w ys G, s.σ 7 = .v w ∧ SdF s.h w ys G ∧ ys.Pairwise (· < ·) ∧ (∀ b ∈ G, h.length ≤ b) ∧ ys.length ≤ i ∧ ∀ x, x ∈ ys ↔ x ∈ (row.take i).filter fun x => clH c x a) ∧ (∀ x ∈ row.take i, x ≠ a) ∧ Keeps h s.h ∧ h.length ≤ s.h.length) 0
    ⟨by simp, by simp [upd], ⟨.nils, [], [], by simp, .nil, by simp, by simp, by simp, by simp⟩, by simp, Keeps.refl _, by simp⟩ fun i s ⟨g16, gL, ⟨w, ys, G, g7, hs, hp, hG, hyl, hm⟩, hall, hk, hl⟩ hM J hJ => ?_
  by_cases hn : i < row.length
  · have hz' := hz.keep hk
    have ix := hz'.idx 1 .i64 i hn
    have ld := hz'.sl.loadI i hn
    simp only [Nat.mul_one] at ix
    have ht := List.take_succ_eq_append_getElem hn
    by_cases he : row[i] = a
    · have f := fin i w s.h ys G hs hp hG hm (takeW hall (.inr ⟨hn, he⟩)) hk hl
      have ld2 : rdH s.h (bOf z) (oOf z + i) 1 = some [vi a] := by rw [ld, he]
      simp [g516_0, hM, g16, g7, hn, ix, ld2, upd]
      exact f
    · have hxi := hin _ (List.getElem_mem hn)
      obtain ⟨b1, b2⟩ := readD (hx.keep hk).sl hxi
      have a2' := rdH_keep hk a2
      have ec := l13Clash_eq (dAt c row[i]) (dAt c a) s.h
      have ht2 : (row.take (i + 1)).filter (fun x => clH c x a) = (row.take i).filter (fun x => clH c x a) ++ (if clH c row[i] a = true then [row[i]] else []) := by
        rw [ht, List.filter_append, List.filter_cons, List.filter_nil]
      have hall2 : ∀ x ∈ row.take (i + 1), x ≠ a := (all_take_succ hn).2 ⟨hall, he⟩
      have st := hz.step hn
      cases hcl : clH c row[i] a with
      | false =>
        have hcl' : clD (dAt c row[i]) (dAt c a) = false := hcl
        rw [hcl'] at ec
        rw [hcl] at ht2
        generalize row[i] = xi at *
        simp [g516_0, hM, g16, g7, gL, hn, ix, ld, upd, he, b1, b2, a1, a2', ec, st]
        refine hJ _ hn ⟨by simp, by simp [upd, gL], ⟨w, ys, G, by simp [g7], hs, hp, hG, by omega, fun x => by rw [ht2, hm]; simp⟩, hall2, hk, hl⟩
      | true =>
        have hcl' : clD (dAt c row[i]) (dAt c a) = true := hcl
        rw [hcl'] at ec
        rw [hcl] at ht2
        obtain ⟨w6, h3, e5, zs, G6, s6, r6, m6, zl, hG6, k3, l3⟩ := l1Put_ok hs hp (by omega) row[i]
        generalize row[i] = xi at *
        simp [g516_0, hM, g16, g7, gL, hn, ix, ld, upd, he, b1, b2, a1, a2', ec, e5, st]
        refine hJ _ hn ⟨by simp, by simp [upd, gL], ⟨w6, zs, G6, by simp, s6, r6, fun b hb => ?_, by omega, fun x => by rw [ht2, m6, hm]; simp⟩, hall2, hk.trans k3, by show h.length ≤ h3.length; omega⟩
        rcases hG6 b hb with h | h
        · exact hG b h
        · omega
  · have f := fin i w s.h ys G hs hp hG hm (takeW hall (.inl (by omega))) hk hl
    simp [g516_0, hM, g16, g7, hn]
    exact f
def okH (c : Hd) (a : Int) : Bool := goodH c && decide (0 ≤ a ∧ a ≤ (c.deeds.length : Int) - 1)
end GL

namespace GL
open Go

def Dd.of (p : Int × Bool) : Dd := ⟨p.1, p.2⟩
def Hd.of (p : Int × List Dd × List (List Int)) : Hd := ⟨p.1, p.2.1, p.2.2⟩
end GL

namespace GL
open Go

theorem l13Group_eq {h : Heap} {v w : V} {c : Hd} {F : List Nat} (hc : HdV h v c F) (hg : goodH c = true) {ps : List Int} (hp : Sl h w ps) : call GL.p 522 [v, w] h = some (.bool (risB 0 (c.no - 1) ps && decide (c.no.toNat / 2 + 1 ≤ ps.length)), h) := by
  obtain ⟨x, y, F1, F2, rfl, rfl, hx, hy⟩ := hc
  obtain ⟨hno, h8, _, _⟩ := goodH_facts hg
  have w1 : IntKind.i64.wrap (c.no - 1) = c.no - 1 := by rw [IntWalk.i64_in] <;> omega
  obtain ⟨n, hn⟩ : ∃ n : Nat, c.no = n := ⟨c.no.toNat, by omega⟩
  have e1 := l1Rising_eq hp 0 (c.no - 1)
  have e2 := l11Slow_eq n (by omega) h
  rw [← hn] at e2
  have hnn : c.no.toNat = n := by omega
  rw [hnn]
  refine go_eq (fn := g522) rfl rfl fun R hR => ?_
  cases hr : risB 0 (c.no - 1) ps with
  | false => rw [hr] at e1 hR; simp [g522, fillL, upd, hx.cells, hx.cell, hy.cells, hy.cell, w1, e1]; simpa using hR
  | true =>
    rw [hr] at e1 hR
    have : decide (((n / 2 + 1 : Nat) : Int) ≤ ps.length) = decide (n / 2 + 1 ≤ ps.length) := by congr 1; refine propext ⟨fun h => by omega, fun h => by omega⟩
    simp [g522, fillL, upd, hx.cells, hx.cell, hy.cells, hy.cell, w1, e1, e2, hp.len, this, -Int.natCast_add, -Int.natCast_ediv]; simpa using hR
end GL

namespace GL
open Go

end GL

namespace GL
open Go

noncomputable def ofL (c : Hd) (a : Int) (ps : List Int) : List Int := ((List.range c.deeds.length).map fun (i : Nat) => (i : Int)).filter fun x => ps.any fun p => decide (x ∈ depsL c p a)
theorem ofL_rising (c : Hd) (a : Int) (ps : List Int) : (ofL c a ps).Pairwise (· < ·) := List.Pairwise.filter _ (range_rising _)
theorem ofL_len (c : Hd) (a : Int) (ps : List Int) : (ofL c a ps).length ≤ c.deeds.length := Nat.le_trans (List.length_filter_le ..) (by simp)
theorem depsL_in {c : Hd} (hg : goodH c = true) {p a : Int} (hp : 0 ≤ p ∧ p ≤ c.no - 1) {x : Int} (hx : x ∈ depsL c p a) : 0 ≤ x ∧ x < c.deeds.length := by
  obtain ⟨_, _, _, hrows⟩ := goodH_facts hg
  obtain ⟨_, hin, _, _⟩ := hrows _ (rows_get hg hp).2.2
  have := (srtI_perm (depsPre c (rowAt c p) a)).mem_iff.1 hx
  exact hin x ((List.takeWhile_sublist _).mem (List.mem_filter.1 this).1)
theorem depsL_len {c : Hd} (hg : goodH c = true) {p a : Int} (hp : 0 ≤ p ∧ p ≤ c.no - 1) : (depsL c p a).length ≤ 8 := by
  obtain ⟨_, h8, _, hrows⟩ := goodH_facts hg
  have h1 := (hrows _ (rows_get hg hp).2.2).1
  rw [depsL, srtI_length]
  have := depsPre_len c (rowAt c p) a
  have : (rowAt c p).length = c.deeds.length := h1
  omega
theorem mem_ofL {c : Hd} (hg : goodH c = true) {a : Int} {ps : List Int} (hin : ∀ p ∈ ps, 0 ≤ p ∧ p ≤ c.no - 1) {x : Int} : x ∈ ofL c a ps ↔ ∃ p ∈ ps, x ∈ depsL c p a := by
  simp only [ofL, List.mem_filter, List.any_eq_true, decide_eq_true_eq]
  constructor
  · exact fun h => h.2
  · rintro ⟨p, hp, hx⟩
    have := depsL_in hg (hin p hp) hx
    exact ⟨List.mem_map.2 ⟨x.toNat, List.mem_range.2 (by omega), by omega⟩, p, hp, hx⟩
theorem ofL_ext {c : Hd} (hg : goodH c = true) {a : Int} {ps : List Int} (hin : ∀ p ∈ ps, 0 ≤ p ∧ p ≤ c.no - 1) {ys : List Int} (hy : ys.Pairwise (· < ·)) (hm : ∀ x, x ∈ ys ↔ ∃ p ∈ ps, x ∈ depsL c p a) : ys = ofL c a ps :=
  rising_ext hy (ofL_rising _ _ _) fun x => by rw [hm, mem_ofL hg hin]
def groupQ (c : Hd) (ps : List Int) : Bool := risB 0 (c.no - 1) ps && decide (c.no.toNat / 2 + 1 ≤ ps.length)
theorem ofL_zero (c : Hd) (a : Int) (ps : List Int) : ofL c a (ps.take 0) = [] := by simp [ofL]
theorem isGroupH_eq {h : Heap} {v w : V} {c : Hd} {F : List Nat} (hc : HdV h v c F) (hg : goodH c = true) {ps : List Int} (hp : Sl h w ps) : call p 525 [v, w] h = some (.bool (groupQ c ps), h) := by
  obtain ⟨x, y, F1, F2, rfl, rfl, hx, hy⟩ := hc
  obtain ⟨hno, h8, _, _⟩ := goodH_facts hg
  have hm : manyB c.no = true := by simp only [goodH, Bool.and_eq_true] at hg; exact hg.1.1.1.1
  obtain ⟨n, hn⟩ : ∃ n : Nat, c.no = n := ⟨c.no.toNat, by omega⟩
  have e1 := arePlaces_eq hp c.no
  rw [hm, Bool.true_and] at e1
  have e2 := slow_eq n (by omega) h
  rw [← hn] at e2
  have hnn : c.no.toNat = n := by omega
  unfold groupQ
  rw [hnn]
  refine go_eq (fn := g525) rfl rfl fun R hR => ?_
  cases hr : risB 0 (c.no - 1) ps with
  | false => rw [hr] at e1 hR; simp [g525, fillL, upd, hx.cells, hx.cell, hy.cells, hy.cell, e1]; simpa using hR
  | true =>
    rw [hr] at e1 hR
    have : decide (((n / 2 + 1 : Nat) : Int) ≤ ps.length) = decide (n / 2 + 1 ≤ ps.length) := by congr 1; refine propext ⟨fun h => by omega, fun h => by omega⟩
    simp [g525, fillL, upd, hx.cells, hx.cell, hy.cells, hy.cell, e1, e2, hp.len, this, -Int.natCast_add, -Int.natCast_ediv]; simpa using hR
theorem allOf_ok {h : Heap} {v w : V} {c : Hd} {F : List Nat} (hc : HdV h v c F) (hg : goodH c = true) {a : Int} (ha : 0 ≤ a ∧ a ≤ (c.deeds.length : Int) - 1) {ps : List Int} (hp : Sl h w ps) (hin : ∀ p ∈ ps, 0 ≤ p ∧ p ≤ c.no - 1) :
    ∃ r h', call p 526 [v, vi a, w] h = some (r, h') ∧ ∃ G, SdF h' r (ofL c a ps) G ∧ Fresh h.length h' G ∧ Keeps h h' ∧ h.length ≤ h'.length := by
  have hcc := hc
  obtain ⟨_, h8, _, _⟩ := goodH_facts hg
  obtain ⟨x, y, F1, F2, rfl, rfl, hx, hy⟩ := hc
  refine go (fn := g526) rfl rfl fun R hR => ?_
  simp [g526, fillL, upd, hx.cells, hx.cell, hy.cells, hy.cell, hp.len]
  refine Wc_upM (M := [7, 9, 13, 14, 15, 16, 17, 18, 19, 20, 21, 22, 23]) rfl ps.length (fun i s => s.σ 13 = .v (vi i) ∧ s.L 3 = (1, [vi c.no, x, y]) ∧ (∃ u G, s.σ 7 = .v u ∧ SdF s.h u (ofL c a (ps.take i)) G ∧ Fresh h.length s.h G) ∧ Keeps h s.h ∧ h.length ≤ s.h.length) 0
    ⟨by simp, by simp [upd], ?_, Keeps.append _ _, by simp⟩ fun i s ⟨g13, gL, ⟨u, G, g7, su, fu⟩, hk, hl⟩ hM J hJ => ?_
  · obtain ⟨G, sG, fG⟩ := (Out.empty (α := Int) (h := h ++ [⟨.own, []⟩]) (lo := h.length) (b := h.length) (Nat.le_refl _) (by simp)).fr
    exact ⟨_, G, by simp; rfl, by rw [ofL_zero]; exact sG, fG⟩
  · by_cases hi : i < ps.length
    · have hp' := hp.keeps hk
      have ix := hp.idx 1 .i64 i hi
      simp only [Nat.mul_one] at ix
      have ld := hp'.loadI i hi
      have hpi := hin _ (List.getElem_mem hi)
      have hti : ∀ p ∈ ps.take i, 0 ≤ p ∧ p ≤ c.no - 1 := fun p hp => hin p (List.mem_of_mem_take hp)
      have hti1 : ∀ p ∈ ps.take (i + 1), 0 ≤ p ∧ p ≤ c.no - 1 := fun p hp => hin p (List.mem_of_mem_take hp)
      obtain ⟨w1, h4, e4, G4, s4, f4, k4, l4⟩ := depsH_ok (hcc.keep hk) hg hpi ha
      have hlo := ofL_len c a (ps.take i)
      have hld := depsL_len (a := a) hg hpi
      obtain ⟨w2, h5, e5, ys, G5, s5, f5, r5, m5, k5, l5⟩ := together_ok (su.keep k4) s4 (by omega)
      have hys : ys = ofL c a (ps.take (i + 1)) := ofL_ext hg hti1 r5 fun x => by
        rw [m5, mem_ofL hg hti]
        constructor
        · rintro (⟨p, hp, hx⟩ | hx)
          · exact ⟨p, (mem_take_succ hi).2 (.inl hp), hx⟩
          · exact ⟨_, (mem_take_succ hi).2 (.inr rfl), hx⟩
        · rintro ⟨p, hp, hx⟩
          rcases (mem_take_succ hi).1 hp with h | rfl
          · exact .inl ⟨p, h, hx⟩
          · exact .inr hx
      rw [hys] at s5
      simp [g526_0, hM, g13, g7, gL, hi, ix, ld, e4, e5, hp.step hi]
      exact hJ _ hi ⟨by simp, by simp [gL], ⟨w2, G5, by simp, s5, f5.mono (by omega)⟩, (hk.trans k4).trans k5, by show h.length ≤ h5.length; omega⟩
    · rw [List.take_of_length_le (by omega)] at su
      simp [g526_0, hM, g13, g7, hi]
      exact hR _ _ ⟨G, su, fu, hk, hl⟩
theorem l13Of_ok {h : Heap} {v w : V} {c : Hd} {F : List Nat} (hc : HdV h v c F) (hg : goodH c = true) {a : Int} (ha : 0 ≤ a ∧ a ≤ (c.deeds.length : Int) - 1) {ps : List Int} (hp : Sl h w ps) (hin : ∀ p ∈ ps, 0 ≤ p ∧ p ≤ c.no - 1) :
    ∃ r h', call p 527 [v, vi a, w] h = some (r, h') ∧ ∃ G, SdF h' r (ofL c a ps) G ∧ (∀ b ∈ G, h.length ≤ b) ∧ Keeps h h' ∧ h.length ≤ h'.length := by
  have hcc := hc
  obtain ⟨_, h8, _, _⟩ := goodH_facts hg
  obtain ⟨x, y, F1, F2, rfl, rfl, hx, hy⟩ := hc
  refine go (fn := g527) rfl rfl fun R hR => ?_
  simp [g527, fillL, upd, hx.cells, hx.cell, hy.cells, hy.cell, hp.len]
  refine Wc_upM (M := [7, 9, 11, 14, 15, 16, 17, 18, 19, 20, 21, 22, 23, 24, 25, 26, 27, 28, 29, 30, 31]) rfl ps.length (fun i s => s.σ 14 = .v (vi i) ∧ s.L 3 = (1, [vi c.no, x, y]) ∧ (∃ u G, s.σ 7 = .v u ∧ SdF s.h u (ofL c a (ps.take i)) G ∧ ∀ b ∈ G, h.length ≤ b) ∧ Keeps h s.h ∧ h.length ≤ s.h.length) 0
    ⟨by simp, by simp [upd], ⟨.nils, [], by simp, by rw [ofL_zero]; exact (SdF.nil : SdF h .nils ([] : List Int) []), by simp⟩, Keeps.refl _, by simp⟩ fun i s ⟨g14, gL, ⟨u, G, g7, su, fu⟩, hk, hl⟩ hM J hJ => ?_
  by_cases hi : i < ps.length
  · have hp' := hp.keeps hk
    have ix := hp.idx 1 .i64 i hi
    simp only [Nat.mul_one] at ix
    have ld := hp'.loadI i hi
    have hpi := hin _ (List.getElem_mem hi)
    have hti : ∀ p ∈ ps.take i, 0 ≤ p ∧ p ≤ c.no - 1 := fun p hp => hin p (List.mem_of_mem_take hp)
    have hti1 : ∀ p ∈ ps.take (i + 1), 0 ≤ p ∧ p ≤ c.no - 1 := fun p hp => hin p (List.mem_of_mem_take hp)
    obtain ⟨w1, h4, e4, G4, s4, f4, k4, l4⟩ := l13At_ok (hcc.keep hk) hg hpi ha
    have hlo := ofL_len c a (ps.take i)
    have hld := depsL_len (a := a) hg hpi
    have hsu4 := su.keep k4
    simp [g527_1, hM, g14, g7, gL, hi, ix, ld, e4, s4.len]
    have hM1 := hM
    refine Wc_upM (M := [7, 11, 23, 24, 25, 26, 27, 28, 29, 30]) rfl (depsL c ps[i] a).length (fun j q => q.σ 23 = .v (vi j) ∧ q.L 3 = (1, [vi c.no, x, y]) ∧ (∃ u ys G, q.σ 7 = .v u ∧ SdF q.h u ys G ∧ (∀ b ∈ G, h.length ≤ b) ∧ ys.Pairwise (· < ·) ∧ ys.length ≤ 8 + j ∧ ∀ z, z ∈ ys ↔ z ∈ ofL c a (ps.take i) ∨ z ∈ (depsL c ps[i] a).take j) ∧ Keeps h4 q.h ∧ h4.length ≤ q.h.length) 0
      ⟨by simp, by simp [gL], ⟨u, ofL c a (ps.take i), G, by simp [g7], hsu4, fu, ofL_rising _ _ _, by omega, by simp⟩, Keeps.refl _, Nat.le_refl _⟩ fun j q ⟨g23, gL', ⟨u', ys, G', g7', su', fu', r', yl', m'⟩, hk', hl'⟩ hM J2 hJ2 => ?_
    by_cases hj : j < (depsL c ps[i] a).length
    · have s4' := s4.keep hk'
      have ij := s4.idx 1 .i64 j hj
      simp only [Nat.mul_one] at ij
      have lj := s4'.sl.loadI j hj
      obtain ⟨w6, h6, e6, zs, G6, s6, r6, m6, zl, hG6, k6, l6⟩ := l1Put_ok su' r' (by omega) (depsL c ps[i] a)[j]
      have st := s4.step hj
      have hmt : ∀ z, z ∈ (depsL c ps[i] a).take (j + 1) ↔ z ∈ (depsL c ps[i] a).take j ∨ z = (depsL c ps[i] a)[j] := fun z => mem_take_succ hj
      generalize (depsL c ps[i] a)[j] = dj at *
      simp [g527_0, hM, hM1, g23, g7', hj, ij, lj, e6, st]
      refine hJ2 _ hj ⟨by simp, by simp [gL'], ⟨w6, zs, G6, by simp, s6, fun b hb => ?_, r6, by omega, fun z => by rw [m6, m', hmt, or_assoc]⟩, hk'.trans k6, by show h4.length ≤ h6.length; omega⟩
      rcases hG6 b hb with h | h
      · exact fu' b h
      · omega
    · rw [List.take_of_length_le (l := depsL c ps[i] a) (by omega)] at m'
      have hys : ys = ofL c a (ps.take (i + 1)) := ofL_ext hg hti1 r' fun x => by
        rw [m', mem_ofL hg hti]
        constructor
        · rintro (⟨p, hp, hx⟩ | hx)
          · exact ⟨p, (mem_take_succ hi).2 (.inl hp), hx⟩
          · exact ⟨_, (mem_take_succ hi).2 (.inr rfl), hx⟩
        · rintro ⟨p, hp, hx⟩
          rcases (mem_take_succ hi).1 hp with h | rfl
          · exact .inl ⟨p, h, hx⟩
          · exact .inr hx
      rw [hys] at su'
      simp [g527_0, hM, hM1, g23, g14, g7', hj, hp.step hi]
      exact hJ _ hi ⟨by simp, by simp [gL'], ⟨u', G', by simp [g7'], su', fu'⟩, (hk.trans k4).trans hk', by show h.length ≤ q.h.length; omega⟩
  · rw [List.take_of_length_le (by omega)] at su
    simp [g527_1, hM, g14, g7, hi]
    exact hR _ _ ⟨G, su, fu, hk, hl⟩
def ofB (c : Hd) (a : Int) (ps : List Int) : Bool := okH c a && groupQ c ps
noncomputable def ofR (c : Hd) (a : Int) (ps : List Int) : List Int := if ofB c a ps = true then ofL c a ps else []
theorem ofB_facts {c : Hd} {a : Int} {ps : List Int} (h : ofB c a ps = true) : goodH c = true ∧ (0 ≤ a ∧ a ≤ (c.deeds.length : Int) - 1) ∧ ∀ p ∈ ps, 0 ≤ p ∧ p ≤ c.no - 1 := by
  simp only [ofB, okH, groupQ, Bool.and_eq_true, decide_eq_true_eq, risB] at h
  exact ⟨h.1.1, h.1.2, h.2.1.1⟩
theorem DepsOf_ok {h : Heap} {v w : V} {c : Hd} {F : List Nat} (hc : HdV h v c F) (a : Int) {ps : List Int} (hp : Sl h w ps) :
    ∃ r h', call p 450 [v, vi a, w] h = some (r, h') ∧ ∃ o G, r = .tup [o, .bool (ofB c a ps)] ∧ SdF h' o (ofR c a ps) G ∧ Fresh h.length h' G ∧ Keeps h h' ∧ h.length ≤ h'.length := by
  obtain ⟨_, h1, e1, rfl, k1, l1⟩ := GoodHeard_ok hc
  have hc1 := hc.keep k1
  have e2 := isOneH_eq hc1 a
  obtain ⟨x, y, F1, F2, rfl, rfl, hx, hy⟩ := hc
  refine go (fn := g450) rfl rfl fun R hR => ?_
  have fin : ofB c a ps = false → R (.tup [.nils, .bool false]) h1 := fun hb => hR _ _ ⟨.nils, [], by rw [hb], by simp [ofR, hb]; exact .nil, Fresh.nil, k1, l1⟩
  cases hg : goodH c with
  | false =>
    rw [hg] at e1
    simp [g450, fillL, upd, hx.cells, hx.cell, hy.cells, hy.cell, e1]
    exact fin (by simp [ofB, okH, hg])
  | true =>
    rw [hg] at e1
    have e3 := isGroupH_eq hc1 hg (hp.keeps k1)
    by_cases ha : 0 ≤ a ∧ a ≤ (c.deeds.length : Int) - 1
    · rw [decide_eq_true ha] at e2
      have hok : okH c a = true := by simp only [okH, hg, decide_eq_true ha, Bool.and_self]
      cases hq : groupQ c ps with
      | false =>
        rw [hq] at e3
        simp [g450, fillL, upd, hx.cells, hx.cell, hy.cells, hy.cell, e1, e2, e3]
        exact fin (by simp [ofB, hq])
      | true =>
        rw [hq] at e3
        have hb : ofB c a ps = true := by simp [ofB, hok, hq]
        obtain ⟨r, h4, e4, G, s4, f4, k4, l4⟩ := allOf_ok hc1 hg ha (hp.keeps k1) (ofB_facts hb).2.2
        simp [g450, fillL, upd, hx.cells, hx.cell, hy.cells, hy.cell, e1, e2, e3, e4]
        exact hR _ _ ⟨r, G, by rw [hb], by simpa [ofR, hb] using s4, f4.mono l1, k1.trans k4, by omega⟩
    · rw [decide_eq_false ha] at e2
      simp [g450, fillL, upd, hx.cells, hx.cell, hy.cells, hy.cell, e1, e2]
      exact fin (by simp only [ofB, okH, decide_eq_false ha, Bool.and_false, Bool.false_and])
end GL

namespace GL
open Go

end GL

namespace GL
open Go

theorem Od.one {α : Type} [Data α] {lo : Nat} {h h1 : Heap} {v : V} {xs : List α} {G G' : List Nat} (od : Od lo h v xs G) (k1 : Keeps h h1) (l1 : h.length ≤ h1.length) (hG : ∀ b ∈ G', h.length ≤ b) {x : α} {cs : List V} (hr : Data.rep h1 x cs G') (hx : xs.length ≤ 2 ^ 20) {k bytes : Nat} (hk : k = Data.sz α) (hb : bytes ≤ 2 ^ 8) :
    ∃ v' h2, appH k bytes v 1 cs (h1 ++ [⟨.own, cs⟩]) = some (v', h2) ∧ Od lo h2 v' (xs ++ [x]) (G ++ G') ∧ (∀ h0 : Heap, Keeps h0 h → h0.length ≤ lo → Keeps h0 h2) ∧ h1.length < h2.length := by
  have hge := fun i (hi : vB v i) => od.ge hi
  have kl : Keeps h1 (h1 ++ [⟨.own, cs⟩]) := Keeps.append h1 _
  have od1 : Od lo (h1 ++ [⟨.own, cs⟩]) v xs G := od.keeps ((k1.trans kl).p fun _ => True) (fun _ _ => trivial) (fun _ _ => trivial) (by simp; omega)
  have hnv : ∀ b ∈ G', ¬ vB v b := fun b hb hv => by have := (hge b hv).2; have := hG b hb; omega
  obtain ⟨v', h2, e, o2, kp, l2, b2⟩ := od1.app (zs := [x]) (G := G') (by simp) (.one (Data.keeps hr (kl.p _))) hnv hb (by simp; omega) hk rfl
  have k2 : KeepsP (fun i => ¬ vB v i) h1 h2 := fun i blk hi h3 h4 => kp i blk hi (kl i blk h3 h4) h4
  exact ⟨v', h2, e, o2, fun h0 hk0 hl0 => Keeps.far (n := lo) (hk0.trans k1) k2 hl0 fun i hi hv => by have := (hge i hv).1; omega, by simp at l2; omega⟩

def allQ (c : Hd) (gs : List (List Int)) : Bool := goodH c && decide (gs.length = c.deeds.length) && gs.all (groupQ c)
noncomputable def allP (c : Hd) (gs : List (List Int)) (n : Nat) : List (List Int) := (List.range n).map fun (i : Nat) => ofL c (i : Int) (gs.getD i [])
noncomputable def linksR (c : Hd) (gs : List (List Int)) : List (List Int) := if allQ c gs = true then allP c gs gs.length else []
theorem allP_succ (c : Hd) (gs : List (List Int)) (n : Nat) (hn : n < gs.length) : allP c gs (n + 1) = allP c gs n ++ [ofL c (n : Int) gs[n]] := by
  simp only [allP, List.range_succ, List.map_append, List.map_cons, List.map_nil, List.getD_eq_getElem?_getD, List.getElem?_eq_getElem hn, Option.getD_some]
theorem groupQ_in {c : Hd} {ps : List Int} (h : groupQ c ps = true) : ∀ p ∈ ps, 0 ≤ p ∧ p ≤ c.no - 1 := by
  simp only [groupQ, Bool.and_eq_true, decide_eq_true_eq, risB] at h
  exact h.1.1
theorem AllDeps_ok {h : Heap} {v w : V} {c : Hd} {F F9 : List Nat} (hc : HdV h v c F) {gs : List (List Int)} (hp : SdF h w gs F9) :
    ∃ r h', call p 462 [v, w] h = some (r, h') ∧ ∃ o G, r = .tup [o, .bool (allQ c gs)] ∧ SdF h' o (linksR c gs) G ∧ Fresh h.length h' G ∧ Keeps h h' ∧ h.length ≤ h'.length := by
  obtain ⟨_, h1, e1, rfl, k1, l1⟩ := GoodHeard_ok hc
  have hc1 := hc.keep k1
  have hcc := hc1
  obtain ⟨x, y, F1, F2, rfl, rfl, hx, hy⟩ := hc1
  refine go (fn := g462) rfl rfl fun R hR => ?_
  have fin : ∀ h', allQ c gs = false → Keeps h h' → h.length ≤ h'.length → R (.tup [.nils, .bool false]) h' := fun h' hb hk hl => hR _ _ ⟨.nils, [], by rw [hb], by simp [linksR, hb]; exact .nil, Fresh.nil, hk, hl⟩
  cases hg : goodH c with
  | false =>
    rw [hg] at e1
    simp [g462, fillL, upd, hx.cells, hx.cell, hy.cells, hy.cell, e1]
    exact fin _ (by simp [allQ, hg]) k1 l1
  | true =>
    rw [hg] at e1
    by_cases hl : gs.length = c.deeds.length
    · have hl2 : (gs.length : Int) = c.deeds.length := by omega
      simp [g462, fillL, upd, hx.cells, hx.cell, hy.cells, hy.cell, e1, hp.len, hx.len, hl2]
      obtain ⟨_, h8, _⟩ := goodH_facts hg
      have hlen0 : ((c.deeds.length : Nat) : Int) = (gs.length : Int) := hl2.symm
      rw [← hl]
      refine Wc_upM (M := [4, 5, 6, 7, 8, 23, 24, 25, 26, 27, 28, 29, 30, 31, 32, 33, 34, 35, 36, 37, 38, 39]) rfl gs.length (fun i s => i ≤ gs.length ∧ s.σ 23 = .v (vi i) ∧ s.L 2 = (1, [vi c.no, x, y]) ∧ (∃ u G, s.σ 6 = .v u ∧ OdF h1.length s.h u (allP c gs i) G) ∧ (∀ g ∈ gs.take i, groupQ c g = true) ∧ Keeps h1 s.h ∧ h1.length ≤ s.h.length) 0
        ⟨by omega, by simp, by simp [upd], ⟨_, [], by simp; rfl, by simpa [allP] using OdF.empty (Nat.le_refl _) (by simp)⟩, by simp, Keeps.append _ _, by simp⟩ fun i s ⟨gi, g23, gL, ⟨u, G, g6, ou⟩, hall, hk, hln⟩ hM J hJ => ?_
      by_cases hi : i < gs.length
      · obtain ⟨z, F3, ez, hz, _⟩ := (hp.keep (k1.trans hk)).loadL i hi
        have iz := hp.idx 1 .i64 i hi
        simp only [Nat.mul_one] at iz
        have e2 := isGroupH_eq (hcc.keep hk) hg hz.sl
        cases hq : groupQ c gs[i] with
        | false =>
          rw [hq] at e2
          simp [g462_0, hM, g23, g6, gL, hi, iz, ez, e2]
          have : (gs.all (groupQ c)) = false := List.all_eq_false.2 ⟨_, List.getElem_mem hi, by simp [hq]⟩
          exact fin _ (by simp only [allQ, this, Bool.and_false]) (k1.trans hk) (by omega)
        | true =>
          rw [hq] at e2
          obtain ⟨r4, h4, e4, G4, s4, f4, k4, l4⟩ := allOf_ok (hcc.keep hk) hg (a := (i : Int)) (by omega) hz.sl (groupQ_in hq)
          have hpl : (allP c gs i).length ≤ 2 ^ 20 := by simp [allP]; omega
          obtain ⟨v6, h5, e5, o5, kk5, l5⟩ := ou.one k4 l4 f4 (x := ofL c (i : Int) gs[i]) (cs := [r4]) ⟨r4, rfl, s4⟩ hpl (k := 1) (bytes := 24) rfl (by decide)
          rw [← allP_succ c gs i hi] at o5
          simp [g462_0, hM, g23, g6, gL, hi, iz, ez, e2, e4, s4.cells, s4.cell, fillL, rdS_last, e5, hp.step hi]
          exact hJ _ hi ⟨hi, by simp, by simp [gL], ⟨v6, _, by simp, o5⟩, (all_take_succ hi).2 ⟨hall, hq⟩, kk5 _ hk (Nat.le_refl _), by show h1.length ≤ h5.length; omega⟩
      · have : i = gs.length := by omega
        subst this
        rw [List.take_length] at hall
        have hb : allQ c gs = true := by simp only [allQ, hg, hl, decide_true, Bool.true_and]; exact List.all_eq_true.2 hall
        obtain ⟨G9, s9, f9⟩ := ou.fresh
        simp [g462_0, hM, g23, g6]
        exact hR _ _ ⟨u, G9, by rw [hb], by simpa [linksR, hb] using s9, f9.mono l1, k1.trans hk, by omega⟩
    · have hl2 : ¬ (gs.length : Int) = c.deeds.length := by omega
      simp [g462, fillL, upd, hx.cells, hx.cell, hy.cells, hy.cell, e1, hp.len, hx.len, hl2]
      exact fin _ (by simp [allQ, hl]) k1 l1
theorem AllDepsS_ok {h : Heap} {v w : V} {c : Hd} {F F9 : List Nat} (hc : HdV h v c F) {gs : List (List Int)} (hp : SdF h w gs F9) :
    ∃ r h', call p 463 [v, w] h = some (r, h') ∧ ∃ o G, r = .tup [o, .bool (allQ c gs)] ∧ SdF h' o (linksR c gs) G ∧ Keeps h h' ∧ h.length ≤ h'.length := by
  have e1 := GoodHeardS_eq hc
  have hcc := hc
  obtain ⟨x, y, F1, F2, rfl, rfl, hx, hy⟩ := hc
  refine go (fn := g463) rfl rfl fun R hR => ?_
  have fin : ∀ h', allQ c gs = false → Keeps h h' → h.length ≤ h'.length → R (.tup [.nils, .bool false]) h' := fun h' hb hk hl => hR _ _ ⟨.nils, [], by rw [hb], by simp [linksR, hb]; exact .nil, hk, hl⟩
  cases hg : goodH c with
  | false =>
    rw [hg] at e1
    simp [g463, fillL, upd, hx.cells, hx.cell, hy.cells, hy.cell, e1]
    exact fin _ (by simp [allQ, hg]) (Keeps.refl _) (Nat.le_refl _)
  | true =>
    rw [hg] at e1
    by_cases hl : gs.length = c.deeds.length
    · have hl2 : (gs.length : Int) = c.deeds.length := by omega
      simp [g463, fillL, upd, hx.cells, hx.cell, hy.cells, hy.cell, e1, hp.len, hx.len, hl2]
      obtain ⟨_, h8, _⟩ := goodH_facts hg
      rw [← hl]
      refine Wc_upM (M := [4, 5, 6, 7, 8, 22, 23, 24, 25, 26, 27, 28, 29, 30, 31, 32, 33, 34, 35, 36, 37, 38]) rfl gs.length (fun i s => i ≤ gs.length ∧ s.σ 22 = .v (vi i) ∧ s.L 2 = (1, [vi c.no, x, y]) ∧ (∃ u G, s.σ 6 = .v u ∧ Od h.length s.h u (allP c gs i) G) ∧ (∀ g ∈ gs.take i, groupQ c g = true) ∧ Keeps h s.h ∧ h.length ≤ s.h.length) 0
        ⟨by omega, by simp, by simp [upd], ⟨.nils, [], by simp, by simpa [allP] using Od.nil (Nat.le_refl _)⟩, by simp, Keeps.refl _, by simp⟩ fun i s ⟨gi, g22, gL, ⟨u, G, g6, ou⟩, hall, hk, hln⟩ hM J hJ => ?_
      by_cases hi : i < gs.length
      · obtain ⟨z, F3, ez, hz, _⟩ := (hp.keep hk).loadL i hi
        have iz := hp.idx 1 .i64 i hi
        simp only [Nat.mul_one] at iz
        have e2 := l13Group_eq (hcc.keep hk) hg hz.sl
        rw [show (risB 0 (c.no - 1) gs[i] && decide (c.no.toNat / 2 + 1 ≤ gs[i].length)) = groupQ c gs[i] from rfl] at e2
        cases hq : groupQ c gs[i] with
        | false =>
          rw [hq] at e2
          simp [g463_0, hM, g22, g6, gL, hi, iz, ez, e2]
          have : (gs.all (groupQ c)) = false := List.all_eq_false.2 ⟨_, List.getElem_mem hi, by simp [hq]⟩
          exact fin _ (by simp only [allQ, this, Bool.and_false]) hk hln
        | true =>
          rw [hq] at e2
          obtain ⟨r4, h4, e4, G4, s4, f4, k4, l4⟩ := l13Of_ok (hcc.keep hk) hg (a := (i : Int)) (by omega) hz.sl (groupQ_in hq)
          have hpl : (allP c gs i).length ≤ 2 ^ 20 := by simp [allP]; omega
          obtain ⟨v6, h5, e5, o5, kk5, l5⟩ := ou.one k4 l4 f4 (x := ofL c (i : Int) gs[i]) (cs := [r4]) ⟨r4, rfl, s4⟩ hpl (k := 1) (bytes := 24) rfl (by decide)
          rw [← allP_succ c gs i hi] at o5
          simp [g463_0, hM, g22, g6, gL, hi, iz, ez, e2, e4, s4.cells, s4.cell, fillL, rdS_last, e5, hp.step hi]
          exact hJ _ hi ⟨hi, by simp, by simp [gL], ⟨v6, _, by simp, o5⟩, (all_take_succ hi).2 ⟨hall, hq⟩, kk5 _ hk (Nat.le_refl _), by show h.length ≤ h5.length; omega⟩
      · have : i = gs.length := by omega
        subst this
        rw [List.take_length] at hall
        have hb : allQ c gs = true := by simp only [allQ, hg, hl, decide_true, Bool.true_and]; exact List.all_eq_true.2 hall
        obtain ⟨G9, s9, _⟩ := ou.sd
        simp [g463_0, hM, g22, g6]
        exact hR _ _ ⟨u, G9, by rw [hb], by simpa [linksR, hb] using s9, hk, hln⟩
    · have hl2 : ¬ (gs.length : Int) = c.deeds.length := by omega
      simp [g463, fillL, upd, hx.cells, hx.cell, hy.cells, hy.cell, e1, hp.len, hx.len, hl2]
      exact fin _ (by simp [allQ, hl]) (Keeps.refl _) (Nat.le_refl _)

/-! a house: a heard log, and a group for each of its deeds -/
structure Hs where
  heard : Hd
  groups : List (List Int)
instance hsData : Data Hs where
  sz := 4
  pos := by decide
  rep := fun h c cs F => ∃ x y z F1 F2 F3, cs = [vi c.heard.no, x, y, z] ∧ F = F1 ++ F2 ++ F3 ∧ SdF h x c.heard.deeds F1 ∧ SdF h y c.heard.rows F2 ∧ SdF h z c.groups F3
  len := by rintro h a cs F ⟨x, y, z, F1, F2, F3, rfl, _⟩; rfl
  ok := by rintro h a cs F ⟨x, y, z, F1, F2, F3, rfl, _, h1, h2, h3⟩; simp [allCell, h1.cell, h2.cell, h3.cell, cell_int]
  keeps := by
    rintro h h' a cs F ⟨x, y, z, F1, F2, F3, rfl, rfl, h1, h2, h3⟩ hk
    exact ⟨x, y, z, F1, F2, F3, rfl, rfl, h1.keeps (hk.mono fun b hb => by simp [hb]), h2.keeps (hk.mono fun b hb => by simp [hb]), h3.keeps (hk.mono fun b hb => by simp [hb])⟩
  lt := by
    rintro h a cs F b ⟨x, y, z, F1, F2, F3, rfl, rfl, h1, h2, h3⟩ hb
    rcases List.mem_append.1 hb with hb | hb
    · rcases List.mem_append.1 hb with hb | hb
      · exact h1.lt hb
      · exact h2.lt hb
    · exact h3.lt hb
def HsV (h : Heap) (v : V) (c : Hs) (F : List Nat) : Prop := ∃ x y z F1 F2 F3, v = .agg [vi c.heard.no, x, y, z] ∧ F = F1 ++ F2 ++ F3 ∧ SdF h x c.heard.deeds F1 ∧ SdF h y c.heard.rows F2 ∧ SdF h z c.groups F3
section
variable {h h' : Heap} {v w : V} {c : Hs} {F G : List Nat}
theorem HsV.keeps (hc : HsV h v c F) (hk : KeepsP (fun b => b ∈ F) h h') : HsV h' v c F := by
  obtain ⟨x, y, z, F1, F2, F3, rfl, rfl, h1, h2, h3⟩ := hc
  exact ⟨x, y, z, F1, F2, F3, rfl, rfl, h1.keeps (hk.mono fun b hb => by simp [hb]), h2.keeps (hk.mono fun b hb => by simp [hb]), h3.keeps (hk.mono fun b hb => by simp [hb])⟩
theorem HsV.keep (hc : HsV h v c F) (hk : Keeps h h') : HsV h' v c F := hc.keeps (hk.p _)
theorem HsV.lt (hc : HsV h v c F) {b : Nat} (hb : b ∈ F) : b < h.length := by
  obtain ⟨x, y, z, F1, F2, F3, rfl, rfl, h1, h2, h3⟩ := hc
  rcases List.mem_append.1 hb with hb | hb
  · rcases List.mem_append.1 hb with hb | hb
    · obtain ⟨_, h3, _⟩ := h1.lt hb; exact get_lt h3
    · obtain ⟨_, h3, _⟩ := h2.lt hb; exact get_lt h3
  · obtain ⟨_, h4, _⟩ := h3.lt hb; exact get_lt h4
end
def houseB (c : Hs) : Bool := allQ c.heard c.groups
def Hs.of (p : Hd × List (List Int)) : Hs := ⟨p.1, p.2⟩
end GL

namespace GL
open Go

theorem SdF.ltF {α : Type} [Data α] {h : Heap} {v : V} {xs : List α} {F : List Nat} (hs : SdF h v xs F) {b : Nat} (hb : b ∈ F) : b < h.length := by
  obtain ⟨_, h9, _⟩ := hs.lt hb; exact get_lt h9
end GL

namespace GL
open Go

theorem houseB_facts {c : Hs} (h : houseB c = true) : goodH c.heard = true ∧ c.groups.length = c.heard.deeds.length ∧ c.groups.length ≤ 8 := by
  simp only [houseB, allQ, Bool.and_eq_true, decide_eq_true_eq] at h
  obtain ⟨_, h8, _⟩ := goodH_facts h.1.1
  exact ⟨h.1.1, h.1.2, by omega⟩
end GL

namespace GL
open Go

/-! what comes of deeds that are done in an order -/
structure Oc where
  order : List Int
  keys : List Int
  seen : List Int
end GL

namespace GL
open Go

def OcV (h : Heap) (v : V) (c : Oc) (F : List Nat) : Prop := ∃ x y z F1 F2 F3, v = .agg [x, y, z] ∧ F = F1 ++ F2 ++ F3 ∧ SdF h x c.order F1 ∧ SdF h y c.keys F2 ∧ SdF h z c.seen F3
end GL

namespace GL
open Go

end GL

namespace GL
open Go

section
variable {h h' : Heap} {v w : V} {c : Oc} {F G : List Nat}
theorem OcV.keeps (hc : OcV h v c F) (hk : KeepsP (fun b => b ∈ F) h h') : OcV h' v c F := by
  obtain ⟨x, y, z, F1, F2, F3, rfl, rfl, h1, h2, h3⟩ := hc
  exact ⟨x, y, z, F1, F2, F3, rfl, rfl, h1.keeps (hk.mono fun b hb => by simp [hb]), h2.keeps (hk.mono fun b hb => by simp [hb]), h3.keeps (hk.mono fun b hb => by simp [hb])⟩
theorem OcV.keep (hc : OcV h v c F) (hk : Keeps h h') : OcV h' v c F := hc.keeps (hk.p _)
theorem OcV.lt (hc : OcV h v c F) {b : Nat} (hb : b ∈ F) : b < h.length := by
  obtain ⟨x, y, z, F1, F2, F3, rfl, rfl, h1, h2, h3⟩ := hc
  rcases List.mem_append.1 hb with hb | hb
  · rcases List.mem_append.1 hb with hb | hb
    · exact h1.ltF hb
    · exact h2.ltF hb
  · exact h3.ltF hb
end
end GL

namespace GL
open Go

end GL

namespace GL
open Go

theorem cut_drop {cs xs : List V} {off n m : Nat} (e : cut cs off n = some xs) (hm : m ≤ n) : cut cs (off + m) (n - m) = some (xs.drop m) := by
  unfold cut at e ⊢
  split at e
  case isFalse => cases e
  injection e with e
  subst e
  rw [if_pos (by omega), List.drop_take, List.drop_drop]
theorem SdF.suf {h : Heap} {v : V} {xs : List Int} {F : List Nat} (hs : SdF h v xs F) {i : Nat} (hi : i ≤ xs.length) : ∃ u F', slcV 1 v (some i) none none = some u ∧ SdF h u (xs.drop i) F' ∧ ∀ b ∈ F', b ∈ F := by
  have hbd := hs.bd
  rcases hs with ⟨hb, ⟨rfl, rfl, rfl⟩ | ⟨b, off, cap, rfl, hc, hs⟩⟩
  · simp at hi; subst hi
    exact ⟨.nils, [], rfl, .nil, by simp⟩
  · have hl : (xs.drop i).length = xs.length - i := by simp
    have s2 : ∃ off2 cap2, slcV 1 (.slice b off xs.length cap) (some i) none none = some (.slice b off2 (xs.length - i) cap2) ∧ capW 1 (xs.length - i) cap2 ∧ (off2 = off + i ∨ xs.length - i = 0) := by
      cases cap with
      | k c =>
        have hc' : xs.length ≤ c := hc
        refine ⟨_, .k (c - i), by simp only [slcV, Option.getD_none, Option.getD_some]; rw [if_pos ⟨hi, hc', Nat.le_refl _⟩], ?_, ?_⟩
        · show xs.length - i ≤ c - i; omega
        · by_cases hci : c = i
          · right; omega
          · left; rw [if_neg hci, Nat.mul_one]
      | o k =>
        have hc' : k = 1 := hc
        subst hc'
        refine ⟨_, .o 1, by simp only [slcV, Option.getD_none, Option.getD_some]; rw [if_pos ⟨trivial, hi, Nat.le_refl _⟩], rfl, .inl (by omega)⟩
    obtain ⟨off2, cap2, e, c2, ho⟩ := s2
    by_cases h0 : xs.length - i = 0
    · have hnil : xs.drop i = [] := List.eq_nil_of_length_eq_zero (by rw [hl]; exact h0)
      rw [hnil]
      rw [h0] at e c2
      exact ⟨_, [], e, ⟨by simp, .inr ⟨b, off2, cap2, rfl, c2, .inl ⟨rfl, rfl⟩⟩⟩, by simp⟩
    · have ho : off2 = off + i := by
        rcases ho with h | h
        · exact h
        · exact absurd h h0
      subst ho
      rcases hs with ⟨rfl, rfl⟩ | ⟨blk, cs, G, rfl, h1, h2, h3, h4⟩
      · simp at h0
      · obtain ⟨rfl, rfl⟩ := Reps.flat.1 h4
        have h3' : cut blk.cells (off + i) ((xs.length - i) * 1) = some (flats (xs.drop i)) := by
          have := cut_drop h3 (m := i) (show i ≤ xs.length * 1 by omega)
          have e2 := flats_drop xs i
          have hsz : Flat.sz Int = 1 := rfl
          rw [hsz, Nat.mul_one] at e2
          have hsz2 : Data.sz Int = 1 := rfl
          rw [hsz2, Nat.mul_one, e2] at this
          rw [Nat.mul_one]; exact this
        exact ⟨_, [b], e, ⟨by omega, .inr ⟨b, off + i, cap2, by rw [hl], by rw [hl]; exact c2, .inr ⟨blk, flats (xs.drop i), [], rfl, h1, h2, by rw [hl]; exact h3', Reps.flat.2 ⟨rfl, rfl⟩⟩⟩⟩, by simp⟩

theorem DC.shuffled {h0 h : Heap} {N : Nat} (d : DC h0 h N) (hN : N < 2 ^ 56) (n : Nat) (hn : n ≤ 20) : ∃ v h', call p 567 [.ptr h0.length 0, vi n] h = some (v, h') ∧ ∃ (xs : List Int), Out h.length h' v xs ∧ xs.length = n ∧ DC h0 h' (N + 60) ∧ KeepsBut h0.length h h' ∧ h.length ≤ h'.length := by
  have hlt := d.lt
  refine go (fn := g567) rfl rfl fun R hR => ?_
  simp [g567]
  refine Wc_upM (M := [5, 6, 7, 8, 9, 10, 11, 12, 13, 14, 15, 16, 17, 18, 19, 20, 21, 22, 23, 24, 25, 26, 27, 28, 29, 30, 31, 32]) rfl n (fun i s => i ≤ n ∧ s.σ 6 = .v (vi i) ∧ (∃ (v : V) (xs : List Int), s.σ 5 = .v v ∧ Out h.length s.h v xs ∧ xs.length = i) ∧ DC h0 s.h (N + 2 * i) ∧ KeepsBut h0.length h s.h ∧ h.length ≤ s.h.length) 0
    ⟨by omega, by simp, ⟨.nils, [], by simp, Out.nil (Nat.le_refl _), rfl⟩, by simpa using d, KeepsBut.refl _ _, Nat.le_refl _⟩ fun i s ⟨gi, g6, ⟨v, xs, g5, ho, hxl⟩, dc, kb, hl⟩ hM J hJ => ?_
  by_cases hi : i < n
  · have w1 : IntKind.i64.wrap ((i : Int) + 1) = (i + 1 : Nat) := by rw [IntWalk.i64_in] <;> omega
    obtain ⟨a, h1, e1, ha, d1, k1, l1⟩ := dc.pick (by omega) ((i + 1 : Nat) : Int) (by omega)
    have ho1 : Out h.length h1 v xs := ho.keeps k1.P (fun j hj e => by have := (ho.ge hj).1; omega) (by omega)
    obtain ⟨F, sF, fF⟩ := ho1.fr
    obtain ⟨u1, F1, eu1, su1, _⟩ := sF.pre (i := a) (by omega)
    obtain ⟨u2, F2, eu2, su2, _⟩ := sF.suf (i := a) (by omega)
    have k2 : Keeps h1 (h1 ++ [⟨.own, []⟩]) := Keeps.append _ _
    have o2 : Out h1.length (h1 ++ [⟨.own, []⟩]) (.slice h1.length 0 0 (.k 0)) ([] : List Int) := Out.empty (Nat.le_refl _) (by simp)
    have q1l : (xs.take a).length ≤ 20 := by rw [List.length_take]; omega
    have q2l : (xs.drop a).length ≤ 20 := by rw [List.length_drop]; omega
    obtain ⟨ys, v3, h3, er3, e3, o3, k3, l3⟩ := o2.appS (su1.keep k2).sl (bytes := 8) (by decide) (by simp; omega) (k := 1) rfl (n := (xs.take a).length) rfl
    have kk3 : Keeps h1 h3 := o2.far k2 k3 (Nat.le_refl _)
    obtain ⟨v4, h4, e4, o4, k4, l4⟩ := o3.one (i : Int) (by simp; omega)
    have kk4 : Keeps h1 h4 := o3.far kk3 k4 (Nat.le_refl _)
    obtain ⟨zs, v5, h5, er5, e5, o5, k5, l5⟩ := o4.appS (su2.keep kk4).sl (bytes := 8) (by decide) (by simp; omega) (k := 1) rfl (n := (xs.drop a).length) rfl
    have kk5 : Keeps h1 h5 := o4.far kk4 k5 (Nat.le_refl _)
    have hsl := ho.sl.len
    rw [hxl] at hsl
    have su1l := su1.len
    have su2l := su2.len
    generalize hq1 : (xs.take a).length = q1 at *
    generalize hq2 : (xs.drop a).length = q2 at *
    simp at l3
    have a0 : (0 : Int) ≤ a := by omega
    simp [g567_0, hM, g6, g5, hi, hsl, w1, e1, bounds, takeB, eu1, eu2, su1l, su2l, er3, e3, rdS_last, e4, er5, e5, -Int.natCast_add]
    have hfin : ([] ++ xs.take a ++ [(i : Int)] ++ xs.drop a).length = i + 1 := by
      simp only [List.nil_append, List.length_append, List.length_cons, List.length_nil, hq1, hq2]
      have : q1 + q2 = xs.length := by rw [← hq1, ← hq2, ← List.length_append, List.take_append_drop]
      omega
    exact hJ _ hi ⟨hi, by simp, ⟨v5, _, by simp, o5.mono (by omega), hfin⟩, (d1.mono (by omega)).keeps kk5, (kb.trans k1).trans (kk5.but _), by show h.length ≤ h5.length; omega⟩
  · have : i = n := by omega
    subst this
    simp [g567_0, hM, g6, g5]
    exact hR _ _ ⟨xs, ho, hxl, dc.mono (by omega), kb, hl⟩
end GL

namespace GL
open Go

theorem heard_deeds {h0 h g : Heap} {N : Nat} (d : DC h0 h N) (hN : N < 2 ^ 56) (kb : KeepsBut h0.length g h) (hl : g.length ≤ h.length) (hc : h0.length < g.length) (n : Nat) (hn : n ≤ 9) (no : Int) (s0 : S) (K : Ex → S → Prop) (g0 : s0.σ 0 = .v (.ptr h0.length 0)) (g4 : s0.σ 4 = .v (vi n)) (g5 : s0.σ 5 = .v (vi 0)) (g3 : s0.σ 3 = .lp 3 1 0) (gL : s0.L 3 = (1, [vi no, .nils, .nils])) (gh : s0.h = h)
    (hK : ∀ s u (xs : List Dd), (∀ k, k ∉ [5, 20, 21, 22, 23, 24, 25, 26, 27, 28, 29, 30, 31, 32, 33, 34] → s.σ k = s0.σ k) → s.L 2 = s0.L 2 → s.L 3 = (1, [vi no, u, .nils]) → Out g.length s.h u xs → xs.length = n → DC h0 s.h (N + 40) → KeepsBut h0.length g s.h → h.length ≤ s.h.length → K (.exit 0) s) : Wc p (.loop g528_0) s0 K := by
  refine Wc_upM (M := [5, 20, 21, 22, 23, 24, 25, 26, 27, 28, 29, 30, 31, 32, 33, 34]) rfl n (fun i s => i ≤ n ∧ s.σ 5 = .v (vi i) ∧ s.L 2 = s0.L 2 ∧ (∃ (u : V) (xs : List Dd), s.L 3 = (1, [vi no, u, .nils]) ∧ Out g.length s.h u xs ∧ xs.length = i) ∧ DC h0 s.h (N + 4 * i) ∧ KeepsBut h0.length g s.h ∧ h.length ≤ s.h.length) 0
    ⟨by omega, by simp [g5], rfl, ⟨.nils, [], gL, by rw [gh]; exact Out.nil hl, rfl⟩, by simpa [gh] using d, by rw [gh]; exact kb, by rw [gh]; exact Nat.le_refl _⟩ fun i s ⟨gi, g5', gL2, ⟨u, xs, hL, ho, hxl⟩, dc, kb, hl'⟩ hM J hJ => ?_
  by_cases hi : i < n
  · obtain ⟨a, h1, e1, ha, d1, k1, l1⟩ := dc.pick (by omega) 3 (by decide)
    obtain ⟨b, h2, e2, d2, k2, l2⟩ := d1.one (by omega) 2 (by decide)
    have kb2 := (kb.trans k1).trans k2
    have o2 : Out g.length h2 u xs := ho.keeps (k1.P.trans k2.P) (fun j hj e => by have := (ho.ge hj).1; omega) (by omega)
    obtain ⟨v', h3, e3, o3, d3, k3, l3⟩ := Out.draw (k := 2) (bytes := 16) d2 kb2 o2 (Nat.le_refl _) hc ⟨(a : Int), b⟩ (by omega) rfl (by decide) rfl
    simp [Flat.cells] at e3
    have w1 : IntKind.i64.wrap ((i : Int) + 1) = i + 1 := by rw [IntWalk.i64_in] <;> omega
    have uc := o3.sl.cell
    have ucs := o3.sl.cells
    simp [g528_0, hM, g0, g4, g5', g3, hL, hi, upd, e1, e2, fillL, rdS_last, e3, w1, uc, ucs]
    exact hJ _ hi ⟨hi, by simp, by simp [upd, gL2], ⟨v', xs ++ [⟨(a : Int), b⟩], by simp [upd], o3, by simp [hxl]⟩, d3.mono (by omega), k3, by show h.length ≤ h3.length; omega⟩
  · have : i = n := by omega
    subst this
    simp [g528_0, hM, g4, g5']
    exact hK _ u xs (fun k hk => by
      have h9 := hM k hk
      simp only [upd]
      repeat rw [if_neg (fun e => by subst e; simp at hk)]
      exact h9) gL2 hL ho hxl (dc.mono (by omega)) kb hl'
theorem heard_rows {h0 h g : Heap} {N : Nat} (d : DC h0 h N) (hN : N < 2 ^ 55) (kb : KeepsBut h0.length g h) (hl : g.length ≤ h.length) (hc : h0.length < g.length) (n : Nat) (hn : n ≤ 9) (no : Nat) (hno : no ≤ 5) {u v6 : V} {xs : List Dd} {base : List Int} (ou : Out g.length h u xs) (ob : Out g.length h v6 base) (hbl : base.length = n)
    (s0 : S) (K : Ex → S → Prop) (g0 : s0.σ 0 = .v (.ptr h0.length 0)) (g4 : s0.σ 4 = .v (vi n)) (g6 : s0.σ 6 = .v v6) (g7 : s0.σ 7 = .v (vi 0)) (g3 : s0.σ 3 = .lp 3 1 0) (gL : s0.L 3 = (1, [vi no, u, .nils])) (gh : s0.h = h)
    (hK : ∀ s r (rs : List (List Int)) (G : List Nat), (∀ k, k ∉ [7, 8, 38, 39, 40, 41, 42, 43, 44, 45, 46, 47, 48, 49, 50, 51, 52, 53, 54, 55, 56, 57, 58] → s.σ k = s0.σ k) → s.L 2 = s0.L 2 → s.L 3 = (1, [vi no, u, r]) → OdF h.length s.h r rs G → Out g.length s.h u xs → rs.length = no → (∀ l ∈ rs, l.length = n) → DC h0 s.h (N + 400) → KeepsBut h0.length g s.h → h.length ≤ s.h.length → K (.exit 2) s) : Wc p (.loop g528_1) s0 K := by
  refine Wc_upM (M := [7, 8, 38, 39, 40, 41, 42, 43, 44, 45, 46, 47, 48, 49, 50, 51, 52, 53, 54, 55, 56, 57, 58]) rfl no (fun i s => i ≤ no ∧ s.σ 7 = .v (vi i) ∧ s.L 2 = s0.L 2 ∧ (∃ (r : V) (rs : List (List Int)) (G : List Nat), s.L 3 = (1, [vi no, u, r]) ∧ OdF h.length s.h r rs G ∧ rs.length = i ∧ ∀ l ∈ rs, l.length = n) ∧ DC h0 s.h (N + 70 * i) ∧ KeepsBut h0.length h s.h ∧ h.length ≤ s.h.length) 0
    ⟨by omega, by simp [g7], rfl, ⟨.nils, [], [], gL, by rw [gh]; exact OdF.nil (Nat.le_refl _), rfl, by simp⟩, by simpa [gh] using d, by rw [gh]; exact KeepsBut.refl _ _, by rw [gh]; exact Nat.le_refl _⟩ fun i s ⟨gi, g7', gL2, ⟨r, rs, G, hL, ho, hrl, hrn⟩, dc, kb', hl'⟩ hM J hJ => ?_
  have hc2 : h0.length < h.length := by omega
  by_cases hi : i < no
  · have w1 : IntKind.i64.wrap ((i : Int) + 1) = i + 1 := by rw [IntWalk.i64_in] <;> omega
    have ob1 : Out g.length s.h v6 base := ob.keeps kb'.P (fun j hj e => by have := (ob.ge hj).1; omega) hl'
    have k1 : Keeps s.h (s.h ++ [⟨.own, []⟩]) := Keeps.append _ _
    have o1 : Out s.h.length (s.h ++ [⟨.own, []⟩]) (.slice s.h.length 0 0 (.k 0)) ([] : List Int) := Out.empty (Nat.le_refl _) (by simp)
    obtain ⟨ys, v3, h3, er3, e3, o3, k3, l3⟩ := o1.appS (ob1.sl.keeps k1) (bytes := 8) (by decide) (by simp; omega) (k := 1) rfl (n := base.length) rfl
    have kk3 : Keeps s.h h3 := o1.far k1 k3 (Nat.le_refl _)
    simp at l3
    obtain ⟨b, h4, e4, d4, k4, l4⟩ := (dc.keeps kk3).one (by omega) 3 (by decide)
    have o4 : Out s.h.length h4 v3 ([] ++ base) := o3.keeps k4.P (fun j hj e => by have := (o3.ge hj).1; omega) (by omega)
    have kb4 : KeepsBut h0.length s.h h4 := (kk3.but _).trans k4
    have hbl6 := ob1.sl.len
    -- with the row at hand
    have fin : ∀ (h5 : Heap) (v8 : V) (row : List Int), Out s.h.length h5 v8 row → row.length = n → DC h0 h5 (N + 70 * i + 62) → KeepsBut h0.length s.h h5 → s.h.length ≤ h5.length →
        ∃ v9 h6 G', appH 1 24 r 1 [v8] (h5 ++ [⟨.own, [v8]⟩]) = some (v9, h6) ∧ OdF h.length h6 v9 (rs ++ [row]) G' ∧ DC h0 h6 (N + 70 * (i + 1)) ∧ KeepsBut h0.length h h6 ∧ h.length ≤ h6.length ∧ v9.cell = true ∧ v9.cells = [v9] := fun h5 v8 row o8 hr d5 k5 l5 => by
      obtain ⟨F8, s8, f8⟩ := o8.fr
      obtain ⟨v9, h6, e6, o6, d6, k6, l6⟩ := OdF.draw d5 (kb'.trans k5) ho k5 l5 (Nat.le_refl _) hc2 f8 (x := row) (cs := [v8]) ⟨v8, rfl, s8⟩ (by omega) (k := 1) (bytes := 24) rfl (by decide)
      obtain ⟨F9, s9, _⟩ := o6.fresh
      exact ⟨v9, h6, _, e6, o6, d6.mono (by omega), k6, by omega, s9.cell, s9.cells⟩
    cases b with
    | true =>
      obtain ⟨v9, h6, G', e6, o6, d6, k6, l6, c6, cc6⟩ := fin h4 v3 _ o4 (by simpa using hbl) (d4.mono (by omega)) kb4 (by omega)
      have c4 := o4.sl.cell
      have cc4 := o4.sl.cells
      simp [g528_1, hM, g0, g4, g6, g7', g3, hL, hi, upd, hbl6, er3, e3, e4, fillL, rdS_last, c4, cc4, e6, w1, c6, cc6]
      exact hJ _ hi ⟨hi, by simp, by simp [upd, gL2], ⟨v9, _, G', by simp [upd], o6, by simp [hrl], fun l hl => by
        rcases List.mem_append.1 hl with h9 | h9
        · exact hrn l h9
        · simp at h9; subst h9; exact hbl⟩, d6, k6, l6⟩
    | false =>
      obtain ⟨v8, h5, e5, row, o5, hrow, d5, k5, l5⟩ := d4.shuffled (by omega) n (by omega)
      obtain ⟨v9, h6, G', e6, o6, d6, k6, l6, c6, cc6⟩ := fin h5 v8 row (o5.mono (by omega)) hrow (d5.mono (by omega)) (kb4.trans k5) (by omega)
      have c5 := o5.sl.cell
      have cc5 := o5.sl.cells
      simp [g528_1, hM, g0, g4, g6, g7', g3, hL, hi, upd, hbl6, er3, e3, e4, e5, fillL, rdS_last, c5, cc5, e6, w1, c6, cc6]
      exact hJ _ hi ⟨hi, by simp, by simp [upd, gL2], ⟨v9, _, G', by simp [upd], o6, by simp [hrl], fun l hl => by
        rcases List.mem_append.1 hl with h9 | h9
        · exact hrn l h9
        · simp at h9; subst h9; exact hrow⟩, d6, k6, l6⟩
  · have : i = no := by omega
    subst this
    have ou1 : Out g.length s.h u xs := ou.keeps kb'.P (fun j hj e => by have := (ou.ge hj).1; omega) hl'
    simp [g528_1, hM, g3, g7', hL, upd]
    exact hK _ r rs G (fun k hk => by
      have h9 := hM k hk
      simp only [upd]
      repeat rw [if_neg (fun e => by subst e; simp at hk)]
      exact h9) gL2 hL ho ou1 hrl hrn (dc.mono (by omega)) (kb.trans kb') hl'
end GL

namespace GL
open Go

def tail528 : GL.Code := .seq (.seq (.reg 0 [⟨0, some 5, none, .p .mov, [.c (.int .i64 0)]⟩])
   (.block 0 (.loop g528_0)))
   (.seq (.reg 0 [⟨0, some 35, none, .p .mov, [.t 0]⟩,
    ⟨1, some 36, none, .p .mov, [.t 4]⟩,
    ⟨2, some 37, none, .e .call [] [], [.f 567, .t 35, .t 36]⟩,
    ⟨3, some 6, none, .p .mov, [.t 37]⟩])
   (.seq (.seq (.reg 0 [⟨0, some 7, none, .p .mov, [.c (.int .i64 0)]⟩])
   (.block 2 (.loop g528_1)))
   (.seq (.seq (.reg 0 [⟨0, some 59, none, .p .mov, [.t 4]⟩,
    ⟨1, some 60, none, .p (.bin .gtr), [.t 59, .c (.int .i64 0)]⟩,
    ⟨2, some 61, none, .p .mov, [.t 60]⟩,
    ⟨3, some 62, some (61, true), .p .mov, [.t 0]⟩,
    ⟨4, some 63, some (61, true), .e .call [] [], [.f 92, .t 62, .c (.int .i64 30)]⟩,
    ⟨5, some 64, none, .p .pick, [.t 61, .t 63, .c (.bool false)]⟩])
   (.cond (.t 64) (.reg 0 [⟨0, some 65, none, .p (.faddr 2), [.t 3]⟩,
    ⟨1, some 66, none, .l (.load 3 false 1), [.t 65]⟩,
    ⟨2, some 67, none, .p (.idx 1), [.t 66, .c (.int .i64 0)]⟩,
    ⟨3, some 68, none, .r (.load false 1) true, [.t 67]⟩,
    ⟨4, some 69, none, .p .mov, [.t 0]⟩,
    ⟨5, some 70, none, .p .mov, [.t 4]⟩,
    ⟨6, some 71, none, .p (.bin .add), [.t 70, .c (.int .i64 2)]⟩,
    ⟨7, some 72, none, .e .call [3] [], [.f 91, .t 69, .t 71]⟩,
    ⟨8, some 73, none, .p (.bin .sub), [.t 72, .c (.int .i64 1)]⟩,
    ⟨9, some 74, none, .p (.idx 1), [.t 68, .c (.int .i64 0)]⟩,
    ⟨10, none, none, .e (.store 1) [] [], [.t 74, .t 73]⟩])
   (.skip)))
   (.seq (.reg 0 [⟨0, some 75, none, .l (.load 3 true 3), [.t 3]⟩,
    ⟨1, none, none, .l (.store 2 3), [.t 2, .t 75]⟩])
   (.ret)))))
theorem SdF.vB1 {α : Type} [Flat α] {h : Heap} {v : V} {xs : List α} {F : List Nat} (hs : SdF h v xs F) {b : Nat} (hb : b ∈ F) : vB v b := by
  have e := hs.flatF.1 b hb
  rcases hs with ⟨_, ⟨rfl, rfl, rfl⟩ | ⟨c, off, cap, rfl, _, _⟩⟩
  · simp at hb
  · simp only [bOf] at e; subst e; exact ⟨_, _, _, rfl⟩
theorem heard_tail {h0 h g : Heap} {N : Nat} (d : DC h0 h N) (hN : N < 2 ^ 54) (kb : KeepsBut h0.length g h) (hl : g.length ≤ h.length) (hc : h0.length < g.length) (n : Nat) (hn : n ≤ 9) (no : Nat) (hno : 3 ≤ no ∧ no ≤ 5) (s0 : S) (K : Ex → S → Prop) (g0 : s0.σ 0 = .v (.ptr h0.length 0)) (g4 : s0.σ 4 = .v (vi n)) (g2 : s0.σ 2 = .lp 2 1 0) (g3 : s0.σ 3 = .lp 3 1 0) (gL2 : s0.L 2 = (1, [.int .i64 0, .nils, .nils])) (gL : s0.L 3 = (1, [vi no, .nils, .nils])) (gh : s0.h = h)
    (hK : ∀ s x y (c : Hd) G, s.σ 2 = .lp 2 1 0 → s.L 2 = (1, [vi c.no, x, y]) → HdV s.h (.agg [vi c.no, x, y]) c G → c.no = no → c.deeds.length ≤ 9 → (∀ b ∈ G, g.length ≤ b) → DC h0 s.h (N + 600) → KeepsBut h0.length g s.h → g.length ≤ s.h.length → K .ret s) : Wc p tail528 s0 K := by
  obtain ⟨σ, L, H, wt, fl, base⟩ := s0
  simp only at g0 g4 g2 g3 gL2 gL gh
  subst gh
  simp [tail528]
  refine heard_deeds (g := g) d (by omega) kb hl hc n hn no _ _ (by simp [g0]) (by simp [g4]) (by simp) (by simp [g3]) gL rfl fun s u xs sM sL2 sL so sxl sd skb sl => ?_
  have s0' : s.σ 0 = .v (.ptr h0.length 0) := by rw [sM 0 (by decide)]; simp [g0]
  have s2' : s.σ 2 = .lp 2 1 0 := by rw [sM 2 (by decide)]; simp [g2]
  have s3' : s.σ 3 = .lp 3 1 0 := by rw [sM 3 (by decide)]; simp [g3]
  have s4' : s.σ 4 = .v (vi n) := by rw [sM 4 (by decide)]; simp [g4]
  obtain ⟨v6, h1, e1, bs, ob, hbl, d1, k1, l1⟩ := sd.shuffled (by omega) n (by omega)
  have ou1 : Out g.length h1 u xs := so.keeps k1.P (fun j hj e => by have := (so.ge hj).1; omega) (by omega)
  simp [s0', s4', e1]
  refine heard_rows (g := g) d1 (by omega) (skb.trans k1) (by omega) hc n hn no (by omega) ou1 (ob.mono (by omega)) hbl _ _ (by simp [s0']) (by simp [s4']) (by simp) (by simp) (by simp [s3']) (by simpa using sL) rfl fun t r rs G tM tL2 tL to tu trl trn td tkb tl => ?_
  have t0' : t.σ 0 = .v (.ptr h0.length 0) := by rw [tM 0 (by decide)]; simp [s0']
  have t2' : t.σ 2 = .lp 2 1 0 := by rw [tM 2 (by decide)]; simp [s2']
  have t3' : t.σ 3 = .lp 3 1 0 := by rw [tM 3 (by decide)]; simp [s3']
  have t4' : t.σ 4 = .v (vi n) := by rw [tM 4 (by decide)]; simp [s4']
  have tL2' : t.L 2 = (1, [.int .i64 0, .nils, .nils]) := by rw [tL2]; simp [sL2, gL2]
  obtain ⟨F1, sF1, fF1⟩ := tu.fr
  obtain ⟨F2, sF2, fF2⟩ := to.fresh
  have ge1 : ∀ b ∈ F1, g.length ≤ b := fF1.ge
  have ge2 : ∀ b ∈ F2, g.length ≤ b := fun b hb => by have := fF2.ge b hb; omega
  have geA : ∀ b ∈ F1 ++ F2, g.length ≤ b := fun b hb => by
    rcases List.mem_append.1 hb with h | h
    · exact ge1 b h
    · exact ge2 b h
  have uc := sF1.cell
  have rc := sF2.cell
  by_cases hn0 : 0 < n
  · have hn0' : (0 : Int) < n := by omega
    obtain ⟨b, h2, e2, d2, k2, l2⟩ := td.one (by omega) 30 (by decide)
    have kb2 := tkb.trans k2
    have sF1' := sF1.keeps (k2.P.mono fun b hb => by have := ge1 b hb; omega)
    have sF2' := sF2.keeps (k2.P.mono fun b hb => by have := ge2 b hb; omega)
    cases b with
    | false =>
      simp [t0', t2', t3', t4', hn0, e2, tL, tL2', upd, uc, rc]
      exact hK _ u r ⟨no, xs, rs⟩ (F1 ++ F2) (by simp [t2']) (by simp [upd]) ⟨u, r, F1, F2, rfl, rfl, sF1', sF2'⟩ rfl (by simp; omega) geA (d2.mono (by omega)) kb2 (by show g.length ≤ h2.length; omega)
    | true =>
      have w2 : IntKind.i64.wrap ((n : Int) + 2) = (n + 2 : Nat) := by rw [IntWalk.i64_in] <;> omega
      obtain ⟨m, h3, e3, hm, d3, k3, l3⟩ := d2.pick (by omega) ((n + 2 : Nat) : Int) (by omega)
      have kb3 := kb2.trans k3
      have sF1'' := sF1'.keeps (k3.P.mono fun b hb => by have := ge1 b hb; omega)
      have hrl : 0 < rs.length := by omega
      have sF2'' := sF2'.keeps (k3.P.mono fun b hb => by have := ge2 b hb; omega)
      have fr3 := (fF2.keeps (k2.P.mono fun b hb => by have := ge2 b hb; omega)).keeps (k3.P.mono fun b hb => by have := ge2 b hb; omega)
      have iw := sF2'.idx 1 .i64 0 hrl
      have w3 : IntKind.i64.wrap ((m : Int) - 1) = (m : Int) - 1 := by rw [IntWalk.i64_in] <;> omega
      obtain ⟨cs2, X2, ld2, rep2, hX2, nX2, hbF, hfin⟩ := sF2''.inner fr3.nodup hrl
      obtain ⟨q, rfl, hq⟩ := rep2
      have ld3 : rdH h3 (bOf r) (oOf r) 1 = some [q] := by simpa [Data.sz] using ld2
      obtain ⟨q', X2', ld2', hq', _⟩ := sF2'.loadL 0 hrl
      -- the same cell, before and after
      have ld4 : rdH h2 (bOf r) (oOf r) 1 = some [q'] := by simpa using ld2'
      have hqq : q' = q := by
        have hne : bOf r ≠ h0.length := by have := ge2 _ hbF; omega
        have : rdH h3 (bOf r) (oOf r) 1 = some [q'] := by
          unfold rdH at ld4 ⊢
          split at ld4
          case h_2 => cases ld4
          rename_i blk hblk
          split at ld4
          case isTrue => cases ld4
          rename_i hlv
          rw [k3 _ _ hne hblk hlv]
          simp only [hlv, if_false]; exact ld4
        rw [ld3] at this
        injection this with this
        injection this with this
        exact this.symm
      subst hqq
      have hr0 : (rs[0]).length = n := trn _ (List.getElem_mem hrl)
      have hr0' : 0 < (rs[0]).length := by omega
      obtain ⟨hXa, hXb, hXc⟩ := hq.flatF
      have hbq : bOf q' ∈ X2 := by rw [hXc (fun e => by rw [e] at hr0'; simp at hr0')]; simp
      have ownq : OwnB h3 (bOf q') := fr3.own _ (hX2 _ hbq).1
      obtain ⟨h4, e4, hq4, k4, l4, o4⟩ := hq.putF (i := 0) ownq hr0' (x' := (m : Int) - 1) (o := 0) (ys := [vi ((m : Int) - 1)]) (by simp [Flat.cells, lay])
      simp [Flat.sz] at e4
      have iq := hq.idx 1 .i64 0 hr0'
      simp at iq iw
      have kX : KeepsP (fun b => b ∉ X2) h3 h4 := k4.mono fun b hb e => hb (by rw [e]; exact hbq)
      have sR := hfin h4 (rs[0].set 0 ((m : Int) - 1)) kX ⟨q', rfl, hq4⟩
      have nF1 : ∀ b ∈ F1, b ≠ bOf q' := fun b hb e => by
        have h1 := fF2.ge _ (hX2 _ hbq).1
        have h2 := (ou1.ge (sF1.vB1 hb)).2
        omega
      have sF14 := sF1''.keeps (k4.mono nF1)
      have hql : h0.length ≠ bOf q' := by have := ge2 _ (hX2 _ hbq).1; omega
      have d4 : DC h0 h4 (N + 600) := (d3.mono (by omega)).far k4 fun j hj e => by have := ge2 _ (hX2 _ hbq).1; omega
      have kb4 : KeepsBut h0.length g h4 := kb3.far k4 fun j hj _ e => by have := ge2 _ (hX2 _ hbq).1; omega
      have hst : rdH h2 (bOf r) (oOf r) 1 = some [q'] := ld4
      simp [t0', t2', t3', t4', hn0, e2, tL, tL2', upd, uc, rc, iw, ld4, w2, e3, ld3, stable, w3, iq, e4, -Int.natCast_add]
      exact hK _ u r ⟨no, xs, rs.set 0 (rs[0].set 0 ((m : Int) - 1))⟩ (F1 ++ F2) (by simp [t2']) (by simp [upd]) ⟨u, r, F1, F2, rfl, rfl, sF14, sR⟩ rfl (by simp; omega) geA d4 kb4 (by show g.length ≤ h4.length; omega)
  · have hnn : n = 0 := by omega
    subst hnn
    simp [t0', t2', t3', t4', tL, tL2', upd, uc, rc]
    exact hK _ u r ⟨no, xs, rs⟩ (F1 ++ F2) (by simp [t2']) (by simp [upd]) ⟨u, r, F1, F2, rfl, rfl, sF1, sF2⟩ rfl (by simp; omega) geA (td.mono (by omega)) tkb (by show g.length ≤ t.h.length; omega)
end GL

namespace GL
open Go

theorem DC.heard {h0 h : Heap} {N : Nat} (d : DC h0 h N) (hN : N < 2 ^ 53) : ∃ v h', call p 528 [.ptr h0.length 0] h = some (v, h') ∧ ∃ (c : Hd) (G : List Nat), HdV h' v c G ∧ (c.no = 3 ∨ c.no = 5) ∧ c.deeds.length ≤ 9 ∧ (∀ b ∈ G, h.length ≤ b) ∧ DC h0 h' (N + 700) ∧ KeepsBut h0.length h h' ∧ h.length ≤ h'.length := by
  have hlt := d.lt
  obtain ⟨x, h1, e1, hx, d1, k1, l1⟩ := d.amongL (by omega) [3, 3, 5] 3 rfl [vi 3, vi 3, vi 5] rfl (.k 3) (by decide) (by decide)
  obtain ⟨no, rfl, hno, hno2⟩ : ∃ n : Nat, x = n ∧ (n = 3 ∨ n = 5) ∧ (3 ≤ n ∧ n ≤ 5) := by
    simp at hx
    rcases hx with rfl | rfl
    · exact ⟨3, rfl, .inl rfl, by omega, by omega⟩
    · exact ⟨5, rfl, .inr rfl, by omega, by omega⟩
  obtain ⟨a, h2, e2, ha, d2, k2, l2⟩ := d1.pick (by omega) 7 (by decide)
  obtain ⟨b, h3, e3, d3, k3, l3⟩ := d2.one (by omega) 20 (by decide)
  have kb3 := (k1.trans k2).trans k3
  refine go (fn := g528) rfl rfl fun R hR => ?_
  show Wc p (.seq _ (.seq _ (.seq _ (.seq _ tail528)))) _ _
  have fin : ∀ (s : S) (x y : V) (c : Hd) (G : List Nat) , s.σ 2 = .lp 2 1 0 → s.L 2 = (1, [vi c.no, x, y]) → HdV s.h (.agg [vi c.no, x, y]) c G → c.no = no → c.deeds.length ≤ 9 → (∀ b ∈ G, h.length ≤ b) → DC h0 s.h (N + 700) → KeepsBut h0.length h s.h → h.length ≤ s.h.length → finK g528.res (fun r => R r.1 r.2) .ret s := fun s x y c G g2 gL hc hcn hd hG dd kb hl => by
    simp [g528, g2, gL, resV, mkV]
    exact hR _ _ ⟨c, G, hc, by rw [hcn]; omega, hd, hG, dd, kb, hl⟩
  cases b with
  | false =>
    simp [g528, fillL, upd, e1, e2, e3]
    refine heard_tail (g := h) d3 (by omega) kb3 (by omega) hlt a (by omega) no hno2 _ _ (by simp) (by simp) (by simp) (by simp) (by simp [upd]) (by simp [upd]) rfl fun s x y c G g2 gL hc hcn hd hG dd kb hl => ?_
    exact fin s x y c G g2 gL hc hcn hd hG (dd.mono (by omega)) kb hl
  | true =>
    obtain ⟨m, h4, e4, hm, d4, k4, l4⟩ := d3.pick (by omega) 2 (by decide)
    have w : IntKind.i64.wrap (8 + (m : Int)) = (8 + m : Nat) := by rw [IntWalk.i64_in] <;> omega
    simp [g528, fillL, upd, e1, e2, e3, e4, w, -Int.natCast_add]
    refine heard_tail (g := h) d4 (by omega) (kb3.trans k4) (by omega) hlt (8 + m) (by omega) no hno2 _ _ (by simp) (by simp) (by simp) (by simp) (by simp [upd]) (by simp [upd]) rfl fun s x y c G g2 gL hc hcn hd hG dd kb hl => ?_
    exact fin s x y c G g2 gL hc hcn hd hG (dd.mono (by omega)) kb hl
/-- some places in a row, beginning anywhere -/
theorem groupBy568_ok {h : Heap} (n k f : Nat) (hn : n = 3 ∨ n = 5) (hk : 1 ≤ k ∧ k ≤ n) (hf : f < n) : ∃ r h', call p 568 [vi n, vi k, vi f] h = some (r, h') ∧ ∃ (o : V) (ps : List Int) (G : List Nat), r = .tup [o, .bool true] ∧ SdF h' o ps G ∧ ps.length ≤ 5 ∧ (∀ b ∈ G, h.length ≤ b) ∧ Keeps h h' ∧ h.length ≤ h'.length := by
  have e1 := l11Places_eq (n : Int) h
  have hm : manyB (n : Int) = true := by rcases hn with rfl | rfl <;> decide
  rw [hm] at e1
  have w1 : IntKind.i64.wrap ((n : Int) - 1) = (n : Int) - 1 := by rw [IntWalk.i64_in] <;> omega
  have hk2 : (1 : Int) ≤ k ∧ (k : Int) ≤ n := by omega
  have hf2 : (f : Int) ≤ (n : Int) - 1 := by omega
  refine go (fn := g568) rfl rfl fun R hR => ?_
  simp [g568, e1, hk2, w1, hf2]
  refine Wc_upM (M := [8, 9, 26, 27, 28, 29, 30, 31, 32, 33, 34, 35, 36, 37]) rfl k (fun i s => i ≤ k ∧ s.σ 9 = .v (vi i) ∧ (∃ (u : V) (ys : List Int) (G : List Nat), s.σ 8 = .v u ∧ SdF s.h u ys G ∧ ys.Pairwise (· < ·) ∧ ys.length ≤ i ∧ ∀ b ∈ G, h.length ≤ b) ∧ Keeps h s.h ∧ h.length ≤ s.h.length) 0
    ⟨by omega, by simp, ⟨.nils, [], [], by simp, .nil, by simp, by simp, by simp⟩, Keeps.refl _, Nat.le_refl _⟩ fun i s ⟨gi, g9, ⟨u, ys, G, g8, hs, hr, hl, hG⟩, hk', hl'⟩ hM J hJ => ?_
  by_cases hi : i < k
  · have w2 : IntKind.i64.wrap ((f : Int) + i) = (f + i : Nat) := by rw [IntWalk.i64_in] <;> omega
    have n0 : ¬ n = 0 := by omega
    have w4 : IntKind.i64.wrap ((i : Int) + 1) = i + 1 := by rw [IntWalk.i64_in] <;> omega
    obtain ⟨w6, h3, e5, zs, G6, s6, r6, m6, zl, hG6, k3, l3⟩ := l1Put_ok hs hr (by omega) (((f + i : Nat) : Int).tmod n)
    simp [g568_0, hM, g9, g8, hi, w2, n0, e5, w4, -Int.natCast_add]
    refine hJ _ hi ⟨hi, by simp, ⟨w6, zs, G6, by simp, s6, r6, by omega, fun b hb => ?_⟩, hk'.trans k3, by show h.length ≤ h3.length; omega⟩
    rcases hG6 b hb with h | h
    · exact hG b h
    · omega
  · have : i = k := by omega
    subst this
    simp [g568_0, hM, g9, g8]
    exact hR _ _ ⟨u, ys, G, rfl, hs, by omega, hG, hk', hl'⟩
theorem DC.group {h0 h : Heap} {N : Nat} (d : DC h0 h N) (hN : N < 2 ^ 55) (n : Nat) (hn : n = 3 ∨ n = 5) : ∃ v h', call p 529 [.ptr h0.length 0, vi n] h = some (v, h') ∧ ∃ (ps : List Int) (G : List Nat), SdF h' v ps G ∧ ps.length ≤ 5 ∧ (∀ b ∈ G, h.length ≤ b) ∧ DC h0 h' (N + 10) ∧ KeepsBut h0.length h h' ∧ h.length ≤ h'.length := by
  have t : (n : Int).tdiv 2 = (n / 2 : Nat) := by rw [Int.tdiv_eq_ediv_of_nonneg (by omega)]; omega
  have w1 : IntKind.i64.wrap ((n / 2 : Nat) : Int) = (n / 2 : Nat) := by rw [IntWalk.i64_in] <;> omega
  have w2 : IntKind.i64.wrap (((n / 2 : Nat) : Int) + 1) = (n / 2 + 1 : Nat) := by rw [IntWalk.i64_in] <;> omega
  obtain ⟨a, h1, e1, ha, d1, k1, l1⟩ := d.pick (by omega) ((n / 2 + 1 : Nat) : Int) (by omega)
  obtain ⟨b, h2, e2, hb, d2, k2, l2⟩ := d1.pick (by omega) (n : Int) (by omega)
  have w3 : IntKind.i64.wrap (((n / 2 + 1 : Nat) : Int) + a) = (n / 2 + 1 + a : Nat) := by rw [IntWalk.i64_in] <;> omega
  obtain ⟨_, h3, e3, o, ps, G, rfl, s3, hl, hG, k3, l3⟩ := groupBy568_ok (h := h2) n (n / 2 + 1 + a) b hn (by omega) (by omega)
  refine go (fn := g529) rfl rfl fun R hR => ?_
  simp [g529, t, w1, w2, e1, e2, w3, e3, -Int.natCast_add, -Int.natCast_ediv]
  exact hR _ _ ⟨ps, G, s3, hl, fun b hb => by have := hG b hb; omega, (d2.keeps k3).mono (by omega), (k1.trans k2).trans (k3.but _), by omega⟩
end GL

namespace GL
open Go

end GL

namespace GL
open Go

end GL

namespace GL
open Go

theorem links_good {c : Hs} (hb : houseB c = true) : linksB (linksR c.heard c.groups) = true ∧ (linksR c.heard c.groups).length = c.heard.deeds.length := by
  obtain ⟨hg, hgl, h8⟩ := houseB_facts hb
  have hq : allQ c.heard c.groups = true := hb
  have hl : (linksR c.heard c.groups).length = c.heard.deeds.length := by simp [linksR, hq, allP, hgl]
  refine ⟨?_, hl⟩
  simp only [linksB, Bool.and_eq_true, decide_eq_true_eq]
  refine ⟨by omega, List.all_eq_true.2 fun xs hx => ?_⟩
  rw [hl]
  simp only [linksR, hq, if_true] at hx
  obtain ⟨i, hi, rfl⟩ := List.mem_map.1 hx
  have hi' : i < c.groups.length := List.mem_range.1 hi
  simp only [allQ, Bool.and_eq_true, decide_eq_true_eq] at hq
  have hgq := List.all_eq_true.1 hq.2 _ (List.getElem_mem hi')
  have hgd : c.groups.getD i [] = c.groups[i] := by rw [List.getD_eq_getElem?_getD, List.getElem?_eq_getElem hi']; rfl
  rw [hgd]
  simp only [risB, decide_eq_true_eq]
  refine ⟨fun x hx => ?_, ofL_rising _ _ _⟩
  obtain ⟨p, hp, hxp⟩ := (mem_ofL hg (groupQ_in hgq)).1 hx
  have := depsL_in hg (groupQ_in hgq p hp) hxp
  omega
end GL

namespace GL
open Go

end GL

namespace GL
open Go

end GL

namespace GL
open Go

end GL

namespace GL
open Go

end GL

namespace GL
open Go

theorem Od.draw {α : Type} [Data α] {h0 h h1 g : Heap} {N lo : Nat} {v : V} {xs : List α} {G G' : List Nat} (d : DC h0 h1 N) (kb : KeepsBut h0.length g h1) (od : Od lo h v xs G) (k1 : KeepsBut h0.length h h1) (l1 : h.length ≤ h1.length) (hlo : g.length ≤ lo) (hc : h0.length < lo) (gG : ∀ b ∈ G, lo ≤ b)
    (hG : ∀ b ∈ G', h.length ≤ b) {x : α} {cs : List V} (hr : Data.rep h1 x cs G') (hx : xs.length ≤ 2 ^ 20) {k bytes : Nat} (hk : k = Data.sz α) (hb : bytes ≤ 2 ^ 8) :
    ∃ v' h2, appH k bytes v 1 cs (h1 ++ [⟨.own, cs⟩]) = some (v', h2) ∧ Od lo h2 v' (xs ++ [x]) (G ++ G') ∧ DC h0 h2 N ∧ KeepsBut h0.length g h2 ∧ h1.length < h2.length := by
  have hge := fun i (hi : vB v i) => od.ge hi
  have kl : Keeps h1 (h1 ++ [⟨.own, cs⟩]) := Keeps.append h1 _
  have kp1 : KeepsP (fun b => b ≠ h0.length) h (h1 ++ [⟨.own, cs⟩]) := k1.P.trans (kl.p _)
  have nG : ∀ b ∈ G, b ≠ h0.length := fun b hb => by have := gG b hb; omega
  have od1 : Od lo (h1 ++ [⟨.own, cs⟩]) v xs G := od.keeps kp1 (fun i hi => by have := (hge i hi).1; omega) nG (by simp; omega)
  have hnv : ∀ b ∈ G', ¬ vB v b := fun b hb hv => by have := (hge b hv).2; have := hG b hb; omega
  obtain ⟨v', h2, e, o2, kp, l2, b2⟩ := od1.app (zs := [x]) (G := G') (by simp) (.one (Data.keeps hr (kl.p _))) hnv hb (by simp; omega) hk rfl
  have k2 : KeepsP (fun i => ¬ vB v i) h1 h2 := fun i blk hi h3 h4 => kp i blk hi (kl i blk h3 h4) h4
  exact ⟨v', h2, e, o2, d.far k2 fun i hi hv => by have := (hge i hv).1; omega, kb.far k2 fun i hi _ hv => by have := (hge i hv).1; omega, by simp at l2; omega⟩
theorem Od.geF {α : Type} [Data α] {lo : Nat} {h : Heap} {v : V} {xs : List α} {F : List Nat} (od : Od lo h v xs F) (gF : ∀ b ∈ F, lo ≤ b) : ∃ F', SdF h v xs F' ∧ ∀ b ∈ F', lo ≤ b := by
  obtain ⟨F', hs, rfl | ⟨rfl, hv, _⟩⟩ := od.sd
  · exact ⟨_, hs, gF⟩
  · refine ⟨_, hs, fun b hb => ?_⟩
    rcases List.mem_cons.1 hb with rfl | hb
    · exact (od.ge hv).1
    · exact gF b hb
end GL

namespace GL
open Go

end GL

namespace GL
open Go

end GL

namespace GL
open Go

end GL

namespace GL
open Go

def clR (d e : Dd) : V := .tup [.bool (okD d && okD e && clD d e), .bool (okD d && okD e)]
theorem ClashOf_eq (d e : Dd) (h : Heap) : call p 470 [dv d, dv e] h = some (clR d e, h) := by
  have e1 := isDeed_eq d h
  have e2 := isDeed_eq e h
  have e3 := clashing_eq d e h
  refine go_eq (fn := g470) rfl rfl fun R hR => ?_
  unfold clR at hR
  cases h1 : okD d <;> cases h2 : okD e <;> rw [h1, h2] at hR <;> rw [h1] at e1 <;> rw [h2] at e2 <;> simp [g470, fillL, upd, e1, e2, e3] <;> simpa using hR
theorem ClashOfS_eq (d e : Dd) (h : Heap) : call p 471 [dv d, dv e] h = some (clR d e, h) := by
  have e1 := l13Deed_eq d h
  have e2 := l13Deed_eq e h
  have e3 := l13Clash_eq d e h
  refine go_eq (fn := g471) rfl rfl fun R hR => ?_
  unfold clR at hR
  cases h1 : okD d <;> cases h2 : okD e <;> rw [h1, h2] at hR <;> rw [h1] at e1 <;> rw [h2] at e2 <;> simp [g471, fillL, upd, e1, e2, e3] <;> simpa using hR
def missC (c : Hd) (rs : List (List Int)) (i q : Nat) : Bool := clD (dAt c i) (dAt c q) && !decide ((q : Int) ∈ rs.getD i []) && !decide ((i : Int) ∈ rs.getD q [])
def missP (c : Hd) (rs : List (List Int)) (i m : Nat) : List Int := ((List.range m).filter fun q => decide (i < q) && missC c rs i q).map fun (q : Nat) => 8 * (i : Int) + q
def missAll (c : Hd) (rs : List (List Int)) (m : Nat) : List Int := ((List.range m).map fun i => missP c rs i rs.length).flatten
theorem missP_len (c : Hd) (rs : List (List Int)) (i m : Nat) : (missP c rs i m).length ≤ m := by
  rw [missP, List.length_map]; exact Nat.le_trans (List.length_filter_le ..) (by simp)
theorem missAll_len (c : Hd) (rs : List (List Int)) (m : Nat) : (missAll c rs m).length ≤ m * rs.length := by
  induction m with
  | zero => simp [missAll]
  | succ m ih =>
    have := missP_len c rs m rs.length
    simp only [missAll, List.range_succ, List.map_append, List.flatten_append, List.length_append, List.map_cons, List.map_nil, List.flatten_cons, List.flatten_nil, List.append_nil, Nat.add_mul, Nat.one_mul] at ih ⊢
    omega
theorem missAll_succ (c : Hd) (rs : List (List Int)) (m : Nat) : missAll c rs (m + 1) = missAll c rs m ++ missP c rs m rs.length := by
  simp [missAll, List.range_succ]
theorem missP_succ (c : Hd) (rs : List (List Int)) (i m : Nat) (h : i < m) : missP c rs i (m + 1) = missP c rs i m ++ (if missC c rs i m = true then [8 * (i : Int) + m] else []) := by
  simp only [missP, List.range_succ, List.filter_append, List.map_append, List.filter_cons, List.filter_nil, decide_eq_true h, Bool.true_and]
  split <;> simp
theorem missP_start (c : Hd) (rs : List (List Int)) (i : Nat) : missP c rs i (i + 1) = [] := by
  simp only [missP, List.map_eq_nil_iff, List.filter_eq_nil_iff, List.mem_range, Bool.and_eq_true, decide_eq_true_eq, not_and]
  intro q hq h; omega
def missQ (c : Hd) (rs : List (List Int)) : Bool := goodH c && decide (rs.length = c.deeds.length) && rs.all (risB 0 ((c.deeds.length : Int) - 1))
end GL

namespace GL
open Go

theorem getD_row {rs : List (List Int)} {i : Nat} (hi : i < rs.length) : rs.getD i [] = rs[i] := by
  rw [List.getD_eq_getElem?_getD, List.getElem?_eq_getElem hi]; rfl

theorem miss_in468 {h : Heap} {x y w : V} {c : Hd} {rs : List (List Int)} {F1 F9 : List Nat} (hx : SdF h x c.deeds F1) (hw : SdF h w rs F9) (hl : rs.length = c.deeds.length) (h8 : c.deeds.length ≤ 8) {i : Nat} (hi : i < c.deeds.length) {base : List Int} (hbl : base.length ≤ 100) {u : V} (s0 : S) (K : Ex → S → Prop)
    (hk0 : Keeps h s0.h) (ou : Out h.length s0.h u base) (g6 : s0.σ 6 = .v u) (g8 : s0.σ 8 = .v (vi (i + 1 : Nat))) (g7 : s0.σ 7 = .v (vi i)) (g1 : s0.σ 1 = .v w) (g2 : s0.σ 2 = .lp 2 1 0) (gL : s0.L 2 = (1, [vi c.no, x, y]))
    (hK : ∀ s v, (∀ k, k ∉ [6, 8, 25, 26, 27, 28, 29, 30, 31, 32, 33, 34, 35, 36, 37, 38, 39, 40, 41, 42, 43, 44, 45, 46, 47, 48, 49, 50, 51, 52, 53, 54, 55, 56, 57, 58, 59, 60, 61, 62, 63, 64, 65, 66] → s.σ k = s0.σ k) → s.L = s0.L → s.σ 6 = .v v → Out h.length s.h v (base ++ missP c rs i rs.length) → Keeps h s.h → s0.h.length ≤ s.h.length → K (.exit 2) s) : Wc p (.loop g468_0) s0 K := by
  refine Wc_upM (M := [6, 8, 25, 26, 27, 28, 29, 30, 31, 32, 33, 34, 35, 36, 37, 38, 39, 40, 41, 42, 43, 44, 45, 46, 47, 48, 49, 50, 51, 52, 53, 54, 55, 56, 57, 58, 59, 60, 61, 62, 63, 64, 65, 66]) rfl rs.length (fun j s => j ≤ rs.length ∧ s.σ 8 = .v (vi j) ∧ s.L = s0.L ∧ (∃ v, s.σ 6 = .v v ∧ Out h.length s.h v (base ++ missP c rs i j)) ∧ i < j ∧ Keeps h s.h ∧ s0.h.length ≤ s.h.length) (i + 1)
    ⟨by omega, by simp [g8], rfl, ⟨u, g6, by rw [missP_start, List.append_nil]; exact ou⟩, by omega, hk0, Nat.le_refl _⟩ fun j s ⟨gj, gJ, gL', ⟨v, gO, so⟩, hij, hk, hln⟩ hM J hJ => ?_
  have wl := hw.len
  by_cases hj : j < rs.length
  · have hjn : j < c.deeds.length := by omega
    have hir : i < rs.length := by omega
    obtain ⟨a1, a2⟩ := readD (hx.keep hk).sl (k := (i : Int)) (by omega)
    obtain ⟨b1, b2⟩ := readD (hx.keep hk).sl (k := (j : Int)) (by omega)
    simp only [Int.toNat_natCast] at a1 a2 b1 b2
    have ec := l13Clash_eq (dAt c i) (dAt c j) s.h
    obtain ⟨zi, Fi, li, hzi, _⟩ := (hw.keep hk).loadL i hir
    obtain ⟨zj, Fj, lj, hzj, _⟩ := (hw.keep hk).loadL j hj
    have ii := hw.idx 1 .i64 i hir
    have ij := hw.idx 1 .i64 j hj
    simp only [Nat.mul_one] at ii ij
    have e1 := l1Has_eq hzi.sl (j : Int)
    have e2 := l1Has_eq hzj.sl (i : Int)
    have st : IntKind.i64.wrap ((j : Int) + 1) = j + 1 := by rw [IntWalk.i64_in] <;> omega
    have hmc : missC c rs i j = (clD (dAt c i) (dAt c j) && !decide ((j : Int) ∈ rs[i]) && !decide ((i : Int) ∈ rs[j])) := by rw [missC, getD_row hir, getD_row hj]
    have hps := missP_succ c rs i j hij
    rw [hmc] at hps
    have hml := missP_len c rs i j
    have w1 : IntKind.i64.wrap (8 * (i : Int)) = 8 * i := by rw [IntWalk.i64_in] <;> omega
    have w2 : IntKind.i64.wrap (8 * (i : Int) + j) = 8 * i + j := by rw [IntWalk.i64_in] <;> omega
    have hM1 : s.σ 7 = .v (vi i) := by rw [hM 7 (by decide)]; exact g7
    have hM2 : s.σ 1 = .v w := by rw [hM 1 (by decide)]; exact g1
    have hM3 : s.σ 2 = .lp 2 1 0 := by rw [hM 2 (by decide)]; exact g2
    have hL2 : s.L 2 = (1, [vi c.no, x, y]) := by rw [gL']; exact gL
    have no : ∀ b, b = false → (base ++ missP c rs i j ++ (if b = true then [8 * (i : Int) + j] else [])) = base ++ missP c rs i j := fun b hb => by rw [hb]; simp
    generalize clD (dAt c i) (dAt c j) = q1 at *
    generalize decide ((j : Int) ∈ rs[i]) = q2 at *
    generalize decide ((i : Int) ∈ rs[j]) = q3 at *
    by_cases hq : (q1 && !q2 && !q3) = true
    · simp only [Bool.and_eq_true, Bool.not_eq_true'] at hq
      obtain ⟨⟨rfl, rfl⟩, rfl⟩ := hq
      obtain ⟨v6, h3, e5, o3, k3, l3⟩ := so.one (8 * (i : Int) + j) (by rw [List.length_append]; omega)
      simp [g468_0, gJ, gO, hM1, hM2, hM3, hL2, wl, hj, a1, a2, b1, b2, ec, ii, ij, li, lj, e1, e2, w1, w2, fillL, rdS_last, e5, st]
      exact hJ _ hj ⟨hj, by simp, gL', ⟨v6, by simp, by rw [hps]; simpa [List.append_assoc] using o3⟩, by omega, so.far hk k3 (Nat.le_refl _), by show s0.h.length ≤ h3.length; omega⟩
    · have hf : (q1 && !q2 && !q3) = false := by simpa using hq
      rw [hf] at hps
      have so' : Out h.length s.h v (base ++ missP c rs i (j + 1)) := by rw [hps]; simpa using so
      cases q1
      · simp [g468_0, gJ, gO, hM1, hM2, hM3, hL2, wl, hj, a1, a2, b1, b2, ec, st]
        exact hJ _ hj ⟨hj, by simp, gL', ⟨v, by simp [gO], so'⟩, by omega, hk, hln⟩
      · cases q2
        · cases q3
          · simp at hf
          · simp [g468_0, gJ, gO, hM1, hM2, hM3, hL2, wl, hj, a1, a2, b1, b2, ec, ii, ij, li, lj, e1, e2, st]
            exact hJ _ hj ⟨hj, by simp, gL', ⟨v, by simp [gO], so'⟩, by omega, hk, hln⟩
        · simp [g468_0, gJ, gO, hM1, hM2, hM3, hL2, wl, hj, a1, a2, b1, b2, ec, ii, li, e1, st]
          exact hJ _ hj ⟨hj, by simp, gL', ⟨v, by simp [gO], so'⟩, by omega, hk, hln⟩
  · have : j = rs.length := by omega
    subst this
    have hM2 : s.σ 1 = .v w := by rw [hM 1 (by decide)]; exact g1
    simp [g468_0, gJ, gO, hM2, wl]
    exact hK _ v (fun k hk => by
      have h9 := hM k hk
      simp only [upd]
      repeat rw [if_neg (fun e => by subst e; simp at hk)]
      exact h9) gL' (by simp [gO]) so hk hln

theorem miss_in466 {h : Heap} {x y w : V} {c : Hd} {rs : List (List Int)} {F1 F9 : List Nat} {b6 : Nat} (hx : SdF h x c.deeds F1) (hw : SdF h w rs F9) (hl : rs.length = c.deeds.length) (h8 : c.deeds.length ≤ 8) {i : Nat} (hi : i < c.deeds.length) {base : List Int} (hbl : base.length ≤ 100) {u : V} (s0 : S) (K : Ex → S → Prop)
    (hk0 : Keeps h s0.h) (ou : Out h.length s0.h u base) (g7 : s0.σ 7 = .v u) (g9 : s0.σ 9 = .v (vi (i + 1 : Nat))) (g8 : s0.σ 8 = .v (vi i)) (g1 : s0.σ 1 = .v w) (g2 : s0.σ 2 = .lp 2 1 0) (gL : s0.L 2 = (1, [vi c.no, x, y])) (g6 : s0.σ 6 = .v (.ptr b6 0)) (r6 : rdH s0.h b6 0 1 = some [vi rs.length]) (hkb : ∀ g, Keeps h g → rdH g b6 0 1 = some [vi rs.length])
    (hK : ∀ s v, (∀ k, k ∉ [7, 9, 34, 35, 36, 37, 38, 39, 40, 41, 42, 43, 44, 45, 46, 47, 48, 49, 50, 51, 52, 53, 54, 55, 56, 57, 58, 59, 60, 61, 62, 63, 64, 65, 66, 67, 68, 69, 70, 71, 72, 73, 74] → s.σ k = s0.σ k) → s.L = s0.L → s.σ 7 = .v v → Out h.length s.h v (base ++ missP c rs i rs.length) → Keeps h s.h → s0.h.length ≤ s.h.length → K (.exit 2) s) : Wc p (.loop g466_0) s0 K := by
  refine Wc_upM (M := [7, 9, 34, 35, 36, 37, 38, 39, 40, 41, 42, 43, 44, 45, 46, 47, 48, 49, 50, 51, 52, 53, 54, 55, 56, 57, 58, 59, 60, 61, 62, 63, 64, 65, 66, 67, 68, 69, 70, 71, 72, 73, 74]) rfl rs.length (fun j s => j ≤ rs.length ∧ s.σ 9 = .v (vi j) ∧ s.L = s0.L ∧ (∃ v, s.σ 7 = .v v ∧ Out h.length s.h v (base ++ missP c rs i j)) ∧ i < j ∧ Keeps h s.h ∧ s0.h.length ≤ s.h.length) (i + 1)
    ⟨by omega, by simp [g9], rfl, ⟨u, g7, by rw [missP_start, List.append_nil]; exact ou⟩, by omega, hk0, Nat.le_refl _⟩ fun j s ⟨gj, gJ, gL', ⟨v, gO, so⟩, hij, hk, hln⟩ hM J hJ => ?_
  have wl := hw.len
  have gp : s.σ 6 = .v (.ptr b6 0) := by rw [hM 6 (by decide)]; exact g6
  have rp := hkb _ hk
  by_cases hj : j < rs.length
  · have hjn : j < c.deeds.length := by omega
    have hir : i < rs.length := by omega
    obtain ⟨a1, a2⟩ := readD (hx.keep hk).sl (k := (i : Int)) (by omega)
    obtain ⟨b1, b2⟩ := readD (hx.keep hk).sl (k := (j : Int)) (by omega)
    simp only [Int.toNat_natCast] at a1 a2 b1 b2
    have ec := clashing_eq (dAt c i) (dAt c j) s.h
    obtain ⟨zi, Fi, li, hzi, _⟩ := (hw.keep hk).loadL i hir
    obtain ⟨zj, Fj, lj, hzj, _⟩ := (hw.keep hk).loadL j hj
    have ii := hw.idx 1 .i64 i hir
    have ij := hw.idx 1 .i64 j hj
    simp only [Nat.mul_one] at ii ij
    have e1 := containsI_eq hzi.sl (j : Int)
    have e2 := containsI_eq hzj.sl (i : Int)
    have st : IntKind.i64.wrap ((j : Int) + 1) = j + 1 := by rw [IntWalk.i64_in] <;> omega
    have hmc : missC c rs i j = (clD (dAt c i) (dAt c j) && !decide ((j : Int) ∈ rs[i]) && !decide ((i : Int) ∈ rs[j])) := by rw [missC, getD_row hir, getD_row hj]
    have hps := missP_succ c rs i j hij
    rw [hmc] at hps
    have hml := missP_len c rs i j
    have w1 : IntKind.i64.wrap (8 * (i : Int)) = 8 * i := by rw [IntWalk.i64_in] <;> omega
    have w2 : IntKind.i64.wrap (8 * (i : Int) + j) = 8 * i + j := by rw [IntWalk.i64_in] <;> omega
    have hM1 : s.σ 8 = .v (vi i) := by rw [hM 8 (by decide)]; exact g8
    have hM2 : s.σ 1 = .v w := by rw [hM 1 (by decide)]; exact g1
    have hM3 : s.σ 2 = .lp 2 1 0 := by rw [hM 2 (by decide)]; exact g2
    have hL2 : s.L 2 = (1, [vi c.no, x, y]) := by rw [gL']; exact gL
    have no : ∀ b, b = false → (base ++ missP c rs i j ++ (if b = true then [8 * (i : Int) + j] else [])) = base ++ missP c rs i j := fun b hb => by rw [hb]; simp
    generalize clD (dAt c i) (dAt c j) = q1 at *
    generalize decide ((j : Int) ∈ rs[i]) = q2 at *
    generalize decide ((i : Int) ∈ rs[j]) = q3 at *
    by_cases hq : (q1 && !q2 && !q3) = true
    · simp only [Bool.and_eq_true, Bool.not_eq_true'] at hq
      obtain ⟨⟨rfl, rfl⟩, rfl⟩ := hq
      obtain ⟨v6, h3, e5, o3, k3, l3⟩ := so.one (8 * (i : Int) + j) (by rw [List.length_append]; omega)
      simp [g466_0, gJ, gO, hM1, hM2, hM3, hL2, wl, gp, rp, hj, a1, a2, b1, b2, ec, ii, ij, li, lj, e1, e2, w1, w2, fillL, rdS_last, e5, st]
      exact hJ _ hj ⟨hj, by simp, gL', ⟨v6, by simp, by rw [hps]; simpa [List.append_assoc] using o3⟩, by omega, so.far hk k3 (Nat.le_refl _), by show s0.h.length ≤ h3.length; omega⟩
    · have hf : (q1 && !q2 && !q3) = false := by simpa using hq
      rw [hf] at hps
      have so' : Out h.length s.h v (base ++ missP c rs i (j + 1)) := by rw [hps]; simpa using so
      cases q1
      · simp [g466_0, gJ, gO, hM1, hM2, hM3, hL2, wl, gp, rp, hj, a1, a2, b1, b2, ec, st]
        exact hJ _ hj ⟨hj, by simp, gL', ⟨v, by simp [gO], so'⟩, by omega, hk, hln⟩
      · cases q2
        · cases q3
          · simp at hf
          · simp [g466_0, gJ, gO, hM1, hM2, hM3, hL2, wl, gp, rp, hj, a1, a2, b1, b2, ec, ii, ij, li, lj, e1, e2, st]
            exact hJ _ hj ⟨hj, by simp, gL', ⟨v, by simp [gO], so'⟩, by omega, hk, hln⟩
        · simp [g466_0, gJ, gO, hM1, hM2, hM3, hL2, wl, gp, rp, hj, a1, a2, b1, b2, ec, ii, li, e1, st]
          exact hJ _ hj ⟨hj, by simp, gL', ⟨v, by simp [gO], so'⟩, by omega, hk, hln⟩
  · have : j = rs.length := by omega
    subst this
    have hM2 : s.σ 1 = .v w := by rw [hM 1 (by decide)]; exact g1
    simp [g466_0, gJ, gO, hM2, wl, gp, rp]
    exact hK _ v (fun k hk => by
      have h9 := hM k hk
      simp only [upd]
      repeat rw [if_neg (fun e => by subst e; simp at hk)]
      exact h9) gL' (by simp [gO]) so hk hln
end GL

namespace GL
open Go

theorem miss1_eq {h : Heap} {b n : Nat} (hb : rdH h b 0 1 = some [vi n]) (hn : n ≤ 100) {v : V} {xs : List Int} (hs : Sl h v xs) : call p 534 [v, .ptr b 0] h = some (.bool !risB 0 ((n : Int) - 1) xs, h) := by
  have w : IntKind.i64.wrap ((n : Int) - 1) = (n : Int) - 1 := by rw [IntWalk.i64_in] <;> omega
  refine go_eq (fn := g534) rfl rfl fun R hR => ?_
  simp [g534, hb, w, isRising_eq hs]; exact hR
theorem l13Rows_eq {h : Heap} {v w : V} {c : Hd} {F F9 : List Nat} (hc : HdV h v c F) (h8 : c.deeds.length ≤ 8) {rs : List (List Int)} (hw : SdF h w rs F9) : call p 536 [v, w] h = some (.bool (decide (rs.length = c.deeds.length) && rs.all (risB 0 ((c.deeds.length : Int) - 1))), h) := by
  obtain ⟨x, y, F1, F2, rfl, rfl, hx, hy⟩ := hc
  have w1 : IntKind.i64.wrap ((c.deeds.length : Int) - 1) = (c.deeds.length : Int) - 1 := by rw [IntWalk.i64_in] <;> omega
  refine go_eq (fn := g536) rfl rfl fun R hR => ?_
  simp [g536, fillL, upd, hx.cells, hx.cell, hy.cells, hy.cell, hw.len]
  refine Wc_upM (M := [4, 6, 9, 10, 11, 12, 13, 14, 15, 16, 17, 18, 19, 20]) rfl rs.length (fun i s => s.σ 9 = .v (vi i) ∧ s.h = h ∧ s.L 2 = (1, [vi c.no, x, y]) ∧ ∀ r ∈ rs.take i, risB 0 ((c.deeds.length : Int) - 1) r = true) 0 (by simp [upd]) fun i s ⟨g9, gh, gL, hall⟩ hM J hJ => ?_
  by_cases hi : i < rs.length
  · obtain ⟨z, Fz, lz, hz, _⟩ := hw.loadL i hi
    have iz := hw.idx 1 .i64 i hi
    simp only [Nat.mul_one] at iz
    have e1 := l1Rising_eq hz.sl 0 ((c.deeds.length : Int) - 1)
    cases hr : risB 0 ((c.deeds.length : Int) - 1) rs[i] with
    | false =>
      rw [hr] at e1
      simp [g536_0, hM, g9, gh, gL, hi, iz, lz, hx.len, w1, e1]
      have : (rs.all (risB 0 ((c.deeds.length : Int) - 1))) = false := List.all_eq_false.2 ⟨_, List.getElem_mem hi, by simp [hr]⟩
      rw [this, Bool.and_false] at hR; exact hR
    | true =>
      rw [hr] at e1
      simp [g536_0, hM, g9, gh, gL, hi, iz, lz, hx.len, w1, e1, hw.step hi]
      exact hJ _ hi ⟨by simp, rfl, by simp [gL], (all_take_succ hi).2 ⟨hall, hr⟩⟩
  · rw [List.take_of_length_le (by omega)] at hall
    have : (rs.all (risB 0 ((c.deeds.length : Int) - 1))) = true := List.all_eq_true.2 hall
    rw [this, Bool.and_true] at hR
    have hd : decide ((rs.length : Int) = c.deeds.length) = decide (rs.length = c.deeds.length) := by congr 1; refine propext ⟨fun h => by omega, fun h => by omega⟩
    simp [g536_0, hM, g9, gh, gL, hi, hw.len, hx.len, upd, hd]
    exact hR
theorem MissedByS_ok {h : Heap} {v w : V} {c : Hd} {F F9 : List Nat} (hc : HdV h v c F) {rs : List (List Int)} (hw : SdF h w rs F9) :
    ∃ r h', call p 468 [v, w] h = some (r, h') ∧ ∃ o, r = .tup [o, .bool (missQ c rs)] ∧ Sl h' o (if missQ c rs = true then missAll c rs rs.length else []) ∧ Keeps h h' ∧ h.length ≤ h'.length := by
  have e1 := GoodHeardS_eq hc
  have hcc := hc
  obtain ⟨x, y, F1, F2, rfl, rfl, hx, hy⟩ := hc
  refine go (fn := g468) rfl rfl fun R hR => ?_
  have fin : missQ c rs = false → R (.tup [.nils, .bool false]) h := fun hb => hR _ _ ⟨.nils, by rw [hb], by simp [hb]; exact Sl.nil, Keeps.refl _, Nat.le_refl _⟩
  cases hg : goodH c with
  | false =>
    rw [hg] at e1
    simp [g468, fillL, upd, hx.cells, hx.cell, hy.cells, hy.cell, e1]
    exact fin (by simp [missQ, hg])
  | true =>
    rw [hg] at e1
    obtain ⟨_, h8, _⟩ := goodH_facts hg
    have e2 := l13Rows_eq hcc h8 hw
    cases hq : (decide (rs.length = c.deeds.length) && rs.all (risB 0 ((c.deeds.length : Int) - 1))) with
    | false =>
      rw [hq] at e2
      simp [g468, fillL, upd, hx.cells, hx.cell, hy.cells, hy.cell, e1, e2]
      exact fin (by simp only [missQ, Bool.and_assoc, hq, Bool.and_false])
    | true =>
      rw [hq] at e2
      have hb : missQ c rs = true := by simp only [missQ, Bool.and_assoc, hq, hg, Bool.and_self]
      have hl : rs.length = c.deeds.length := by simp only [Bool.and_eq_true, decide_eq_true_eq] at hq; exact hq.1
      simp [g468, fillL, upd, hx.cells, hx.cell, hy.cells, hy.cell, e1, e2, hw.len]
      refine Wc_upM (M := [6, 7, 8, 20, 21, 22, 23, 24, 25, 26, 27, 28, 29, 30, 31, 32, 33, 34, 35, 36, 37, 38, 39, 40, 41, 42, 43, 44, 45, 46, 47, 48, 49, 50, 51, 52, 53, 54, 55, 56, 57, 58, 59, 60, 61, 62, 63, 64, 65, 66, 67]) rfl rs.length (fun i s => i ≤ rs.length ∧ s.σ 20 = .v (vi i) ∧ s.L 2 = (1, [vi c.no, x, y]) ∧ (∃ v, s.σ 6 = .v v ∧ Out h.length s.h v (missAll c rs i)) ∧ Keeps h s.h ∧ h.length ≤ s.h.length) 0
        ⟨by omega, by simp, by simp [upd], ⟨.nils, by simp, by simpa [missAll] using Out.nil (Nat.le_refl _)⟩, Keeps.refl _, Nat.le_refl _⟩ fun i s ⟨gi, g20, gL, ⟨v, g6, so⟩, hk, hln⟩ hM J hJ => ?_
      by_cases hi : i < rs.length
      · have st : IntKind.i64.wrap ((i : Int) + 1) = (i + 1 : Nat) := by rw [IntWalk.i64_in] <;> omega
        have hml := missAll_len c rs i
        have hm2 : i * rs.length ≤ 8 * 8 := Nat.mul_le_mul (by omega) (by omega)
        simp [g468_1, hM, g20, hi, st, -Int.natCast_add]
        have hic : i < c.deeds.length := by omega
        have hb100 : (missAll c rs i).length ≤ 100 := by omega
        refine miss_in468 (i := i) (base := missAll c rs i) hx hw hl h8 hic hb100 _ _ hk so (by simp [g6]) (by simp) (by simp) (by simp [hM]) (by simp [hM]) (by simpa using gL) fun t v' tM tL t6 to tk tl => ?_
        have t20 : t.σ 20 = .v (vi i) := by rw [tM 20 (by decide)]; simp [g20]
        simp [t20, st, -Int.natCast_add]
        exact hJ _ hi ⟨hi, by simp, by simp [tL, gL], ⟨v', by simp [t6], by rw [missAll_succ]; exact to⟩, tk, by show h.length ≤ t.h.length; have : s.h.length ≤ t.h.length := tl; omega⟩
      · have : i = rs.length := by omega
        subst this
        simp [g468_1, hM, g20, g6]
        exact hR _ _ ⟨v, by rw [hb], by simpa [hb] using so.sl, hk, hln⟩
end GL

namespace GL
open Go

theorem MissedBy_ok {h : Heap} {v w : V} {c : Hd} {F F9 : List Nat} (hc : HdV h v c F) {rs : List (List Int)} (hw : SdF h w rs F9) :
    ∃ r h', call p 466 [v, w] h = some (r, h') ∧ ∃ o, r = .tup [o, .bool (missQ c rs)] ∧ Sl h' o (if missQ c rs = true then missAll c rs rs.length else []) ∧ Keeps h h' ∧ h.length ≤ h'.length := by
  have k0 : Keeps h (h ++ [⟨.own, [vi c.deeds.length]⟩]) := Keeps.append _ _
  have hb0 : (h ++ [⟨.own, [vi c.deeds.length]⟩])[h.length]? = some ⟨.own, [vi c.deeds.length]⟩ := get_last _ _
  have r0 : rdH (h ++ [⟨.own, [vi c.deeds.length]⟩]) h.length 0 1 = some [vi c.deeds.length] := by rw [rdH_at hb0 (by simp)]; rfl
  have w0 : wrH (h ++ [⟨.own, [vi 0]⟩]) h.length 0 [vi c.deeds.length] = some (h ++ [⟨.own, [vi c.deeds.length]⟩]) := wrH_last rfl
  obtain ⟨_, h1, e1, rfl, k1, l1⟩ := GoodHeard_ok (hc.keep k0)
  have k01 := k0.trans k1
  have r1 := rdH_keep k1 r0
  obtain ⟨x, y, F1, F2, rfl, rfl, hx, hy⟩ := hc
  simp at l1
  refine go (fn := g466) rfl rfl fun R hR => ?_
  have fin : missQ c rs = false → R (.tup [.nils, .bool false]) h1 := fun hb => hR _ _ ⟨.nils, by rw [hb], by simp [hb]; exact Sl.nil, k01, by omega⟩
  cases hg : goodH c with
  | false =>
    rw [hg] at e1
    simp [g466, fillL, upd, hx.cells, hx.cell, hy.cells, hy.cell, hx.len, w0, e1]
    exact fin (by simp [missQ, hg])
  | true =>
    rw [hg] at e1
    obtain ⟨_, h8, _⟩ := goodH_facts hg
    by_cases hl : rs.length = c.deeds.length
    · have e2 := containsL_eq (hw.keep k01) (f := 534) (capt := [.ptr h.length 0]) (q := fun r => !risB 0 ((c.deeds.length : Int) - 1) r) fun z zs G hz => miss1_eq r1 (by omega) hz.sl
      have ea : (rs.any fun r => !risB 0 ((c.deeds.length : Int) - 1) r) = !(rs.all (risB 0 ((c.deeds.length : Int) - 1))) := by rw [List.not_all_eq_any_not]
      rw [ea] at e2
      cases hq : (rs.all (risB 0 ((c.deeds.length : Int) - 1))) with
      | false =>
        rw [hq] at e2
        simp [g466, fillL, upd, hx.cells, hx.cell, hy.cells, hy.cell, hx.len, w0, e1, r1, hw.len, hl, e2]
        exact fin (by simp only [missQ, hq, Bool.and_false])
      | true =>
        rw [hq] at e2
        have hb : missQ c rs = true := by simp [missQ, hq, hg, hl]
        have k2 : Keeps h1 (h1 ++ [⟨.own, []⟩]) := Keeps.append _ _
        have r2 := rdH_keep k2 r1
        have hw1 := hw.keep k01
        have hx1 := hx.keep k01
        simp [g466, fillL, upd, hx.cells, hx.cell, hy.cells, hy.cell, hx.len, w0, e1, r1, hw.len, hl, e2, r2]
        rw [← hl]
        refine Wc_upM (M := [7, 8, 9, 29, 30, 31, 32, 33, 34, 35, 36, 37, 38, 39, 40, 41, 42, 43, 44, 45, 46, 47, 48, 49, 50, 51, 52, 53, 54, 55, 56, 57, 58, 59, 60, 61, 62, 63, 64, 65, 66, 67, 68, 69, 70, 71, 72, 73, 74, 75]) rfl rs.length (fun i s => i ≤ rs.length ∧ s.σ 29 = .v (vi i) ∧ s.L 2 = (1, [vi c.no, x, y]) ∧ (∃ v, s.σ 7 = .v v ∧ Out h1.length s.h v (missAll c rs i)) ∧ Keeps h1 s.h ∧ h1.length ≤ s.h.length) 0
          ⟨by omega, by simp, by simp [upd], ⟨_, by simp; rfl, by simpa [missAll] using Out.empty (Nat.le_refl _) (by simp)⟩, k2, by simp⟩ fun i s ⟨gi, g29, gL, ⟨v, g7, so⟩, hk, hln⟩ hM J hJ => ?_
        by_cases hi : i < rs.length
        · have st : IntKind.i64.wrap ((i : Int) + 1) = (i + 1 : Nat) := by rw [IntWalk.i64_in] <;> omega
          have hml := missAll_len c rs i
          have hm2 : i * rs.length ≤ 8 * 8 := Nat.mul_le_mul (by omega) (by omega)
          have hic : i < c.deeds.length := by omega
          have hb100 : (missAll c rs i).length ≤ 100 := by omega
          have rk : ∀ g, Keeps h1 g → rdH g h.length 0 1 = some [vi rs.length] := fun g kg => by rw [rdH_keep kg r1, hl]
          simp [g466_1, hM, g29, hi, st, -Int.natCast_add]
          refine miss_in466 (h := h1) (i := i) (base := missAll c rs i) (b6 := h.length) hx1 hw1 hl h8 hic hb100 _ _ hk so (by simp [g7]) (by simp) (by simp) (by simp [hM]) (by simp [hM]) (by simpa using gL) (by simp [hM]) (rk _ hk) rk fun t v' tM tL t7 to tk tl => ?_
          have t29 : t.σ 29 = .v (vi i) := by rw [tM 29 (by decide)]; simp [g29]
          simp [t29, st, -Int.natCast_add]
          exact hJ _ hi ⟨hi, by simp, by simp [tL, gL], ⟨v', by simp [t7], by rw [missAll_succ]; exact to⟩, tk, by show h1.length ≤ t.h.length; have : s.h.length ≤ t.h.length := tl; omega⟩
        · have : i = rs.length := by omega
          subst this
          simp [g466_1, hM, g29, g7]
          exact hR _ _ ⟨v, by rw [hb], by simpa [hb] using so.sl, k01.trans hk, by omega⟩
    · have hl2 : ¬ (rs.length : Int) = c.deeds.length := by omega
      simp [g466, fillL, upd, hx.cells, hx.cell, hy.cells, hy.cell, hx.len, w0, e1, r1, hw.len, hl2, hl]
      exact fin (by simp [missQ, hl])
end GL

namespace GL
open Go

theorem ahead_or {row : List Int} {a b : Int} (ha : a ∈ row) (hb : b ∈ row) (hne : a ≠ b) : a ∈ (row.takeWhile fun x => !decide (x = b)) ∨ b ∈ (row.takeWhile fun x => !decide (x = a)) := by
  induction row with
  | nil => simp at ha
  | cons y row ih =>
    by_cases h1 : y = a
    · left
      subst h1
      simp [hne]
    · by_cases h2 : y = b
      · right
        subst h2
        simp [h1]
      · have ha' : a ∈ row := by rcases List.mem_cons.1 ha with h | h; exact absurd h.symm h1; exact h
        have hb' : b ∈ row := by rcases List.mem_cons.1 hb with h | h; exact absurd h.symm h2; exact h
        rcases ih ha' hb' with h | h
        · left; simp [h2]; right; simpa using h
        · right; simp [h1]; right; simpa using h
theorem clD_comm (d e : Dd) : clD d e = clD e d := by
  simp only [clD]
  rw [Bool.or_comm]
  congr 1
  simp [eq_comm]
theorem common {n : Nat} {as bs : List Int} (ha : as.Nodup) (hb : bs.Nodup) (hin : ∀ x ∈ as ++ bs, 0 ≤ x ∧ x < (n : Int)) (hl : n < as.length + bs.length) : ∃ x, x ∈ as ∧ x ∈ bs := by
  refine Decidable.byContradiction fun hno => ?_
  have hnd : (as ++ bs).Nodup := List.nodup_append.2 ⟨ha, hb, fun x hx y hy e => by subst e; exact hno ⟨x, hx, hy⟩⟩
  have := nodup_len hnd hin
  rw [List.length_append] at this; omega
theorem miss_none {c : Hd} {gs : List (List Int)} (hq : allQ c gs = true) {i q : Nat} (hi : i < gs.length) (hqq : q < gs.length) (hne : i ≠ q) : missC c (linksR c gs) i q = false := by
  have hq2 := hq
  simp only [allQ, Bool.and_eq_true, decide_eq_true_eq] at hq2
  obtain ⟨⟨hg, hl⟩, hall⟩ := hq2
  obtain ⟨hno, h8, _, hrows⟩ := goodH_facts hg
  have hlen : (linksR c gs).length = gs.length := by simp [linksR, hq, allP]
  have get : ∀ j : Nat, (hj : j < gs.length) → (linksR c gs).getD j [] = ofL c (j : Int) gs[j] := fun j hj => by
    rw [getD_row (by omega)]
    have : (linksR c gs)[j]? = some (ofL c (j : Int) gs[j]) := by
      simp only [linksR, hq, if_true, allP, List.getElem?_map, List.getElem?_range hj, Option.map_some, List.getD_eq_getElem?_getD, List.getElem?_eq_getElem hj, Option.getD_some]
    rw [List.getElem?_eq_getElem (by omega)] at this
    exact Option.some.inj this
  have gi := List.all_eq_true.1 hall _ (List.getElem_mem hi)
  have gq := List.all_eq_true.1 hall _ (List.getElem_mem hqq)
  have ii := groupQ_in gi
  have iq := groupQ_in gq
  simp only [groupQ, Bool.and_eq_true, decide_eq_true_eq, risB] at gi gq
  simp only [missC, get i hi, get q hqq]
  cases hcl : clD (dAt c i) (dAt c q) with
  | false => rfl
  | true =>
    obtain ⟨p, hp1, hp2⟩ := common (n := c.no.toNat) (as := gs[i]) (bs := gs[q]) (gi.1.2.imp fun h => by omega) (gq.1.2.imp fun h => by omega) (fun x hx => by
      rcases List.mem_append.1 hx with h | h
      · have := ii x h; omega
      · have := iq x h; omega) (by have := gi.2; have := gq.2; omega)
    obtain ⟨_, _, _, hcov⟩ := hrows _ (rows_get hg (ii p hp1)).2.2
    have ci := hcov i (by omega)
    have cq := hcov q (by omega)
    rcases ahead_or ci cq (by omega) with h | h
    · have hd : (i : Int) ∈ depsL c p (q : Int) := (srtI_perm _).mem_iff.2 (List.mem_filter.2 ⟨h, hcl⟩)
      have := (mem_ofL hg iq (a := (q : Int))).2 ⟨p, hp2, hd⟩
      simp [this]
    · have hd : (q : Int) ∈ depsL c p (i : Int) := (srtI_perm _).mem_iff.2 (List.mem_filter.2 ⟨h, by show clD (dAt c q) (dAt c i) = true; rw [clD_comm]; exact hcl⟩)
      have := (mem_ofL hg ii (a := (i : Int))).2 ⟨p, hp1, hd⟩
      simp [this]
theorem missAll_none {c : Hd} {gs : List (List Int)} (hq : allQ c gs = true) : missAll c (linksR c gs) (linksR c gs).length = [] := by
  have hlen : (linksR c gs).length = gs.length := by simp [linksR, hq, allP]
  simp only [missAll, List.flatten_eq_nil_iff, List.mem_map, List.mem_range]
  rintro l ⟨i, hi, rfl⟩
  simp only [missP, List.map_eq_nil_iff, List.filter_eq_nil_iff, List.mem_range, Bool.and_eq_true, decide_eq_true_eq, not_and]
  intro q hq2 hiq
  rw [miss_none hq (by omega) (by omega) (by omega)]
  simp
end GL

namespace GL
open Go

theorem drawClashOf_ok {h : Heap} {v : V} {bs : List Byte} (hs : Sl h v bs) : ∃ r h', call p 469 [v] h = some (r, h') ∧ ∃ d e : Dd, r = .tup [dv d, dv e] ∧ Keeps h h' ∧ h.length ≤ h'.length := by
  have d0 := DC.start hs
  obtain ⟨a, h1, e1, ha, d1, k1, l1⟩ := d0.pick (by decide) 3 (by decide)
  obtain ⟨b, h2, e2, d2, k2, l2⟩ := d1.one (by decide) 2 (by decide)
  obtain ⟨m, h3, e3, hm, d3, k3, l3⟩ := d2.pick (by decide) 12 (by decide)
  obtain ⟨f, h4, e4, d4, k4, l4⟩ := d3.one (by decide) 2 (by decide)
  have w : IntKind.i64.wrap ((m : Int) - 1) = (m : Int) - 1 := by rw [IntWalk.i64_in] <;> omega
  simp at l1
  refine go (fn := g469) rfl rfl fun R hR => ?_
  simp [g469, hs.cells, hs.cell, fillL, upd, e1, e2, e3, e4, w, resV, mkV]
  exact hR _ _ ⟨⟨(a : Int), b⟩, ⟨(m : Int) - 1, f⟩, rfl, d4.keep, by omega⟩
theorem drawAllDeps_ok {h : Heap} {v : V} {bs : List Byte} (hs : Sl h v bs) : ∃ r h', call p 461 [v] h = some (r, h') ∧ ∃ (w u : V) (c : Hd) (F G : List Nat) (gs : List (List Int)), r = .tup [w, u] ∧ HdV h' w c F ∧ SdF h' u gs G ∧ Keeps h h' ∧ h.length ≤ h'.length := by
  have d0 := DC.start hs
  obtain ⟨w, h1, e1, c, F, hc, hno, hd, hF, d1, k1, l1⟩ := d0.heard (by decide)
  obtain ⟨x, y, F1, F2, rfl, rfl, hx, hy⟩ := hc
  obtain ⟨n, hn⟩ : ∃ n : Nat, c.no = n := ⟨c.no.toNat, by omega⟩
  have ne1 : ∀ b ∈ F1, b ≠ h.length := fun b hb => by have := hF b (by simp [hb]); simp at this; omega
  have ne2 : ∀ b ∈ F2, b ≠ h.length := fun b hb => by have := hF b (by simp [hb]); simp at this; omega
  have lt1 : ∀ b ∈ F1, b < h1.length := fun b hb => hx.ltF hb
  have lt2 : ∀ b ∈ F2, b < h1.length := fun b hb => hy.ltF hb
  simp at l1 e1
  have hlt : h.length < h1.length := d1.lt
  refine go (fn := g461) rfl rfl fun R hR => ?_
  simp [g461, hs.cells, hs.cell, fillL, upd, e1, hx.cells, hx.cell, hy.cells, hy.cell, hx.len]
  refine Wc_upM (M := [6, 15, 16, 17, 18, 19, 20, 21, 22, 23, 24]) rfl c.deeds.length (fun i s => i ≤ c.deeds.length ∧ s.σ 15 = .v (vi i) ∧ s.L 2 = (1, [.int .i64 0, .nils, .nils]) ∧ s.L 5 = (1, [vi c.no, x, y]) ∧ (∃ (r : V) (gs : List (List Int)) (G : List Nat), s.σ 6 = .v r ∧ Od h1.length s.h r gs G ∧ (∀ b ∈ G, h1.length ≤ b) ∧ gs.length = i) ∧ DC h s.h (0 + 700 + 10 * i) ∧ KeepsBut h.length h1 s.h ∧ h1.length ≤ s.h.length) 0
    ⟨by omega, by simp, by simp [upd], by simp [upd], ⟨.nils, [], [], by simp, Od.nil (Nat.le_refl _), by simp, rfl⟩, by simpa using d1, KeepsBut.refl _ _, Nat.le_refl _⟩ fun i s ⟨gi, g15, gL2, gL, ⟨r, gs, G, g6, og, gG, hgl⟩, dc, kb, hl⟩ hM J hJ => ?_
  by_cases hi : i < c.deeds.length
  · obtain ⟨q, h2, e2, ps, Gq, sq, hql, hGq, d2, k2, l2⟩ := dc.group (by omega) n (by omega)
    rw [← hn] at e2
    obtain ⟨v9, h3, e3, o3, d3, k3, l3⟩ := Od.draw d2 (kb.trans k2) og k2 l2 (Nat.le_refl _) (by omega) gG hGq (x := ps) (cs := [q]) ⟨q, rfl, sq⟩ (by omega) (k := 1) (bytes := 24) rfl (by decide)
    have gG3 : ∀ b ∈ G ++ Gq, h1.length ≤ b := fun b hb => by
      rcases List.mem_append.1 hb with h | h
      · exact gG b h
      · have := hGq b h; omega
    have st := hx.step hi
    simp [g461_0, hM, g15, g6, gL, upd, hi, e2, fillL, rdS_last, sq.cells, sq.cell, e3, st]
    exact hJ _ hi ⟨hi, by simp, by simp [gL2], by simp [gL], ⟨v9, _, _, by simp, o3, gG3, by simp [hgl]⟩, d3.mono (by omega), k3, by show h1.length ≤ h3.length; omega⟩
  · have : i = c.deeds.length := by omega
    subst this
    have hx1 := hx.keeps (kb.P.mono ne1)
    have hy1 := hy.keeps (kb.P.mono ne2)
    by_cases h0' : 0 < gs.length
    · obtain ⟨b, h2, e2, d2, k2, l2⟩ := dc.one (by omega) 30 (by decide)
      have hx2 := hx1.keeps (k2.P.mono ne1)
      have hy2 := hy1.keeps (k2.P.mono ne2)
      have og2 : Od h1.length h2 r gs G := og.keeps k2.P (fun j hj e => by have := (og.ge hj).1; omega) (fun j hj e => by have := gG j hj; omega) (by omega)
      obtain ⟨F9, s9, g9⟩ := og2.geF gG
      cases b with
      | false =>
        simp [g461_0, hM, g15, g6, gL, gL2, upd, s9.len, h0', e2, hx.cell, hy.cell, resV, mkV]
        exact hR _ _ ⟨_, r, c, F1 ++ F2, F9, gs, rfl, ⟨x, y, F1, F2, rfl, rfl, hx2, hy2⟩, s9, d2.keep, by omega⟩
      | true =>
        obtain ⟨_, _, ⟨_, e, _⟩ | ⟨b, cs, rfl, hb, hlo, hr, hnb⟩ | ⟨_, _, e, _⟩⟩ := og2
        · subst e; simp at h0'
        · have kl : Keeps h2 (h2 ++ [⟨.own, [vi 0]⟩]) := Keeps.append _ _
          have s10 := s9.keep kl
          have hbl := get_lt hb
          have own10 : OwnB (h2 ++ [⟨.own, [vi 0]⟩]) b := ⟨cs, kl _ _ hb (by simp)⟩
          have sl := Sl.lit (h := h2) [(0 : Int)] 1 rfl [vi 0] rfl (.k 1) (by simp)
          obtain ⟨Gl, sdl, hGl, _⟩ := Sl.sdF sl (Nat.le_refl 1)
          obtain ⟨h3, F3, e3, s3, _, k3, l3, _⟩ := SdF.putX (v := .slice b 0 gs.length (.o (Data.sz (List Int)))) (F := b :: G) ⟨by have := s9.bd; exact this, .inr ⟨b, 0, _, rfl, rfl, .inr ⟨_, cs, G, rfl, kl _ _ hb (by simp), by simp, by simp only [cut, hr.len, Nat.zero_add, Nat.le_refl, if_true, List.drop_zero]; rw [← hr.len, List.take_length], hr.keeps (kl.p _)⟩⟩⟩ (fun G' e => by simp only [bOf, List.cons.injEq, true_and] at e ⊢; subst e; exact hnb) own10 (i := 0) h0' (x' := [0]) (cs' := [.slice h2.length 0 1 (.k 1)]) (G' := Gl) ⟨_, rfl, sdl⟩ (fun hm => by have := (hGl _ hm).1; simp [bOf] at this; omega)
          simp [bOf, oOf] at e3
          have hk3 : Keeps h h3 := Keeps.far (n := h1.length) ((d2.keep).trans kl) k3 (by omega) fun j hj e => by simp [bOf] at e; omega
          have nx : ∀ z ∈ F1, z ≠ b := fun z hz e => by have := lt1 z hz; omega
          have ny : ∀ z ∈ F2, z ≠ b := fun z hz e => by have := lt2 z hz; omega
          have hx3 := (hx2.keep kl).keeps (k3.mono nx)
          have hy3 := (hy2.keep kl).keeps (k3.mono ny)
          simp [g461_0, hM, g15, g6, gL, gL2, upd, s9.len, h0', e2, idxV_s, e3, hx.cell, hy.cell, resV, mkV]
          exact hR _ _ ⟨_, _, c, F1 ++ F2, F3, _, rfl, ⟨x, y, F1, F2, rfl, rfl, hx3, hy3⟩, s3, hk3, by simp at l3; omega⟩
        · subst e; simp at h0'
    · obtain ⟨F9, s9, g9⟩ := og.geF gG
      simp [g461_0, hM, g15, g6, gL, gL2, upd, s9.len, h0', hx.cell, hy.cell, resV, mkV]
      exact hR _ _ ⟨_, r, c, F1 ++ F2, F9, gs, rfl, ⟨x, y, F1, F2, rfl, rfl, hx1, hy1⟩, s9, dc.keep, by omega⟩
end GL

namespace GL
open Go

theorem AllDepsS2_ok {h : Heap} {v w : V} {c : Hd} {F F9 : List Nat} (hc : HdV h v c F) {gs : List (List Int)} (hp : SdF h w gs F9) :
    ∃ r h', call p 463 [v, w] h = some (r, h') ∧ ∃ o G, r = .tup [o, .bool (allQ c gs)] ∧ Od h.length h' o (linksR c gs) G ∧ (∀ b ∈ G, h.length ≤ b) ∧ Keeps h h' ∧ h.length ≤ h'.length := by
  have e1 := GoodHeardS_eq hc
  have hcc := hc
  obtain ⟨x, y, F1, F2, rfl, rfl, hx, hy⟩ := hc
  refine go (fn := g463) rfl rfl fun R hR => ?_
  have fin : ∀ h', allQ c gs = false → Keeps h h' → h.length ≤ h'.length → R (.tup [.nils, .bool false]) h' := fun h' hb hk hl => hR _ _ ⟨.nils, [], by rw [hb], by simp [linksR, hb]; exact Od.nil hl, by simp, hk, hl⟩
  cases hg : goodH c with
  | false =>
    rw [hg] at e1
    simp [g463, fillL, upd, hx.cells, hx.cell, hy.cells, hy.cell, e1]
    exact fin _ (by simp [allQ, hg]) (Keeps.refl _) (Nat.le_refl _)
  | true =>
    rw [hg] at e1
    by_cases hl : gs.length = c.deeds.length
    · have hl2 : (gs.length : Int) = c.deeds.length := by omega
      simp [g463, fillL, upd, hx.cells, hx.cell, hy.cells, hy.cell, e1, hp.len, hx.len, hl2]
      obtain ⟨_, h8, _⟩ := goodH_facts hg
      rw [← hl]
      refine Wc_upM (M := [4, 5, 6, 7, 8, 22, 23, 24, 25, 26, 27, 28, 29, 30, 31, 32, 33, 34, 35, 36, 37, 38]) rfl gs.length (fun i s => i ≤ gs.length ∧ s.σ 22 = .v (vi i) ∧ s.L 2 = (1, [vi c.no, x, y]) ∧ (∃ u G, s.σ 6 = .v u ∧ Od h.length s.h u (allP c gs i) G ∧ ∀ b ∈ G, h.length ≤ b) ∧ (∀ g ∈ gs.take i, groupQ c g = true) ∧ Keeps h s.h ∧ h.length ≤ s.h.length) 0
        ⟨by omega, by simp, by simp [upd], ⟨.nils, [], by simp, by simpa [allP] using Od.nil (Nat.le_refl _), by simp⟩, by simp, Keeps.refl _, by simp⟩ fun i s ⟨gi, g22, gL, ⟨u, G, g6, ou, gG⟩, hall, hk, hln⟩ hM J hJ => ?_
      by_cases hi : i < gs.length
      · obtain ⟨z, F3, ez, hz, _⟩ := (hp.keep hk).loadL i hi
        have iz := hp.idx 1 .i64 i hi
        simp only [Nat.mul_one] at iz
        have e2 := l13Group_eq (hcc.keep hk) hg hz.sl
        rw [show (risB 0 (c.no - 1) gs[i] && decide (c.no.toNat / 2 + 1 ≤ gs[i].length)) = groupQ c gs[i] from rfl] at e2
        cases hq : groupQ c gs[i] with
        | false =>
          rw [hq] at e2
          simp [g463_0, hM, g22, g6, gL, hi, iz, ez, e2]
          have : (gs.all (groupQ c)) = false := List.all_eq_false.2 ⟨_, List.getElem_mem hi, by simp [hq]⟩
          exact fin _ (by simp only [allQ, this, Bool.and_false]) hk hln
        | true =>
          rw [hq] at e2
          obtain ⟨r4, h4, e4, G4, s4, f4, k4, l4⟩ := l13Of_ok (hcc.keep hk) hg (a := (i : Int)) (by omega) hz.sl (groupQ_in hq)
          have hpl : (allP c gs i).length ≤ 2 ^ 20 := by simp [allP]; omega
          obtain ⟨v6, h5, e5, o5, kk5, l5⟩ := ou.one k4 l4 f4 (x := ofL c (i : Int) gs[i]) (cs := [r4]) ⟨r4, rfl, s4⟩ hpl (k := 1) (bytes := 24) rfl (by decide)
          rw [← allP_succ c gs i hi] at o5
          simp [g463_0, hM, g22, g6, gL, hi, iz, ez, e2, e4, s4.cells, s4.cell, fillL, rdS_last, e5, hp.step hi]
          exact hJ _ hi ⟨hi, by simp, by simp [gL], ⟨v6, _, by simp, o5, fun b hb => by
            rcases List.mem_append.1 hb with h9 | h9
            · exact gG b h9
            · have := f4 b h9; omega⟩, (all_take_succ hi).2 ⟨hall, hq⟩, kk5 _ hk (Nat.le_refl _), by show h.length ≤ h5.length; omega⟩
      · have : i = gs.length := by omega
        subst this
        rw [List.take_length] at hall
        have hb : allQ c gs = true := by simp only [allQ, hg, hl, decide_true, Bool.true_and]; exact List.all_eq_true.2 hall
        simp [g463_0, hM, g22, g6]
        exact hR _ _ ⟨u, G, by rw [hb], by simpa [linksR, hb] using ou, gG, hk, hln⟩
    · have hl2 : ¬ (gs.length : Int) = c.deeds.length := by omega
      simp [g463, fillL, upd, hx.cells, hx.cell, hy.cells, hy.cell, e1, hp.len, hx.len, hl2]
      exact fin _ (by simp [allQ, hl]) (Keeps.refl _) (Nat.le_refl _)

theorem drawMissedBy_ok {h : Heap} {v : V} {bs : List Byte} (hs : Sl h v bs) : ∃ r h', call p 467 [v] h = some (r, h') ∧ ∃ (w u : V) (c : Hd) (F G : List Nat) (rs : List (List Int)), r = .tup [w, u] ∧ HdV h' w c F ∧ SdF h' u rs G ∧ Keeps h h' ∧ h.length ≤ h'.length := by
  obtain ⟨_, h1, e1, w, u, c, F, G, gs, rfl, hc, sg, k1, l1⟩ := drawAllDeps_ok hs
  have hs1 := hs.keeps k1
  have d0 := DC.start hs1
  have k0 : Keeps h1 (h1 ++ [⟨.own, [v, vi 0, .int .u64 0]⟩]) := Keeps.append _ _
  obtain ⟨_, h2, e2, o, Go, rfl, og, gG, k2, l2⟩ := AllDepsS2_ok (hc.keep k0) (sg.keep k0)
  have d2 := d0.keeps k2
  have k02 := k0.trans k2
  have hcc := hc.keep k02
  obtain ⟨F9, s9, g9⟩ := og.geF gG
  obtain ⟨x, y, F1, F2, rfl, rfl, hx, hy⟩ := hc
  simp at l2
  have hc1 : HdV h1 (.agg [vi c.no, x, y]) c (F1 ++ F2) := ⟨x, y, F1, F2, rfl, rfl, hx, hy⟩
  refine go (fn := g467) rfl rfl fun R hR => ?_
  have out : R (.tup [.agg [vi c.no, x, y], o]) h2 := hR _ _ ⟨_, o, c, _, F9, _, rfl, hcc, s9, k1.trans k02, by omega⟩
  cases hq : allQ c gs with
  | false =>
    rw [hq] at e2
    simp [g467, hs.cells, hs.cell, fillL, upd, e1, hx.cells, hx.cell, hy.cells, hy.cell, e2, resV, mkV]
    exact out
  | true =>
    rw [hq] at e2
    generalize hrs : linksR c gs = rs at *
    by_cases h0 : 0 < rs.length
    · have hrl : rs.length < 2 ^ 40 := og.1
      obtain ⟨b, h3, e3, d3, k3, l3⟩ := d2.one (by decide) 2 (by decide)
      have k3' := d3.keep
      have og3 : Od (h1 ++ [(⟨.own, [v, vi 0, .int .u64 0]⟩ : Blk)]).length h3 o rs Go := og.keeps k3.P (fun j hj e => by have := (og.ge hj).1; simp at this; omega) (fun j hj e => by have := gG j hj; simp at this; omega) (by omega)
      obtain ⟨F8, s8, g8⟩ := og3.geF gG
      have nF : ∀ z ∈ F1 ++ F2, z < h1.length := fun z hz => by
        have := hcc.lt hz
        rcases List.mem_append.1 hz with h9 | h9
        · exact hx.ltF h9
        · exact hy.ltF h9
      have hc3 : HdV h3 (.agg [vi c.no, x, y]) c (F1 ++ F2) := hc1.keep k3'
      cases b with
      | false =>
        simp [g467, hs.cells, hs.cell, fillL, upd, e1, hx.cells, hx.cell, hy.cells, hy.cell, e2, s9.len, h0, e3, resV, mkV]
        exact hR _ _ ⟨_, o, c, _, F8, rs, rfl, hc3, s8, k1.trans k3', by omega⟩
      | true =>
        obtain ⟨m, h4, e4, hm, d4, k4, l4⟩ := d3.pick (by decide) ((rs.length : Nat) : Int) (by omega)
        have k4' := d4.keep
        have og4 : Od (h1 ++ [(⟨.own, [v, vi 0, .int .u64 0]⟩ : Blk)]).length h4 o rs Go := og3.keeps k4.P (fun j hj e => by have := (og3.ge hj).1; simp at this; omega) (fun j hj e => by have := gG j hj; simp at this; omega) (by omega)
        obtain ⟨_, _, ⟨_, e, _⟩ | ⟨b, cs, rfl, hb, hlo, hr, hnb⟩ | ⟨_, _, e, _⟩⟩ := og4
        · subst e; simp at h0
        · have hml : m < rs.length := by omega
          obtain ⟨h5, F5, e5, s5, _, k5, l5, _⟩ := SdF.putX (v := .slice b 0 rs.length (.o (Data.sz (List Int)))) (F := b :: Go) (xs := rs) ⟨by omega, .inr ⟨b, 0, _, rfl, rfl, .inr ⟨_, cs, Go, rfl, hb, by simp, by simp only [cut, hr.len, Nat.zero_add, Nat.le_refl, if_true, List.drop_zero]; rw [← hr.len, List.take_length], hr⟩⟩⟩ (fun G' e => by simp only [bOf, List.cons.injEq, true_and] at e ⊢; subst e; exact hnb) ⟨cs, hb⟩ (i := m) hml (x' := []) (cs' := [.nils]) (G' := []) ⟨.nils, rfl, SdF.nil⟩ (by simp)
          have hsz : Data.sz (List Int) = 1 := rfl
          simp [bOf, oOf, hsz] at e5
          simp at hlo
          have hc4 : HdV h4 (.agg [vi c.no, x, y]) c (F1 ++ F2) := hc1.keep k4'
          have hc5 := hc4.keeps (k5.mono fun z hz e => by have := nF z hz; simp [bOf] at e; omega)
          have hk5 : Keeps h1 h5 := Keeps.far (n := h1.length) k4' k5 (Nat.le_refl _) fun j hj e => by simp [bOf] at e; omega
          simp [g467, hs.cells, hs.cell, fillL, upd, e1, hx.cells, hx.cell, hy.cells, hy.cell, e2, lenV_s, h0, e3, e4, idxV_s, hml, e5, resV, mkV]
          exact hR _ _ ⟨_, _, c, _, F5, _, rfl, hc5, s5, k1.trans hk5, by omega⟩
        · subst e; simp at h0
    · simp [g467, hs.cells, hs.cell, fillL, upd, e1, hx.cells, hx.cell, hy.cells, hy.cell, e2, s9.len, h0, resV, mkV]
      exact out
end GL

namespace GL
open Go

theorem deps_tail {H : Heap} {vb : V} {bs : List Byte} (hb : Sl H vb bs) : ∃ (x y w : V) (no : Int) (d e : Dd) (h1 h2 h3 h4 : Heap) (o1 o2 : V) (ok : Bool),
    (x.cells = [x] ∧ x.cell = true ∧ y.cells = [y] ∧ y.cell = true) ∧ call p 467 [vb] H = some (.tup [.agg [vi no, x, y], w], h1) ∧ call p 466 [.agg [vi no, x, y], w] h1 = some (.tup [o1, .bool ok], h2) ∧ call p 468 [.agg [vi no, x, y], w] h2 = some (.tup [o2, .bool ok], h3) ∧ call p 469 [vb] h3 = some (.tup [dv d, dv e], h4) ∧ call p 24 [o1, o2] h4 = some (.bool true, h4) := by
  obtain ⟨_, h1, e1, w, u, c, F, G, rs, rfl, hc, sr, k1, l1⟩ := drawMissedBy_ok hb
  obtain ⟨_, h2, e2, o1, rfl, s2, k2, l2⟩ := MissedBy_ok hc sr
  obtain ⟨_, h3, e3, o2, rfl, s3, k3, l3⟩ := MissedByS_ok (hc.keep k2) (sr.keep k2)
  obtain ⟨_, h4, e4, d, e, rfl, k4, l4⟩ := drawClashOf_ok (hb.keeps ((k1.trans k2).trans k3))
  have e5 := sameInts_eq (s2.keeps (k3.trans k4)) (s3.keeps k4)
  rw [decide_eq_true rfl] at e5
  obtain ⟨x, y, F1, F2, rfl, rfl, hx, hy⟩ := hc
  exact ⟨x, y, u, c.no, d, e, h1, h2, h3, h4, o1, o2, _, ⟨hx.cells, hx.cell, hy.cells, hy.cell⟩, e1, e2, e3, e4, e5⟩
theorem clR_comm (d e : Dd) : clR d e = clR e d := by
  simp only [clR]
  rw [clD_comm d e, Bool.and_comm (okD d)]
theorem links_miss {c : Hd} {gs : List (List Int)} (hq : allQ c gs = true) : missQ c (linksR c gs) = true := by
  have hq2 := hq
  simp only [allQ, Bool.and_eq_true, decide_eq_true_eq] at hq2
  obtain ⟨⟨hg, hl⟩, _⟩ := hq2
  obtain ⟨h1, h2⟩ := links_good (c := ⟨c, gs⟩) hq
  have h1' : linksB (linksR c gs) = true := h1
  have h2' : (linksR c gs).length = c.deeds.length := h2
  simp only [linksB, Bool.and_eq_true] at h1'
  simp only [missQ, hg, h2', decide_true, Bool.true_and]
  rw [← h2']; exact h1'.2
theorem ofL_self {c : Hd} (hg : goodH c = true) {ps : List Int} (hin : ∀ p ∈ ps, 0 ≤ p ∧ p ≤ c.no - 1) (a : Int) : a ∉ ofL c a ps := fun hm => by
  obtain ⟨p, hp, hx⟩ := (mem_ofL hg hin).1 hm
  have h1 := (srtI_perm (depsPre c (rowAt c p) a)).mem_iff.1 hx
  have h2 := (List.mem_filter.1 h1).1
  have : ∀ {l : List Int}, a ∈ (l.takeWhile fun x => !decide (x = a)) → False := fun {l} h => by
    induction l with
    | nil => simp at h
    | cons y l ih =>
      by_cases hy : y = a
      · simp [hy] at h
      · simp [hy] at h
        rcases h with h | h
        · exact hy h.symm
        · exact ih (by simpa using h)
  exact this h2
end GL

namespace GL
open Go

set_option maxRecDepth 20000 in
theorem FnDeps_ok {h : Heap} {va vb : V} {as bs : List Byte} (ha : Sl h va as) (hb : Sl h vb bs) : ∃ r h', call p 460 [va, vb] h = some (r, h') ∧ r = .bool true := by
  refine go (fn := g460) rfl rfl fun R hR => ?_
  by_cases hbig : (1048576 : Int) < IntKind.i64.wrap ((as.length : Int) + bs.length)
  · simp [g460, ha.len, hb.len, hbig]
    exact hR _ _ rfl
  · obtain ⟨_, h1, e1, w, u, c, F, G, gs, rfl, hc, sg, k1, l1⟩ := drawAllDeps_ok ha
    obtain ⟨_, h2, e2, o2, G2, rfl, s2, f2, k2, l2⟩ := AllDeps_ok hc sg
    obtain ⟨_, h3, e3, o3, G3, rfl, s3, k3, l3⟩ := AllDepsS_ok (hc.keep k2) (sg.keep k2)
    have k23 := k2.trans k3
    have e4 := sameRows_same (s2.keep k3) s3
    obtain ⟨_, h4, e5, rfl, k4, l4⟩ := GoodHeard_ok (hc.keep k23)
    have k24 := k23.trans k4
    have e6 := GoodHeardS_eq (hc.keep k24)
    have hc4 := hc.keep k24
    have sg4 := sg.keep k24
    have s24 := s2.keep (k3.trans k4)
    obtain ⟨x, y, F1, F2, rfl, rfl, hx, hy⟩ := hc
    cases hq : allQ c gs with
    | false =>
      rw [hq] at e2 e3
      obtain ⟨x2, y2, w2, no2, d, e, t1, t2, t3, t4, m1, m2, ok, ⟨q1, q2, q3, q4⟩, f1, f2, f3, f4, f5⟩ := deps_tail (hb.keeps (k1.trans k24))
      have c1 := ClashOf_eq d e t4
      have c2 := ClashOfS_eq d e t4
      have c3 := ClashOf_eq e d t4
      rw [clR_comm e d] at c3
      simp only [clR] at c1 c2 c3
      generalize (okD d && okD e && clD d e) = z1 at *
      generalize (okD d && okD e) = z2 at *
      simp [g460, ha.len, hb.len, hbig, fillL, upd, hx.cells, hx.cell, hy.cells, hy.cell, e1, e2, e3, e4, e5, e6, q1, q2, q3, q4, f1, f2, f3, f4, f5, c1, c2, c3]
      exact hR _ _ rfl
    | true =>
      rw [hq] at e2 e3
      have hq2 := hq
      simp only [allQ, Bool.and_eq_true, decide_eq_true_eq] at hq2
      obtain ⟨⟨hg, hgl⟩, hall⟩ := hq2
      obtain ⟨hlk, hll⟩ := links_good (c := ⟨c, gs⟩) hq
      have hll' : (linksR c gs).length = c.deeds.length := hll
      obtain ⟨_, h5, e7, o7, rfl, s7, k7, l7⟩ := MissedBy_ok hc4 s24
      rw [links_miss hq] at e7
      rw [links_miss hq, if_pos rfl, missAll_none hq] at s7
      have s7l := s7.len
      have hc5 := hc4.keep k7
      have sg5 := sg4.keep k7
      have s25 := s24.keep k7
      simp at s7l
      simp [g460, ha.len, hb.len, hbig, fillL, upd, hx.cells, hx.cell, hy.cells, hy.cell, e1, e2, e3, e4, e5, e6, e7, s7l, s25.len]
      refine Wc_upM (M := [4, 13, 14, 15, 16, 86, 87, 88, 89, 90, 91, 92, 93, 94, 95, 96, 97, 98, 99, 100, 101, 102, 103, 104, 105, 106, 107, 108, 109, 110, 111, 112, 113, 114]) rfl (linksR c gs).length (fun i s => i ≤ (linksR c gs).length ∧ s.σ 86 = .v (vi i) ∧ s.L 5 = (1, [vi c.no, x, y]) ∧ Keeps h5 s.h ∧ h5.length ≤ s.h.length) 0
        ⟨by omega, by simp, by simp [upd], Keeps.refl _, Nat.le_refl _⟩ fun i s ⟨gi, g86, gL, hk, hl⟩ hM J hJ => ?_
      by_cases hi : i < (linksR c gs).length
      · have hig : i < gs.length := by omega
        obtain ⟨zi, Fi, li, hzi, _⟩ := (s25.keep hk).loadL i hi
        have ii := s25.idx 1 .i64 i hi
        obtain ⟨zj, Fj, lj, hzj, _⟩ := (sg5.keep hk).loadL i hig
        have ij := sg5.idx 1 .i64 i hig
        simp only [Nat.mul_one] at ii ij
        obtain ⟨_, t1, f1, o8, G8, rfl, s8, f8, k8, l8⟩ := DepsOf_ok (hc5.keep hk) (i : Int) hzj.sl
        have hgq := List.all_eq_true.1 hall _ (List.getElem_mem hig)
        have hob : ofB c (i : Int) gs[i] = true := by
          simp only [ofB, okH, hg, hgq, Bool.true_and, Bool.and_true, decide_eq_true_eq]; omega
        rw [hob] at f1
        have hof : ofR c (i : Int) gs[i] = (linksR c gs)[i] := by
          have : (linksR c gs)[i]? = some (ofL c (i : Int) gs[i]) := by
            simp only [linksR, hq, if_true, allP, List.getElem?_map, List.getElem?_range hig, Option.map_some, List.getD_eq_getElem?_getD, List.getElem?_eq_getElem hig, Option.getD_some]
          rw [List.getElem?_eq_getElem hi] at this
          simp only [ofR, hob, if_true]; exact (Option.some.inj this).symm
        rw [hof] at s8
        have f2' := sameInts_eq s8.sl (hzi.sl.keeps k8)
        rw [decide_eq_true rfl] at f2'
        have f3' := has_eq (hzi.sl.keeps k8) (i : Int)
        have hself : ¬ (i : Int) ∈ (linksR c gs)[i] := by
          rw [← hof]; simp only [ofR, hob, if_true]; exact ofL_self hg (groupQ_in hgq) _
        rw [decide_eq_false hself] at f3'
        have lj' := lj
        have st := s25.step hi
        generalize (linksR c gs)[i] = li0 at *
        simp [g460_0, hM, g86, gL, hi, upd, ii, li, ij, lj, f1, f2', f3', st]
        exact hJ _ hi ⟨hi, by simp, by simp [gL], hk.trans k8, by show h5.length ≤ t1.length; omega⟩
      · obtain ⟨x2, y2, w2, no2, d, e, t1, t2, t3, t4, m1, m2, ok, ⟨q1, q2, q3, q4⟩, f1, f2, f3, f4, f5⟩ := deps_tail (hb.keeps (((k1.trans k24).trans k7).trans hk))
        have c1 := ClashOf_eq d e t4
        have c2 := ClashOfS_eq d e t4
        have c3 := ClashOf_eq e d t4
        rw [clR_comm e d] at c3
        simp only [clR] at c1 c2 c3
        generalize (okD d && okD e && clD d e) = z1 at *
        generalize (okD d && okD e) = z2 at *
        simp [g460_0, hM, g86, hi, upd, q1, q2, q3, q4, f1, f2, f3, f4, f5, c1, c2, c3]
        exact hR _ _ rfl
end GL

