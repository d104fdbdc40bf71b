import Derived.ChangeArms
import Derived.IntWalk
import Derived.WideShapes
import Derived.Test.YtpmpdfpgkcagnaaGuFnExactFastDeedsA
/- What the functions of the law do, on the machine. -/
set_option linter.unusedSimpArgs false
set_option linter.unusedVariables false
set_option linter.unnecessarySimpa false
namespace GL
open Go

theorem GoodHeardS_eq {h : Heap} {v : V} {c : Hd} {F : List Nat} (hc : HdV h v c F) : call p 465 [v] h = some (.bool (goodH c), h) := by
  obtain ⟨x, y, F1, F2, rfl, rfl, hx, hy⟩ := hc
  refine go_eq (fn := g465) rfl rfl fun R hR => ?_
  have bad : goodH c = false → R (.bool false) h := fun e => by rw [← e]; exact hR
  have hxs := hx.sl
  have w1 : IntKind.i64.wrap ((c.deeds.length : Int) - 1) = (c.deeds.length : Int) - 1 := by have := hx.bd; rw [IntWalk.i64_in] <;> omega
  have e1 := l11Places_eq c.no h
  cases hm : manyB c.no with
  | false =>
    rw [hm] at e1
    simp [g465, fillL, upd, hx.cells, hx.cell, hy.cells, hy.cell, hx.len, hy.len, e1]
    exact bad (by simp [goodH, hm])
  | true =>
    rw [hm] at e1
    by_cases h8 : c.deeds.length ≤ 8
    · have h8' : ¬ (8 : Int) < c.deeds.length := by omega
      by_cases hr : (c.rows.length : Int) = c.no
      · simp [g465, fillL, upd, hx.cells, hx.cell, hy.cells, hy.cell, hx.len, hy.len, e1, h8', hr]
        refine Wc_upM (M := [2, 5, 31, 32, 33, 34, 35, 36, 37, 38]) rfl c.deeds.length (fun i s => s.σ 31 = .v (vi i) ∧ s.h = h ∧ s.L 1 = (1, [vi c.no, x, y]) ∧ ∀ d ∈ c.deeds.take i, okD d = true) 0 (by simp [upd]) fun i s ⟨g31, gh, gL, hall⟩ hM J hJ => ?_
        by_cases hn : i < c.deeds.length
        · have ix := hxs.idx 2 .i64 i hn
          have ld := hxs.loadD i hn
          have e2 := l13Deed_eq c.deeds[i] h
          cases ho : okD c.deeds[i] with
          | false =>
            rw [ho] at e2
            simp [g465_0, hM, g31, gh, hn, ix, ld, upd, e2]
            have : (c.deeds.all okD) = false := List.all_eq_false.2 ⟨_, List.getElem_mem hn, by simp [ho]⟩
            exact bad (by simp [goodH, this])
          | true =>
            rw [ho] at e2
            simp [g465_0, hM, g31, gh, hn, ix, ld, upd, e2, hx.step hn]
            exact hJ _ hn ⟨by simp, rfl, by simp [upd, gL], (all_take_succ hn).2 ⟨hall, ho⟩⟩
        · rw [List.take_of_length_le (by omega)] at hall
          have hd : c.deeds.all okD = true := List.all_eq_true.2 hall
          simp [g465_0, hM, g31, gh, gL, hn, hy.len, upd]
          have hM1 := hM
          refine Wc_upM (M := [2, 7, 8, 42, 43, 44, 45, 46, 47, 48, 49, 50, 51, 52, 53, 54, 55, 56, 57, 58, 59, 60, 61, 62, 63, 64, 65, 66]) rfl c.rows.length (fun i s => s.σ 42 = .v (vi i) ∧ s.h = h ∧ ∀ r ∈ c.rows.take i, rowB c.deeds.length r = true) 0 (by simp) fun i s ⟨g42, gh, hall⟩ hM J2 hJ2 => ?_
          by_cases hi : i < c.rows.length
          · obtain ⟨z, F3, ez, hz, _⟩ := hy.loadL i hi
            have iy := hy.idx 1 .i64 i hi
            simp only [Nat.mul_one] at iy
            have badr : rowB c.deeds.length c.rows[i] = false → R (.bool false) h := fun e => by
              have : (c.rows.all (rowB c.deeds.length)) = false := List.all_eq_false.2 ⟨_, List.getElem_mem hi, by simp [e]⟩
              exact bad (by simp [goodH, this])
            by_cases hl : c.rows[i].length = c.deeds.length
            · have hl2 : (c.rows[i].length : Int) = c.deeds.length := by omega
              have e3 := l1All_eq hz.sl 0 ((c.deeds.length : Int) - 1)
              have hob := onceB_iff hl
              cases hall2 : (c.rows[i].all fun n => decide (0 ≤ n ∧ n ≤ (c.deeds.length : Int) - 1)) with
              | false =>
                rw [hall2] at e3
                simp [g465_2, hM, hM1, g42, gh, hi, iy, ez, hz.len, hl2, w1, e3]
                refine badr ?_
                simp only [rowB, hob, Bool.and_eq_false_iff, decide_eq_false_iff_not]
                refine .inr fun h2 => ?_
                have : (c.rows[i].all fun n => decide (0 ≤ n ∧ n ≤ (c.deeds.length : Int) - 1)) = true := List.all_eq_true.2 fun n hn => decide_eq_true (h2.1 n hn)
                rw [this] at hall2; cases hall2
              | true =>
                rw [hall2] at e3
                simp [g465_2, hM, hM1, g42, gh, hi, iy, ez, hz.len, hl2, w1, e3]
                have hM2 := hM
                refine Wc_upM (M := [2, 8, 57, 58, 59, 60, 61, 62, 63, 64, 65]) rfl c.deeds.length (fun j s => s.σ 8 = .v (vi j) ∧ s.h = h ∧ ∀ k : Nat, k < j → (k : Int) ∈ c.rows[i]) 0 (by simp) fun j s ⟨g8, gh, hall⟩ hM J3 hJ3 => ?_
                by_cases hj : j < c.deeds.length
                · have e4 := l1Has_eq hz.sl (j : Int)
                  by_cases hm2 : (j : Int) ∈ c.rows[i]
                  · rw [decide_eq_true hm2] at e4
                    simp [g465_1, hM, hM2, hM1, g8, gh, hj, e4, hx.step hj]
                    refine hJ3 _ hj ⟨by simp, rfl, fun k hk => ?_⟩
                    by_cases hkj : k = j
                    · subst hkj; exact hm2
                    · exact hall k (by omega)
                  · rw [decide_eq_false hm2] at e4
                    simp [g465_1, hM, hM2, hM1, g8, gh, hj, e4]
                    refine badr ?_
                    simp only [rowB, hob, Bool.and_eq_false_iff, decide_eq_false_iff_not]
                    exact .inr fun h2 => hm2 (h2.2 j hj)
                · simp [g465_1, hM, hM2, hM1, g8, g42, gh, hj, hy.step hi]
                  refine hJ2 _ hi ⟨by simp, rfl, (all_take_succ hi).2 ⟨‹_›, ?_⟩⟩
                  simp only [rowB, hob, hl, decide_true, Bool.true_and, decide_eq_true_eq]
                  exact ⟨fun n hn => by simpa using List.all_eq_true.1 hall2 n hn, fun k hk => hall k (by omega)⟩
            · have hl2 : ¬ (c.rows[i].length : Int) = c.deeds.length := by omega
              simp [g465_2, hM, hM1, g42, gh, hi, iy, ez, hz.len, hl2]
              exact badr (by simp [rowB, hl])
          · rw [List.take_of_length_le (by omega)] at hall
            have hrr : c.rows.all (rowB c.deeds.length) = true := List.all_eq_true.2 hall
            have hg : goodH c = true := by simp [goodH, hm, h8, hr, hd, hrr]
            rw [hg] at hR
            simp [g465_2, hM, hM1, g42, gh, hi]
            exact hR
      · simp [g465, fillL, upd, hx.cells, hx.cell, hy.cells, hy.cell, hx.len, hy.len, e1, h8', hr]
        exact bad (by simp [goodH, hr])
    · have h8' : (8 : Int) < c.deeds.length := by omega
      simp [g465, fillL, upd, hx.cells, hx.cell, hy.cells, hy.cell, hx.len, hy.len, e1, h8']
      exact bad (by simp [goodH, h8])
end GL

namespace GL
open Go

def dAt (c : Hd) (x : Int) : Dd := c.deeds.getD x.toNat zD
def clH (c : Hd) (x a : Int) : Bool := clD (dAt c x) (dAt c a)
/-- those that were heard ahead of a, and clash with it -/
def depsPre (c : Hd) (row : List Int) (a : Int) : List Int := (row.takeWhile fun x => !decide (x = a)).filter fun x => clH c x a
def rowAt (c : Hd) (r : Int) : List Int := c.rows.getD r.toNat []
def depsL (c : Hd) (r a : Int) : List Int := srtI (depsPre c (rowAt c r) a)
theorem takeW {row : List Int} {a : Int} {i : Nat} (hall : ∀ x ∈ row.take i, x ≠ a) (h : row.length ≤ i ∨ ∃ hi : i < row.length, row[i] = a) : (row.takeWhile fun x => !decide (x = a)) = row.take i := by
  induction row generalizing i with
  | nil => simp
  | cons y row ih =>
    cases i with
    | zero =>
      rcases h with h | ⟨_, h⟩
      · simp at h
      · simp at h; simp [h]
    | succ i =>
      have hy : y ≠ a := hall y (by simp)
      simp only [List.takeWhile_cons, List.take_succ_cons, decide_eq_false hy, Bool.not_false, if_true]
      rw [ih (i := i) (fun x hx => hall x (by simp [hx]))]
      rcases h with h | ⟨h1, h2⟩
      · simp at h; exact .inl h
      · exact .inr ⟨by simpa using h1, by simpa using h2⟩
theorem goodH_facts {c : Hd} (h : goodH c = true) : (3 ≤ c.no ∧ c.no ≤ 9) ∧ c.deeds.length ≤ 8 ∧ (c.rows.length : Int) = c.no ∧ (∀ r ∈ c.rows, r.length = c.deeds.length ∧ (∀ x ∈ r, 0 ≤ x ∧ x < (c.deeds.length : Int)) ∧ r.Nodup ∧ ∀ j : Nat, j < c.deeds.length → (j : Int) ∈ r) := by
  simp only [goodH, Bool.and_eq_true, decide_eq_true_eq, manyB] at h
  obtain ⟨⟨⟨⟨hm, h8⟩, hr⟩, hd⟩, hrr⟩ := h
  refine ⟨hm.1, h8, hr, fun r hr => ?_⟩
  have h1 := List.all_eq_true.1 hrr r hr
  simp only [rowB, Bool.and_eq_true, decide_eq_true_eq] at h1
  have h2 := h1.2
  rw [onceB_iff h1.1, decide_eq_true_eq] at h2
  have h3 := h1.2
  simp only [onceB, decide_eq_true_eq] at h3
  exact ⟨h1.1, fun x hx => ⟨(h2.1 x hx).1, by have := (h2.1 x hx).2; omega⟩, h3.2, h2.2⟩
theorem srtI_ext {xs ys : List Int} (hn : xs.Nodup) (hy : ys.Pairwise (· < ·)) (hm : ∀ x, x ∈ ys ↔ x ∈ xs) : ys = srtI xs := by
  have hp := srtI_perm xs
  exact rising_ext hy (sorted_nodup (srtI_le xs) (hp.nodup_iff.2 hn)) fun x => by rw [hm, hp.mem_iff]
theorem takeWhile_nodup {xs : List Int} (h : xs.Nodup) (q : Int → Bool) : (xs.takeWhile q).Nodup := List.Sublist.nodup (List.takeWhile_sublist q) h
theorem depsPre_nodup {c : Hd} {row : List Int} (h : row.Nodup) (a : Int) : (depsPre c row a).Nodup := List.Sublist.nodup List.filter_sublist (takeWhile_nodup h _)
theorem depsPre_len (c : Hd) (row : List Int) (a : Int) : (depsPre c row a).length ≤ row.length := Nat.le_trans (List.length_filter_le ..) ((List.takeWhile_sublist _).length_le)

/-- one step of the reading: the deeds at x and at a -/
theorem readD {h : Heap} {x : V} {c : Hd} (hx : Sl h x c.deeds) {k : Int} (hk : 0 ≤ k ∧ k < c.deeds.length) : idxV 2 x (vi k) = some (.ptr (bOf x) (oOf x + k.toNat * 2)) ∧ rdH h (bOf x) (oOf x + k.toNat * 2) 2 = some [vi (dAt c k).key, .bool (dAt c k).wr] := by
  obtain ⟨i, rfl⟩ : ∃ i : Nat, k = i := ⟨k.toNat, by omega⟩
  have hi : i < c.deeds.length := by omega
  have e1 := hx.idx 2 .i64 i hi
  have e2 := hx.loadD i hi
  simp only [dAt, Int.toNat_natCast, List.getD_eq_getElem?_getD, List.getElem?_eq_getElem hi, Option.getD_some]
  exact ⟨e1, e2⟩
theorem readL {h : Heap} {y : V} {ls : List (List Int)} {F : List Nat} (hy : SdF h y ls F) {k : Int} (hk : 0 ≤ k ∧ k < ls.length) : ∃ z G, idxV 1 y (vi k) = some (.ptr (bOf y) (oOf y + k.toNat)) ∧ rdH h (bOf y) (oOf y + k.toNat) 1 = some [z] ∧ SdF h z (ls.getD k.toNat []) G ∧ ∀ b ∈ G, b ∈ F := by
  obtain ⟨i, rfl⟩ : ∃ i : Nat, k = i := ⟨k.toNat, by omega⟩
  have hi : i < ls.length := by omega
  have e1 := hy.idx 1 .i64 i hi
  obtain ⟨z, G, e2, hz, hG⟩ := hy.loadL i hi
  simp only [Nat.mul_one] at e1
  simp only [Int.toNat_natCast, List.getD_eq_getElem?_getD, List.getElem?_eq_getElem hi, Option.getD_some]
  exact ⟨z, G, e1, e2, hz, hG⟩
theorem isOneH_eq {h : Heap} {v : V} {c : Hd} {F : List Nat} (hc : HdV h v c F) (a : Int) : call p 518 [v, vi a] h = some (.bool (decide (0 ≤ a ∧ a ≤ (c.deeds.length : Int) - 1)), h) := by
  obtain ⟨x, y, F1, F2, rfl, rfl, hx, hy⟩ := hc
  have w1 : IntKind.i64.wrap ((c.deeds.length : Int) - 1) = (c.deeds.length : Int) - 1 := by have := hx.bd; rw [IntWalk.i64_in] <;> omega
  refine go_eq (fn := g518) rfl rfl fun R hR => ?_
  simp [g518, fillL, upd, hx.cells, hx.cell, hy.cells, hy.cell, hx.len, w1, -Bool.decide_and]; exact hR
theorem rows_get {c : Hd} (hg : goodH c = true) {r : Int} (hr : 0 ≤ r ∧ r ≤ c.no - 1) : 0 ≤ r ∧ r < (c.rows.length : Int) ∧ c.rows.getD r.toNat [] ∈ c.rows := by
  obtain ⟨_, _, h3, _⟩ := goodH_facts hg
  have hi : r.toNat < c.rows.length := by omega
  refine ⟨hr.1, by omega, ?_⟩
  rw [List.getD_eq_getElem?_getD, List.getElem?_eq_getElem hi]
  exact List.getElem_mem hi
theorem depsH_ok {h : Heap} {v : V} {c : Hd} {F : List Nat} (hc : HdV h v c F) (hg : goodH c = true) {r a : Int} (hr : 0 ≤ r ∧ r ≤ c.no - 1) (ha : 0 ≤ a ∧ a ≤ (c.deeds.length : Int) - 1) :
    ∃ w h', call p 519 [v, vi r, vi a] h = some (w, h') ∧ ∃ G, SdF h' w (depsL c r a) G ∧ Fresh h.length h' G ∧ Keeps h h' ∧ h.length ≤ h'.length := by
  obtain ⟨x, y, F1, F2, rfl, rfl, hx, hy⟩ := hc
  obtain ⟨r0, r1, hmem⟩ := rows_get hg hr
  obtain ⟨_, h8, _, hrows⟩ := goodH_facts hg
  obtain ⟨hlen, hin, hnd, hcov⟩ := hrows _ hmem
  obtain ⟨z, G0, ez1, ez2, hz, _⟩ := readL hy ⟨r0, r1⟩
  unfold depsL
  change SdF h z (rowAt c r) G0 at hz
  change rowAt c r ∈ c.rows at hmem
  change (rowAt c r).length = _ at hlen
  change ∀ x ∈ rowAt c r, _ at hin
  change (rowAt c r).Nodup at hnd
  generalize rowAt c r = row at *
  have k0 : Keeps h (h ++ [⟨.own, []⟩]) := Keeps.append _ _
  obtain ⟨a1, a2⟩ := readD (hx.keep k0).sl (k := a) (by omega)
  have hz0 := rdH_keep k0 ez2
  refine go (fn := g519) rfl rfl fun R hR => ?_
  have fin : ∀ (i : Nat) (w : V) (h1 : Heap), Out h.length h1 w ((row.take i).filter fun x => clH c x a) → (row.takeWhile fun x => !decide (x = a)) = row.take i → Keeps h h1 → h.length ≤ h1.length →
      ∃ h2, call p 340 [w] h1 = some (.tup [], h2) ∧ ∃ G, SdF h2 w (srtI (depsPre c row a)) G ∧ Fresh h.length h2 G ∧ Keeps h h2 ∧ h.length ≤ h2.length := fun i w h1 ho ht hk hl => by
    have he : ((row.take i).filter fun x => clH c x a) = depsPre c row a := by rw [depsPre, ht]
    rw [he] at ho
    obtain ⟨G, sG, fG⟩ := ho.fr
    obtain ⟨_, h2, e2, ys, rfl, s2, p2, o2, k2, l2, ow2⟩ := sortI_ok sG fG.own (Nat.le_trans (depsPre_len c row a) (by omega))
    have hys : ys = srtI (depsPre c row a) := srtI_ext (depsPre_nodup hnd a) (sorted_nodup o2 (p2.nodup_iff.2 (depsPre_nodup hnd a))) fun x => p2.mem_iff
    rw [hys] at s2
    exact ⟨h2, e2, G, s2, ⟨fG.nodup, fG.ge, fun b hb => ow2 b (fG.own b hb)⟩, Keeps.far (n := h.length) hk k2 (Nat.le_refl _) fun i hi hm => by have := fG.ge i hm; omega, by omega⟩
  simp [g519, fillL, upd, hx.cells, hx.cell, hy.cells, hy.cell, ez1, hz0, hz.len]
  refine Wc_upM (M := [7, 9, 17, 18, 19, 20, 21, 22, 23, 24, 25, 26, 27, 28, 29, 30, 31, 32, 33, 34, 35, 36, 37, 38, 39]) rfl row.length (fun i s => s.σ 17 = .v (vi i) ∧ s.L 3 = (1, [vi c.no, x, y]) ∧ (∃ w, s.σ 7 = .v w ∧ Out h.length s.h w ((row.take i).filter fun x => clH c x a)) ∧ (∀ x ∈ row.take i, x ≠ a) ∧ Keeps h s.h ∧ h.length ≤ s.h.length) 0
    ⟨by simp, by simp [upd], ⟨_, by simp; rfl, by simpa using Out.empty (Nat.le_refl _) (by simp)⟩, by simp, k0, by simp⟩ fun i s ⟨g17, gL, ⟨w, g7, ho⟩, hall, hk, hl⟩ hM J hJ => ?_
  by_cases hn : i < row.length
  · have hz' := hz.keep hk
    have ix := hz'.idx 1 .i64 i hn
    have ld := hz'.sl.loadI i hn
    simp only [Nat.mul_one] at ix
    have ht := List.take_succ_eq_append_getElem hn
    by_cases he : row[i] = a
    · obtain ⟨h2, e2, G, q1, q2, q3, q4⟩ := fin i w s.h ho (takeW hall (.inr ⟨hn, he⟩)) hk hl
      have ld2 : rdH s.h (bOf z) (oOf z + i) 1 = some [vi a] := by rw [ld, he]
      simp [g519_0, hM, g17, g7, hn, ix, ld2, upd, e2]
      exact hR _ _ ⟨G, q1, q2, q3, q4⟩
    · have hxi := hin _ (List.getElem_mem hn)
      obtain ⟨b1, b2⟩ := readD (hx.keep hk).sl hxi
      have a2' := rdH_keep hk (readD hx.sl (k := a) (by omega)).2
      have ec := clashing_eq (dAt c row[i]) (dAt c a) s.h
      have ht2 : (row.take (i + 1)).filter (fun x => clH c x a) = (row.take i).filter (fun x => clH c x a) ++ (if clH c row[i] a = true then [row[i]] else []) := by
        rw [ht, List.filter_append, List.filter_cons, List.filter_nil]
      have hall2 : ∀ x ∈ row.take (i + 1), x ≠ a := (all_take_succ hn).2 ⟨hall, he⟩
      have st := hz.step hn
      cases hcl : clH c row[i] a with
      | false =>
        have hcl' : clD (dAt c row[i]) (dAt c a) = false := hcl
        rw [hcl'] at ec
        rw [hcl] at ht2
        generalize row[i] = xi at *
        simp [g519_0, hM, g17, g7, gL, hn, ix, ld, upd, he, b1, b2, a1, a2', ec, st]
        refine hJ _ hn ⟨by simp, by simp [upd, gL], ⟨w, by simp [g7], by rw [ht2]; simpa using ho⟩, hall2, hk, hl⟩
      | true =>
        have hcl' : clD (dAt c row[i]) (dAt c a) = true := hcl
        rw [hcl'] at ec
        rw [hcl] at ht2
        have hle : ((row.take i).filter fun x => clH c x a).length ≤ 2 ^ 20 := Nat.le_trans (List.length_filter_le ..) (by simp; omega)
        obtain ⟨w6, h3, e5, o3, k3, l3⟩ := ho.one row[i] hle
        generalize row[i] = xi at *
        simp [g519_0, hM, g17, g7, gL, hn, ix, ld, upd, he, b1, b2, a1, a2', ec, rdS_last, e5, st]
        refine hJ _ hn ⟨by simp, by simp [upd, gL], ⟨w6, by simp, by rw [ht2]; simpa using o3⟩, hall2, ho.far hk k3 (Nat.le_refl _), by show h.length ≤ h3.length; omega⟩
  · obtain ⟨h2, e2, G, q1, q2, q3, q4⟩ := fin i w s.h ho (takeW hall (.inl (by omega))) hk hl
    simp [g519_0, hM, g17, g7, hn, e2]
    exact hR _ _ ⟨G, q1, q2, q3, q4⟩
end GL

namespace GL
open Go

theorem l13At_ok {h : Heap} {v : V} {c : Hd} {F : List Nat} (hc : HdV h v c F) (hg : goodH c = true) {r a : Int} (hr : 0 ≤ r ∧ r ≤ c.no - 1) (ha : 0 ≤ a ∧ a ≤ (c.deeds.length : Int) - 1) :
    ∃ w h', call p 516 [v, vi r, vi a] h = some (w, h') ∧ ∃ G, SdF h' w (depsL c r a) G ∧ (∀ b ∈ G, h.length ≤ b) ∧ Keeps h h' ∧ h.length ≤ h'.length := by
  obtain ⟨x, y, F1, F2, rfl, rfl, hx, hy⟩ := hc
  obtain ⟨r0, r1, hmem⟩ := rows_get hg hr
  obtain ⟨_, h8, _, hrows⟩ := goodH_facts hg
  obtain ⟨hlen, hin, hnd, hcov⟩ := hrows _ hmem
  obtain ⟨z, G0, ez1, ez2, hz, _⟩ := readL hy ⟨r0, r1⟩
  unfold depsL
  change SdF h z (rowAt c r) G0 at hz
  change rowAt c r ∈ c.rows at hmem
  change (rowAt c r).length = _ at hlen
  change ∀ x ∈ rowAt c r, _ at hin
  change (rowAt c r).Nodup at hnd
  generalize rowAt c r = row at *
  obtain ⟨a1, a2⟩ := readD hx.sl (k := a) (by omega)
  refine go (fn := g516) rfl rfl fun R hR => ?_
  have fin : ∀ (i : Nat) (w : V) (h1 : Heap) (ys : List Int) (G : List Nat), SdF h1 w ys G → ys.Pairwise (· < ·) → (∀ b ∈ G, h.length ≤ b) → (∀ x, x ∈ ys ↔ x ∈ (row.take i).filter fun x => clH c x a) → (row.takeWhile fun x => !decide (x = a)) = row.take i → Keeps h h1 → h.length ≤ h1.length → R w h1 := fun i w h1 ys G hs hp hG hm ht hk hl => by
    have he : ((row.take i).filter fun x => clH c x a) = depsPre c row a := by rw [depsPre, ht]
    rw [he] at hm
    rw [srtI_ext (depsPre_nodup hnd a) hp hm] at hs
    exact hR _ _ ⟨G, hs, hG, hk, hl⟩
  simp [g516, fillL, upd, hx.cells, hx.cell, hy.cells, hy.cell, ez1, ez2, hz.len]
  refine Wc_upM (M := [7, 9, 16, 17, 18, 19, 20, 21, 22, 23, 24, 25, 26, 27, 28, 29, 30, 31, 32, 33, 34, 35, 36, 37]) rfl row.length (fun i s => s.σ 16 = .v (vi i) ∧ s.L 3 = (1, [vi c.no, x, y]) ∧ (∃ w ys G, s.σ 7 = .v w ∧ SdF s.h w ys G ∧ ys.Pairwise (· < ·) ∧ (∀ b ∈ G, h.length ≤ b) ∧ ys.length ≤ i ∧ ∀ x, x ∈ ys ↔ x ∈ (row.take i).filter fun x => clH c x a) ∧ (∀ x ∈ row.take i, x ≠ a) ∧ Keeps h s.h ∧ h.length ≤ s.h.length) 0
    ⟨by simp, by simp [upd], ⟨.nils, [], [], by simp, .nil, by simp, by simp, by simp, by simp⟩, by simp, Keeps.refl _, by simp⟩ fun i s ⟨g16, gL, ⟨w, ys, G, g7, hs, hp, hG, hyl, hm⟩, hall, hk, hl⟩ hM J hJ => ?_
  by_cases hn : i < row.length
  · have hz' := hz.keep hk
    have ix := hz'.idx 1 .i64 i hn
    have ld := hz'.sl.loadI i hn
    simp only [Nat.mul_one] at ix
    have ht := List.take_succ_eq_append_getElem hn
    by_cases he : row[i] = a
    · have f := fin i w s.h ys G hs hp hG hm (takeW hall (.inr ⟨hn, he⟩)) hk hl
      have ld2 : rdH s.h (bOf z) (oOf z + i) 1 = some [vi a] := by rw [ld, he]
      simp [g516_0, hM, g16, g7, hn, ix, ld2, upd]
      exact f
    · have hxi := hin _ (List.getElem_mem hn)
      obtain ⟨b1, b2⟩ := readD (hx.keep hk).sl hxi
      have a2' := rdH_keep hk a2
      have ec := l13Clash_eq (dAt c row[i]) (dAt c a) s.h
      have ht2 : (row.take (i + 1)).filter (fun x => clH c x a) = (row.take i).filter (fun x => clH c x a) ++ (if clH c row[i] a = true then [row[i]] else []) := by
        rw [ht, List.filter_append, List.filter_cons, List.filter_nil]
      have hall2 : ∀ x ∈ row.take (i + 1), x ≠ a := (all_take_succ hn).2 ⟨hall, he⟩
      have st := hz.step hn
      cases hcl : clH c row[i] a with
      | false =>
        have hcl' : clD (dAt c row[i]) (dAt c a) = false := hcl
        rw [hcl'] at ec
        rw [hcl] at ht2
        generalize row[i] = xi at *
        simp [g516_0, hM, g16, g7, gL, hn, ix, ld, upd, he, b1, b2, a1, a2', ec, st]
        refine hJ _ hn ⟨by simp, by simp [upd, gL], ⟨w, ys, G, by simp [g7], hs, hp, hG, by omega, fun x => by rw [ht2, hm]; simp⟩, hall2, hk, hl⟩
      | true =>
        have hcl' : clD (dAt c row[i]) (dAt c a) = true := hcl
        rw [hcl'] at ec
        rw [hcl] at ht2
        obtain ⟨w6, h3, e5, zs, G6, s6, r6, m6, zl, hG6, k3, l3⟩ := l1Put_ok hs hp (by omega) row[i]
        generalize row[i] = xi at *
        simp [g516_0, hM, g16, g7, gL, hn, ix, ld, upd, he, b1, b2, a1, a2', ec, e5, st]
        refine hJ _ hn ⟨by simp, by simp [upd, gL], ⟨w6, zs, G6, by simp, s6, r6, fun b hb => ?_, by omega, fun x => by rw [ht2, m6, hm]; simp⟩, hall2, hk.trans k3, by show h.length ≤ h3.length; omega⟩
        rcases hG6 b hb with h | h
        · exact hG b h
        · omega
  · have f := fin i w s.h ys G hs hp hG hm (takeW hall (.inl (by omega))) hk hl
    simp [g516_0, hM, g16, g7, hn]
    exact f
def okH (c : Hd) (a : Int) : Bool := goodH c && decide (0 ≤ a ∧ a ≤ (c.deeds.length : Int) - 1)
theorem l13Ok_eq {h : Heap} {v : V} {c : Hd} {F : List Nat} (hc : HdV h v c F) (a : Int) : call p 515 [v, vi a] h = some (.bool (okH c a), h) := by
  have e1 := GoodHeardS_eq hc
  obtain ⟨x, y, F1, F2, rfl, rfl, hx, hy⟩ := hc
  have w1 : IntKind.i64.wrap ((c.deeds.length : Int) - 1) = (c.deeds.length : Int) - 1 := by have := hx.bd; rw [IntWalk.i64_in] <;> omega
  refine go_eq (fn := g515) rfl rfl fun R hR => ?_
  cases hg : goodH c with
  | false =>
    rw [hg] at e1
    simp [g515, fillL, upd, hx.cells, hx.cell, hy.cells, hy.cell, e1]; simpa [okH, hg] using hR
  | true =>
    rw [hg] at e1
    simp [g515, fillL, upd, hx.cells, hx.cell, hy.cells, hy.cell, e1, hx.len, w1, -Bool.decide_and]; simpa [okH, hg] using hR
/-! frames -/
theorem szHeard_eq {h : Heap} {v : V} {c : Hd} {F : List Nat} (hc : HdV h v c F) {l0 : Int} (h0 : 0 ≤ l0 ∧ l0 ≤ 2 ^ 20) : ∃ r : Int, call p 439 [v, vi l0] h = some (vi r, h) ∧ (r < 0 ∨ (0 ≤ r ∧ c.deeds.length + (c.rows.length + numN c.rows) + r = l0)) := by
  obtain ⟨x, y, F1, F2, rfl, rfl, hx, hy⟩ := hc
  have e1 := szDeedS_eq hx.sl h0
  by_cases h1 : l0 < c.deeds.length
  · rw [if_pos h1] at e1
    refine ⟨-1, go_eq (fn := g439) rfl rfl fun R hR => ?_, .inl (by decide)⟩
    simp [g439, fillL, upd, hx.cells, hx.cell, hy.cells, hy.cell, e1]; exact hR
  · rw [if_neg h1] at e1
    have n1 : ¬ l0 - (c.deeds.length : Int) < 0 := by omega
    obtain ⟨r, e2, hr⟩ := szIntSS_eq hy (l0 := l0 - c.deeds.length) (by omega)
    by_cases hr0 : r < 0
    · refine ⟨-1, go_eq (fn := g439) rfl rfl fun R hR => ?_, .inl (by decide)⟩
      simp [g439, fillL, upd, hx.cells, hx.cell, hy.cells, hy.cell, e1, n1, e2, hr0]; exact hR
    · refine ⟨r, go_eq (fn := g439) rfl rfl fun R hR => ?_, .inr ?_⟩
      · simp [g439, fillL, upd, hx.cells, hx.cell, hy.cells, hy.cell, e1, n1, e2, hr0]; exact hR
      · rcases hr with h | h
        · exact absurd h hr0
        · omega
/-- small enough -/
def smH (c : Hd) : Prop := c.deeds.length ≤ 2 ^ 20 ∧ c.rows.length + numN c.rows ≤ 2 ^ 20
theorem toHeard_ok {h : Heap} {v : V} {c : Hd} {F : List Nat} (hc : HdV h v c F) (hsm : smH c) : ∃ r h', call p 440 [v] h = some (r, h') ∧ ∃ G, HdV h' r c G ∧ Fresh h.length h' G ∧ Keeps h h' ∧ h.length ≤ h'.length := by
  obtain ⟨x, y, F1, F2, rfl, rfl, hx, hy⟩ := hc
  obtain ⟨a, h1, e1, G1, s1, f1, k1, l1⟩ := toDeedS_ok hx.sl hsm.1
  obtain ⟨b, h2, e2, G2, s2, f2, k2, l2⟩ := toIntSS_ok (hy.keep k1) (by have := hsm.2; omega) fun r hr => by have := numN_mem hr; have := hsm.2; omega
  refine go (fn := g440) rfl rfl fun R hR => ?_
  simp [g440, fillL, upd, hx.cells, hx.cell, hy.cells, hy.cell, e1, e2, resV, mkV, s1.cells, s1.cell, s2.cells, s2.cell]
  exact hR _ _ ⟨G1 ++ G2, ⟨a, b, G1, G2, rfl, rfl, s1.keep k2, s2⟩, f1.app f2 k2 l1, k1.trans k2, by omega⟩
theorem eqHeard_same {h : Heap} {v w : V} {c : Hd} {F G : List Nat} (hc : HdV h v c F) (hd : HdV h w c G) : call p 443 [v, w] h = some (.bool true, h) := by
  obtain ⟨x, y, F1, F2, rfl, rfl, hx, hy⟩ := hc
  obtain ⟨a, b, G1, G2, rfl, rfl, ga, gb⟩ := hd
  have e1 := eqDeedS_same hx.sl ga.sl
  have e2 := eqIntSS_same hy gb
  refine go_eq (fn := g443) rfl rfl fun R hR => ?_
  simp [g443, fillL, upd, hx.cells, hx.cell, hy.cells, hy.cell, ga.cells, ga.cell, gb.cells, gb.cell, e1, e2]; exact hR
end GL

namespace GL
open Go

def Dd.of (p : Int × Bool) : Dd := ⟨p.1, p.2⟩
theorem Dd.of_rep (h : Heap) (p : Int × Bool) (cs : List V) (F : List Nat) (hr : Data.rep h p cs F) : Data.rep h (Dd.of p) cs F := by
  obtain ⟨c, d, F1, F2, rfl, rfl, ⟨rfl, rfl⟩, rfl, rfl⟩ := hr
  exact ⟨rfl, rfl⟩
def Hd.of (p : Int × List Dd × List (List Int)) : Hd := ⟨p.1, p.2.1, p.2.2⟩
theorem Hd.of_rep (h : Heap) (p : Int × List Dd × List (List Int)) (cs : List V) (F : List Nat) (hr : Data.rep h p cs F) : Data.rep h (Hd.of p) cs F := by
  obtain ⟨c, d, F1, F2, rfl, rfl, ⟨rfl, rfl⟩, e, f, G1, G2, rfl, rfl, ⟨x, rfl, hx⟩, ⟨y, rfl, hy⟩⟩ := hr
  exact ⟨x, y, G1, G2, rfl, by simp, hx, hy⟩
end GL

namespace GL
open Go

theorem Equal_eq {h : Heap} {v w : V} {xs ys : List Int} (hs : Sl h v xs) (ht : Sl h w ys) : call p 386 [v, w] h = some (.bool (decide (xs = ys)), h) := by
  refine go_eq (fn := g386) rfl rfl fun R hR => ?_
  by_cases hl : xs.length = ys.length
  · have hl2 : (xs.length : Int) = ys.length := by omega
    simp [g386, hs.len, ht.len, hl2]
    rw [← hl]
    refine Wc_upM (M := [4, 5, 13, 14, 15, 16, 17, 18, 19, 20, 21, 22, 23, 24, 25]) rfl xs.length (fun i s => s.σ 13 = .v (vi i) ∧ s.h = h ∧ xs.take i = ys.take i) 0 (by simp) fun i s ⟨g13, gh, hall⟩ hM J hJ => ?_
    by_cases hn : i < xs.length
    · have hn2 : i < ys.length := by omega
      have ix := hs.idx 1 .i64 i hn
      have iy := ht.idx 1 .i64 i hn2
      simp only [Nat.mul_one] at ix iy
      by_cases he : xs[i] = ys[i]
      · have lx := hs.loadI i hn
        rw [he] at lx
        simp [g386_0, hM, g13, gh, hn, ix, iy, lx, ht.loadI i hn2, hs.step hn]
        exact hJ _ hn ⟨by simp, rfl, by rw [List.take_succ_eq_append_getElem hn, List.take_succ_eq_append_getElem hn2, hall, he]⟩
      · simp [g386_0, hM, g13, gh, hn, ix, iy, hs.loadI i hn, ht.loadI i hn2, he]
        have : decide (xs = ys) = false := decide_eq_false fun e => by subst e; exact he rfl
        rw [this] at hR; exact hR
    · rw [List.take_of_length_le (by omega), List.take_of_length_le (by omega)] at hall
      rw [decide_eq_true hall] at hR
      simp [g386_0, hM, g13, gh, hn]; exact hR
  · have hl2 : ¬ (xs.length : Int) = ys.length := by omega
    have : decide (xs = ys) = false := decide_eq_false fun e => hl (by rw [e])
    rw [this] at hR
    simp [g386, hs.len, ht.len, hl2]; exact hR
theorem l1Same_eq {h : Heap} {v w : V} {xs ys : List Int} (hs : Sl h v xs) (ht : Sl h w ys) : call p 356 [v, w] h = some (.bool (decide (xs = ys)), h) := by
  refine go_eq (fn := g356) rfl rfl fun R hR => ?_
  by_cases hl : xs.length = ys.length
  · have hl2 : (xs.length : Int) = ys.length := by omega
    simp [g356, hs.len, ht.len, hl2]
    rw [← hl]
    refine Wc_upM (M := [4, 5, 13, 14, 15, 16, 17, 18, 19, 20, 21, 22, 23, 24, 25]) rfl xs.length (fun i s => s.σ 13 = .v (vi i) ∧ s.h = h ∧ xs.take i = ys.take i) 0 (by simp) fun i s ⟨g13, gh, hall⟩ hM J hJ => ?_
    by_cases hn : i < xs.length
    · have hn2 : i < ys.length := by omega
      have ix := hs.idx 1 .i64 i hn
      have iy := ht.idx 1 .i64 i hn2
      simp only [Nat.mul_one] at ix iy
      by_cases he : xs[i] = ys[i]
      · have lx := hs.loadI i hn
        rw [he] at lx
        simp [g356_0, hM, g13, gh, hn, ix, iy, lx, ht.loadI i hn2, hs.step hn]
        exact hJ _ hn ⟨by simp, rfl, by rw [List.take_succ_eq_append_getElem hn, List.take_succ_eq_append_getElem hn2, hall, he]⟩
      · simp [g356_0, hM, g13, gh, hn, ix, iy, hs.loadI i hn, ht.loadI i hn2, he]
        have : decide (xs = ys) = false := decide_eq_false fun e => by subst e; exact he rfl
        rw [this] at hR; exact hR
    · rw [List.take_of_length_le (by omega), List.take_of_length_le (by omega)] at hall
      rw [decide_eq_true hall] at hR
      simp [g356_0, hM, g13, gh, hn]; exact hR
  · have hl2 : ¬ (xs.length : Int) = ys.length := by omega
    have : decide (xs = ys) = false := decide_eq_false fun e => hl (by rw [e])
    rw [this] at hR
    simp [g356, hs.len, ht.len, hl2]; exact hR

def alikeB (c : Hd) (ps : List Int) (a : Int) : Bool := ps.all fun p => decide (depsL c p a = depsL c (ps.headD 0) a)
theorem head0 {h : Heap} {w : V} {ps : List Int} (hs : Sl h w ps) (hp : 0 < ps.length) : idxV 1 w (vi 0) = some (.ptr (bOf w) (oOf w)) ∧ rdH h (bOf w) (oOf w) 1 = some [vi (ps.headD 0)] := by
  have e1 := hs.idx 1 .i64 0 hp
  have e2 := hs.loadI 0 hp
  have : ps.headD 0 = ps[0] := by cases ps with | nil => simp at hp | cons a t => rfl
  rw [this]
  exact ⟨by simpa using e1, by simpa using e2⟩
theorem alike1_ok {h : Heap} {v w : V} {c : Hd} {F : List Nat} (hc : HdV h v c F) (hg : goodH c = true) {a : Int} (ha : 0 ≤ a ∧ a ≤ (c.deeds.length : Int) - 1) {ps : List Int} (hp : Sl h w ps) (hpl : 0 < ps.length) (hin : ∀ p ∈ ps, 0 ≤ p ∧ p ≤ c.no - 1)
    {x y : V} (hv : v = .agg [vi c.no, x, y]) {b1 b2 b3 : Nat} (h1 : h[b1]? = some ⟨.own, [vi c.no, x, y]⟩) (h2 : h[b2]? = some ⟨.own, [vi a]⟩) (h3 : h[b3]? = some ⟨.own, [w]⟩) (p : Int) (hp1 : p ∈ ps) :
    ∃ h', call GL.p 566 [vi p, .ptr b1 0, .ptr b2 0, .ptr b3 0] h = some (.bool (!decide (depsL c p a = depsL c (ps.headD 0) a)), h') ∧ Keeps h h' ∧ h.length ≤ h'.length := by
  have hp0 : ps.headD 0 ∈ ps := by cases ps with | nil => simp at hpl | cons a t => simp
  obtain ⟨i0, l0⟩ := head0 hp hpl
  obtain ⟨w1, h4, e4, G4, s4, f4, k4, l4⟩ := depsH_ok hc hg (hin p hp1) ha
  obtain ⟨w2, h5, e5, G5, s5, f5, k5, l5⟩ := depsH_ok (hc.keep k4) hg (hin _ hp0) ha
  have e6 := Equal_eq (s4.keep k5).sl s5.sl
  have r1 : rdH h b1 0 3 = some [vi c.no, x, y] := by rw [rdH_at h1 (by simp)]; rfl
  have r2 : rdH h b2 0 1 = some [vi a] := by rw [rdH_at h2 (by simp)]; rfl
  have r3 : rdH h b3 0 1 = some [w] := by rw [rdH_at h3 (by simp)]; rfl
  have r1' := rdH_keep k4 r1
  have r2' := rdH_keep k4 r2
  have r3' := rdH_keep k4 r3
  have l0' := rdH_keep k4 l0
  subst hv
  obtain ⟨x, h', e, hx, hk, hl⟩ : ∃ r h', call GL.p 566 [vi p, .ptr b1 0, .ptr b2 0, .ptr b3 0] h = some (r, h') ∧ r = .bool (!decide (depsL c p a = depsL c (ps.headD 0) a)) ∧ Keeps h h' ∧ h.length ≤ h'.length := by
    refine go (fn := g566) rfl rfl fun R hR => ?_
    generalize ps.headD 0 = p0 at *
    simp [g566, r1, r2, r3, r1', r2', r3', i0, l0, l0', e4, e5, e6, stable]
    exact hR _ _ ⟨by simp, k4.trans k5, by omega⟩
  exact ⟨h', by rw [e, hx], hk, hl⟩
theorem areAlike_ok {h : Heap} {v w : V} {c : Hd} {F : List Nat} (hc : HdV h v c F) (hg : goodH c = true) {a : Int} (ha : 0 ≤ a ∧ a ≤ (c.deeds.length : Int) - 1) {ps : List Int} (hp : Sl h w ps) (hpl : 0 < ps.length) (hin : ∀ p ∈ ps, 0 ≤ p ∧ p ≤ c.no - 1) :
    ∃ r h', call GL.p 523 [v, vi a, w] h = some (r, h') ∧ r = .bool (alikeB c ps a) ∧ Keeps h h' ∧ h.length ≤ h'.length := by
  have hcc := hc
  obtain ⟨x, y, F1, F2, rfl, rfl, hx, hy⟩ := hc
  have k0 : Keeps h (h ++ [⟨.own, [vi c.no, x, y]⟩, ⟨.own, [vi a]⟩, ⟨.own, [w]⟩]) := Keeps.append _ _
  generalize hh : h ++ [⟨.own, [vi c.no, x, y]⟩, ⟨.own, [vi a]⟩, ⟨.own, [w]⟩] = H at k0
  have hHl : H.length = h.length + 3 := by rw [← hh]; simp
  have b1 : H[h.length]? = some ⟨.own, [vi c.no, x, y]⟩ := by rw [← hh]; simp
  have b2 : H[h.length + 1]? = some ⟨.own, [vi a]⟩ := by rw [← hh]; simp
  have b3 : H[h.length + 2]? = some ⟨.own, [w]⟩ := by rw [← hh]; simp
  have r3 : rdH H (h.length + 2) 0 1 = some [w] := by rw [rdH_at b3 (by simp)]; rfl
  obtain ⟨_, h4, e4, rfl, k4, l4⟩ := containsIg_ok (hp.keeps k0) (f := 566) (capt := [.ptr h.length 0, .ptr (h.length + 1) 0, .ptr (h.length + 2) 0]) (q := fun p => !decide (depsL c p a = depsL c (ps.headD 0) a)) fun h' hk n hn => alike1_ok (hcc.keep (k0.trans hk)) hg ha (hp.keeps (k0.trans hk)) hpl hin rfl (hk _ _ b1 (by simp)) (hk _ _ b2 (by simp)) (hk _ _ b3 (by simp)) n hn
  have ea : (ps.any fun p => !decide (depsL c p a = depsL c (ps.headD 0) a)) = !alikeB c ps a := by rw [alikeB, List.not_all_eq_any_not]
  rw [ea] at e4
  refine go (fn := g523) rfl rfl fun R hR => ?_
  simp [g523, fillL, upd, hx.cells, hx.cell, hy.cells, hy.cell, hp.cells, hp.cell, hh, r3, e4]
  exact hR _ _ ⟨rfl, k0.trans k4, by omega⟩
def fastQ (c : Hd) (a : Int) (ps : List Int) : Bool := goodH c && decide (0 ≤ a ∧ a ≤ (c.deeds.length : Int) - 1) && risB 0 (c.no - 1) ps && decide (c.no.toNat - (c.no.toNat - 1) / 4 ≤ ps.length)
theorem fastQ_facts {c : Hd} {a : Int} {ps : List Int} (h : fastQ c a ps = true) : goodH c = true ∧ (0 ≤ a ∧ a ≤ (c.deeds.length : Int) - 1) ∧ (∀ p ∈ ps, 0 ≤ p ∧ p ≤ c.no - 1) ∧ 0 < ps.length := by
  simp only [fastQ, Bool.and_eq_true, decide_eq_true_eq, risB] at h
  obtain ⟨⟨⟨hg, ha⟩, hr⟩, hl⟩ := h
  obtain ⟨hno, _⟩ := goodH_facts hg
  exact ⟨hg, ha, hr.1, by omega⟩
theorem IsFastOne_ok {h : Heap} {v w : V} {c : Hd} {F : List Nat} (hc : HdV h v c F) {ps : List Int} (hp : Sl h w ps) (a : Int) :
    ∃ r h', call GL.p 447 [v, vi a, w] h = some (r, h') ∧ r = .tup [.bool (fastQ c a ps && alikeB c ps a), .bool (fastQ c a ps)] ∧ Keeps h h' ∧ h.length ≤ h'.length := by
  obtain ⟨_, h1, e1, rfl, k1, l1⟩ := GoodHeard_ok hc
  have hc1 := hc.keep k1
  have e2 := isOneH_eq hc1 a
  have e3 := arePlaces_eq (hp.keeps k1) c.no
  have hcc := hc
  obtain ⟨x, y, F1, F2, rfl, rfl, hx, hy⟩ := hc
  refine go (fn := g447) rfl rfl fun R hR => ?_
  have fin : fastQ c a ps = false → R (.tup [.bool false, .bool false]) h1 := fun hb => hR _ _ ⟨by rw [hb]; rfl, k1, l1⟩
  cases hg : goodH c with
  | false =>
    rw [hg] at e1
    simp [g447, fillL, upd, hx.cells, hx.cell, hy.cells, hy.cell, e1]
    exact fin (by simp [fastQ, hg])
  | true =>
    rw [hg] at e1
    obtain ⟨hno, h8, _, _⟩ := goodH_facts hg
    have hm : manyB c.no = true := by simp only [goodH, Bool.and_eq_true] at hg; exact hg.1.1.1.1
    obtain ⟨n, hn⟩ : ∃ n : Nat, c.no = n := ⟨c.no.toNat, by omega⟩
    have e4 := fast_eq n (by omega) h1
    rw [← hn] at e4
    by_cases ha : 0 ≤ a ∧ a ≤ (c.deeds.length : Int) - 1
    · rw [decide_eq_true ha] at e2
      rw [hm, Bool.true_and] at e3
      cases hr : risB 0 (c.no - 1) ps with
      | false =>
        rw [hr] at e3
        simp [g447, fillL, upd, hx.cells, hx.cell, hy.cells, hy.cell, e1, e2, e3]
        exact fin (by simp [fastQ, hr])
      | true =>
        rw [hr] at e3
        have hq : fastQ c a ps = decide (n - (n - 1) / 4 ≤ ps.length) := by
          have hnn : c.no.toNat = n := by omega
          simp only [fastQ, hg, hr, decide_eq_true ha, Bool.and_self, Bool.true_and, hnn]
        by_cases hl : n - (n - 1) / 4 ≤ ps.length
        · have hl2 : ¬ (ps.length : Int) < ((n - (n - 1) / 4 : Nat) : Int) := by omega
          rw [decide_eq_true hl] at hq
          obtain ⟨_, _, hin, hpl⟩ := fastQ_facts hq
          obtain ⟨_, h5, e5, rfl, k5, l5⟩ := areAlike_ok hc1 hg ha (hp.keeps k1) hpl hin
          simp [g447, fillL, upd, hx.cells, hx.cell, hy.cells, hy.cell, e1, e2, e3, e4, hp.len, hl2, e5]
          exact hR _ _ ⟨by rw [hq]; rfl, k1.trans k5, by omega⟩
        · have hl2 : (ps.length : Int) < ((n - (n - 1) / 4 : Nat) : Int) := by omega
          rw [decide_eq_false hl] at hq
          simp [g447, fillL, upd, hx.cells, hx.cell, hy.cells, hy.cell, e1, e2, e3, e4, hp.len, hl2]
          exact fin hq
    · rw [decide_eq_false ha] at e2
      simp [g447, fillL, upd, hx.cells, hx.cell, hy.cells, hy.cell, e1, e2]
      exact fin (by simp only [fastQ, decide_eq_false ha, Bool.and_false, Bool.false_and])
theorem l13Group_eq {h : Heap} {v w : V} {c : Hd} {F : List Nat} (hc : HdV h v c F) (hg : goodH c = true) {ps : List Int} (hp : Sl h w ps) : call GL.p 522 [v, w] h = some (.bool (risB 0 (c.no - 1) ps && decide (c.no.toNat / 2 + 1 ≤ ps.length)), h) := by
  obtain ⟨x, y, F1, F2, rfl, rfl, hx, hy⟩ := hc
  obtain ⟨hno, h8, _, _⟩ := goodH_facts hg
  have w1 : IntKind.i64.wrap (c.no - 1) = c.no - 1 := by rw [IntWalk.i64_in] <;> omega
  obtain ⟨n, hn⟩ : ∃ n : Nat, c.no = n := ⟨c.no.toNat, by omega⟩
  have e1 := l1Rising_eq hp 0 (c.no - 1)
  have e2 := l11Slow_eq n (by omega) h
  rw [← hn] at e2
  have hnn : c.no.toNat = n := by omega
  rw [hnn]
  refine go_eq (fn := g522) rfl rfl fun R hR => ?_
  cases hr : risB 0 (c.no - 1) ps with
  | false => rw [hr] at e1 hR; simp [g522, fillL, upd, hx.cells, hx.cell, hy.cells, hy.cell, w1, e1]; simpa using hR
  | true =>
    rw [hr] at e1 hR
    have : decide (((n / 2 + 1 : Nat) : Int) ≤ ps.length) = decide (n / 2 + 1 ≤ ps.length) := by congr 1; refine propext ⟨fun h => by omega, fun h => by omega⟩
    simp [g522, fillL, upd, hx.cells, hx.cell, hy.cells, hy.cell, w1, e1, e2, hp.len, this, -Int.natCast_add, -Int.natCast_ediv]; simpa using hR
theorem IsFastOneS_ok {h : Heap} {v w : V} {c : Hd} {F : List Nat} (hc : HdV h v c F) {ps : List Int} (hp : Sl h w ps) (a : Int) :
    ∃ r h', call GL.p 446 [v, vi a, w] h = some (r, h') ∧ r = .tup [.bool (fastQ c a ps && alikeB c ps a), .bool (fastQ c a ps)] ∧ Keeps h h' ∧ h.length ≤ h'.length := by
  have e1 := l13Ok_eq hc a
  have hcc := hc
  obtain ⟨x, y, F1, F2, rfl, rfl, hx, hy⟩ := hc
  refine go (fn := g446) rfl rfl fun R hR => ?_
  have fin : fastQ c a ps = false → R (.tup [.bool false, .bool false]) h := fun hb => hR _ _ ⟨by rw [hb]; rfl, Keeps.refl _, Nat.le_refl _⟩
  cases hk : okH c a with
  | false =>
    rw [hk] at e1
    simp [g446, fillL, upd, hx.cells, hx.cell, hy.cells, hy.cell, e1]
    refine fin ?_
    simp only [okH, Bool.and_eq_false_iff] at hk
    rcases hk with hk | hk <;> simp only [fastQ, hk, Bool.and_false, Bool.false_and]
  | true =>
    rw [hk] at e1
    simp only [okH, Bool.and_eq_true, decide_eq_true_eq] at hk
    obtain ⟨hg, ha⟩ := hk
    obtain ⟨hno, h8, _, _⟩ := goodH_facts hg
    have e2 := l13Group_eq hcc hg hp
    obtain ⟨n, hn⟩ : ∃ n : Nat, c.no = n := ⟨c.no.toNat, by omega⟩
    have hnn : c.no.toNat = n := by omega
    rw [hnn] at e2
    have e3 := l11Fast_eq n (by omega) h
    rw [← hn] at e3
    have hmany : n = 3 ∨ n = 5 ∨ n = 7 ∨ n = 9 := by
      have hm : manyB c.no = true := by simp only [goodH, Bool.and_eq_true] at hg; exact hg.1.1.1.1
      simp only [manyB, Bool.and_eq_true, decide_eq_true_eq] at hm
      have h2 := hm.2
      rw [hn, Int.tmod_eq_emod_of_nonneg (by omega)] at h2
      omega
    cases hq : fastQ c a ps with
    | false =>
      rw [hq] at fin
      have hor : (risB 0 (c.no - 1) ps && decide (n / 2 + 1 ≤ ps.length)) = false ∨ ((ps.length : Int) < ((n - (n - 1) / 4 : Nat) : Int)) := by
        simp only [fastQ, hg, decide_eq_true ha, Bool.true_and, Bool.and_eq_false_iff, decide_eq_false_iff_not, hnn] at hq
        rcases hq with hq | hq
        · left; rw [hq, Bool.false_and]
        · right; omega
      cases hb : (risB 0 (c.no - 1) ps && decide (n / 2 + 1 ≤ ps.length)) with
      | false =>
        rw [hb] at e2
        simp [g446, fillL, upd, hx.cells, hx.cell, hy.cells, hy.cell, e1, e2]
        exact fin rfl
      | true =>
        rcases hor with hor | hor
        · rw [hb] at hor; cases hor
        · rw [hb] at e2
          simp [g446, fillL, upd, hx.cells, hx.cell, hy.cells, hy.cell, e1, e2, e3, hp.len, hor]
          exact fin rfl
    | true =>
      obtain ⟨_, _, hin, hpl⟩ := fastQ_facts hq
      have hq2 := hq
      simp only [fastQ, hg, decide_eq_true ha, Bool.true_and, Bool.and_eq_true, decide_eq_true_eq, hnn] at hq2
      have hs1 : n / 2 + 1 ≤ ps.length := by have := hq2.2; omega
      rw [hq2.1, decide_eq_true hs1] at e2
      have hl2 : ¬ (ps.length : Int) < ((n - (n - 1) / 4 : Nat) : Int) := by have := hq2.2; omega
      have hp0 : ps.headD 0 ∈ ps := by cases ps with | nil => simp at hpl | cons a t => simp
      simp [g446, fillL, upd, hx.cells, hx.cell, hy.cells, hy.cell, e1, e2, e3, hp.len, hl2]
      refine Wc_upM (M := [6, 7, 9, 30, 31, 32, 33, 34, 35, 36, 37, 38, 39, 40, 41, 42, 43, 44, 45, 46]) rfl ps.length (fun i s => s.σ 30 = .v (vi i) ∧ s.L 3 = (1, [vi c.no, x, y]) ∧ (∀ p ∈ ps.take i, depsL c p a = depsL c (ps.headD 0) a) ∧ Keeps h s.h ∧ h.length ≤ s.h.length) 0
        ⟨by simp, by simp [upd], by simp, Keeps.refl _, Nat.le_refl _⟩ fun i s ⟨g30, gL, hall, hk, hl⟩ hM J hJ => ?_
      by_cases hi : i < ps.length
      · have hp' := hp.keeps hk
        have ix := hp.idx 1 .i64 i hi
        simp only [Nat.mul_one] at ix
        have ld := hp'.loadI i hi
        obtain ⟨i0, l0⟩ := head0 hp' hpl
        obtain ⟨w1, h4, e4, G4, s4, f4, k4, l4⟩ := l13At_ok (hcc.keep hk) hg (hin _ (List.getElem_mem hi)) ha
        obtain ⟨w2, h5, e5, G5, s5, f5, k5, l5⟩ := l13At_ok ((hcc.keep hk).keep k4) hg (hin _ hp0) ha
        have e6 := l1Same_eq (s4.keep k5).sl s5.sl
        have l0' := rdH_keep k4 l0
        have st := hp.step hi
        have hts0 := fun e => (all_take_succ (P := fun p => depsL c p a = depsL c (ps.headD 0) a) hi).2 ⟨hall, e⟩
        have hno2 : ¬ depsL c ps[i] a = depsL c (ps.headD 0) a → alikeB c ps a = false := fun hne => List.all_eq_false.2 ⟨_, List.getElem_mem hi, by simpa using hne⟩
        by_cases he : depsL c ps[i] a = depsL c (ps.headD 0) a
        · rw [decide_eq_true he] at e6
          have hts := hts0 he
          clear hts0
          generalize ps[i] = pi at *
          generalize ps.headD 0 = p0 at *
          simp [g446_0, hM, g30, gL, hi, ix, ld, i0, l0, l0', e4, e5, e6, st, stable]
          exact hJ _ hi ⟨by simp, by simp [gL], hts, (hk.trans k4).trans k5, by show h.length ≤ h5.length; omega⟩
        · rw [decide_eq_false he] at e6
          have hb := hno2 he
          generalize ps[i] = pi at *
          generalize ps.headD 0 = p0 at *
          simp [g446_0, hM, g30, gL, hi, ix, ld, i0, l0, l0', e4, e5, e6, stable]
          exact hR _ _ ⟨by rw [hq, hb]; rfl, (hk.trans k4).trans k5, by omega⟩
      · rw [List.take_of_length_le (by omega)] at hall
        have hb : alikeB c ps a = true := List.all_eq_true.2 fun p hp => decide_eq_true (hall p hp)
        simp [g446_0, hM, g30, hi]
        exact hR _ _ ⟨by rw [hq, hb]; rfl, hk, hl⟩
end GL

namespace GL
open Go

end GL

namespace GL
open Go

noncomputable def ofL (c : Hd) (a : Int) (ps : List Int) : List Int := ((List.range c.deeds.length).map fun (i : Nat) => (i : Int)).filter fun x => ps.any fun p => decide (x ∈ depsL c p a)
theorem ofL_rising (c : Hd) (a : Int) (ps : List Int) : (ofL c a ps).Pairwise (· < ·) := List.Pairwise.filter _ (range_rising _)
theorem ofL_len (c : Hd) (a : Int) (ps : List Int) : (ofL c a ps).length ≤ c.deeds.length := Nat.le_trans (List.length_filter_le ..) (by simp)
theorem depsL_in {c : Hd} (hg : goodH c = true) {p a : Int} (hp : 0 ≤ p ∧ p ≤ c.no - 1) {x : Int} (hx : x ∈ depsL c p a) : 0 ≤ x ∧ x < c.deeds.length := by
  obtain ⟨_, _, _, hrows⟩ := goodH_facts hg
  obtain ⟨_, hin, _, _⟩ := hrows _ (rows_get hg hp).2.2
  have := (srtI_perm (depsPre c (rowAt c p) a)).mem_iff.1 hx
  exact hin x ((List.takeWhile_sublist _).mem (List.mem_filter.1 this).1)
theorem depsL_len {c : Hd} (hg : goodH c = true) {p a : Int} (hp : 0 ≤ p ∧ p ≤ c.no - 1) : (depsL c p a).length ≤ 8 := by
  obtain ⟨_, h8, _, hrows⟩ := goodH_facts hg
  have h1 := (hrows _ (rows_get hg hp).2.2).1
  rw [depsL, srtI_length]
  have := depsPre_len c (rowAt c p) a
  have : (rowAt c p).length = c.deeds.length := h1
  omega
theorem mem_ofL {c : Hd} (hg : goodH c = true) {a : Int} {ps : List Int} (hin : ∀ p ∈ ps, 0 ≤ p ∧ p ≤ c.no - 1) {x : Int} : x ∈ ofL c a ps ↔ ∃ p ∈ ps, x ∈ depsL c p a := by
  simp only [ofL, List.mem_filter, List.any_eq_true, decide_eq_true_eq]
  constructor
  · exact fun h => h.2
  · rintro ⟨p, hp, hx⟩
    have := depsL_in hg (hin p hp) hx
    exact ⟨List.mem_map.2 ⟨x.toNat, List.mem_range.2 (by omega), by omega⟩, p, hp, hx⟩
theorem ofL_ext {c : Hd} (hg : goodH c = true) {a : Int} {ps : List Int} (hin : ∀ p ∈ ps, 0 ≤ p ∧ p ≤ c.no - 1) {ys : List Int} (hy : ys.Pairwise (· < ·)) (hm : ∀ x, x ∈ ys ↔ ∃ p ∈ ps, x ∈ depsL c p a) : ys = ofL c a ps :=
  rising_ext hy (ofL_rising _ _ _) fun x => by rw [hm, mem_ofL hg hin]
def groupQ (c : Hd) (ps : List Int) : Bool := risB 0 (c.no - 1) ps && decide (c.no.toNat / 2 + 1 ≤ ps.length)
theorem ofL_zero (c : Hd) (a : Int) (ps : List Int) : ofL c a (ps.take 0) = [] := by simp [ofL]
theorem isGroupH_eq {h : Heap} {v w : V} {c : Hd} {F : List Nat} (hc : HdV h v c F) (hg : goodH c = true) {ps : List Int} (hp : Sl h w ps) : call p 525 [v, w] h = some (.bool (groupQ c ps), h) := by
  obtain ⟨x, y, F1, F2, rfl, rfl, hx, hy⟩ := hc
  obtain ⟨hno, h8, _, _⟩ := goodH_facts hg
  have hm : manyB c.no = true := by simp only [goodH, Bool.and_eq_true] at hg; exact hg.1.1.1.1
  obtain ⟨n, hn⟩ : ∃ n : Nat, c.no = n := ⟨c.no.toNat, by omega⟩
  have e1 := arePlaces_eq hp c.no
  rw [hm, Bool.true_and] at e1
  have e2 := slow_eq n (by omega) h
  rw [← hn] at e2
  have hnn : c.no.toNat = n := by omega
  unfold groupQ
  rw [hnn]
  refine go_eq (fn := g525) rfl rfl fun R hR => ?_
  cases hr : risB 0 (c.no - 1) ps with
  | false => rw [hr] at e1 hR; simp [g525, fillL, upd, hx.cells, hx.cell, hy.cells, hy.cell, e1]; simpa using hR
  | true =>
    rw [hr] at e1 hR
    have : decide (((n / 2 + 1 : Nat) : Int) ≤ ps.length) = decide (n / 2 + 1 ≤ ps.length) := by congr 1; refine propext ⟨fun h => by omega, fun h => by omega⟩
    simp [g525, fillL, upd, hx.cells, hx.cell, hy.cells, hy.cell, e1, e2, hp.len, this, -Int.natCast_add, -Int.natCast_ediv]; simpa using hR
theorem allOf_ok {h : Heap} {v w : V} {c : Hd} {F : List Nat} (hc : HdV h v c F) (hg : goodH c = true) {a : Int} (ha : 0 ≤ a ∧ a ≤ (c.deeds.length : Int) - 1) {ps : List Int} (hp : Sl h w ps) (hin : ∀ p ∈ ps, 0 ≤ p ∧ p ≤ c.no - 1) :
    ∃ r h', call p 526 [v, vi a, w] h = some (r, h') ∧ ∃ G, SdF h' r (ofL c a ps) G ∧ Fresh h.length h' G ∧ Keeps h h' ∧ h.length ≤ h'.length := by
  have hcc := hc
  obtain ⟨_, h8, _, _⟩ := goodH_facts hg
  obtain ⟨x, y, F1, F2, rfl, rfl, hx, hy⟩ := hc
  refine go (fn := g526) rfl rfl fun R hR => ?_
  simp [g526, fillL, upd, hx.cells, hx.cell, hy.cells, hy.cell, hp.len]
  refine Wc_upM (M := [7, 9, 13, 14, 15, 16, 17, 18, 19, 20, 21, 22, 23]) rfl ps.length (fun i s => s.σ 13 = .v (vi i) ∧ s.L 3 = (1, [vi c.no, x, y]) ∧ (∃ u G, s.σ 7 = .v u ∧ SdF s.h u (ofL c a (ps.take i)) G ∧ Fresh h.length s.h G) ∧ Keeps h s.h ∧ h.length ≤ s.h.length) 0
    ⟨by simp, by simp [upd], ?_, Keeps.append _ _, by simp⟩ fun i s ⟨g13, gL, ⟨u, G, g7, su, fu⟩, hk, hl⟩ hM J hJ => ?_
  · obtain ⟨G, sG, fG⟩ := (Out.empty (α := Int) (h := h ++ [⟨.own, []⟩]) (lo := h.length) (b := h.length) (Nat.le_refl _) (by simp)).fr
    exact ⟨_, G, by simp; rfl, by rw [ofL_zero]; exact sG, fG⟩
  · by_cases hi : i < ps.length
    · have hp' := hp.keeps hk
      have ix := hp.idx 1 .i64 i hi
      simp only [Nat.mul_one] at ix
      have ld := hp'.loadI i hi
      have hpi := hin _ (List.getElem_mem hi)
      have hti : ∀ p ∈ ps.take i, 0 ≤ p ∧ p ≤ c.no - 1 := fun p hp => hin p (List.mem_of_mem_take hp)
      have hti1 : ∀ p ∈ ps.take (i + 1), 0 ≤ p ∧ p ≤ c.no - 1 := fun p hp => hin p (List.mem_of_mem_take hp)
      obtain ⟨w1, h4, e4, G4, s4, f4, k4, l4⟩ := depsH_ok (hcc.keep hk) hg hpi ha
      have hlo := ofL_len c a (ps.take i)
      have hld := depsL_len (a := a) hg hpi
      obtain ⟨w2, h5, e5, ys, G5, s5, f5, r5, m5, k5, l5⟩ := together_ok (su.keep k4) s4 (by omega)
      have hys : ys = ofL c a (ps.take (i + 1)) := ofL_ext hg hti1 r5 fun x => by
        rw [m5, mem_ofL hg hti]
        constructor
        · rintro (⟨p, hp, hx⟩ | hx)
          · exact ⟨p, (mem_take_succ hi).2 (.inl hp), hx⟩
          · exact ⟨_, (mem_take_succ hi).2 (.inr rfl), hx⟩
        · rintro ⟨p, hp, hx⟩
          rcases (mem_take_succ hi).1 hp with h | rfl
          · exact .inl ⟨p, h, hx⟩
          · exact .inr hx
      rw [hys] at s5
      simp [g526_0, hM, g13, g7, gL, hi, ix, ld, e4, e5, hp.step hi]
      exact hJ _ hi ⟨by simp, by simp [gL], ⟨w2, G5, by simp, s5, f5.mono (by omega)⟩, (hk.trans k4).trans k5, by show h.length ≤ h5.length; omega⟩
    · rw [List.take_of_length_le (by omega)] at su
      simp [g526_0, hM, g13, g7, hi]
      exact hR _ _ ⟨G, su, fu, hk, hl⟩
theorem l13Of_ok {h : Heap} {v w : V} {c : Hd} {F : List Nat} (hc : HdV h v c F) (hg : goodH c = true) {a : Int} (ha : 0 ≤ a ∧ a ≤ (c.deeds.length : Int) - 1) {ps : List Int} (hp : Sl h w ps) (hin : ∀ p ∈ ps, 0 ≤ p ∧ p ≤ c.no - 1) :
    ∃ r h', call p 527 [v, vi a, w] h = some (r, h') ∧ ∃ G, SdF h' r (ofL c a ps) G ∧ (∀ b ∈ G, h.length ≤ b) ∧ Keeps h h' ∧ h.length ≤ h'.length := by
  have hcc := hc
  obtain ⟨_, h8, _, _⟩ := goodH_facts hg
  obtain ⟨x, y, F1, F2, rfl, rfl, hx, hy⟩ := hc
  refine go (fn := g527) rfl rfl fun R hR => ?_
  simp [g527, fillL, upd, hx.cells, hx.cell, hy.cells, hy.cell, hp.len]
  refine Wc_upM (M := [7, 9, 11, 14, 15, 16, 17, 18, 19, 20, 21, 22, 23, 24, 25, 26, 27, 28, 29, 30, 31]) rfl ps.length (fun i s => s.σ 14 = .v (vi i) ∧ s.L 3 = (1, [vi c.no, x, y]) ∧ (∃ u G, s.σ 7 = .v u ∧ SdF s.h u (ofL c a (ps.take i)) G ∧ ∀ b ∈ G, h.length ≤ b) ∧ Keeps h s.h ∧ h.length ≤ s.h.length) 0
    ⟨by simp, by simp [upd], ⟨.nils, [], by simp, by rw [ofL_zero]; exact (SdF.nil : SdF h .nils ([] : List Int) []), by simp⟩, Keeps.refl _, by simp⟩ fun i s ⟨g14, gL, ⟨u, G, g7, su, fu⟩, hk, hl⟩ hM J hJ => ?_
  by_cases hi : i < ps.length
  · have hp' := hp.keeps hk
    have ix := hp.idx 1 .i64 i hi
    simp only [Nat.mul_one] at ix
    have ld := hp'.loadI i hi
    have hpi := hin _ (List.getElem_mem hi)
    have hti : ∀ p ∈ ps.take i, 0 ≤ p ∧ p ≤ c.no - 1 := fun p hp => hin p (List.mem_of_mem_take hp)
    have hti1 : ∀ p ∈ ps.take (i + 1), 0 ≤ p ∧ p ≤ c.no - 1 := fun p hp => hin p (List.mem_of_mem_take hp)
    obtain ⟨w1, h4, e4, G4, s4, f4, k4, l4⟩ := l13At_ok (hcc.keep hk) hg hpi ha
    have hlo := ofL_len c a (ps.take i)
    have hld := depsL_len (a := a) hg hpi
    have hsu4 := su.keep k4
    simp [g527_1, hM, g14, g7, gL, hi, ix, ld, e4, s4.len]
    have hM1 := hM
    refine Wc_upM (M := [7, 11, 23, 24, 25, 26, 27, 28, 29, 30]) rfl (depsL c ps[i] a).length (fun j q => q.σ 23 = .v (vi j) ∧ q.L 3 = (1, [vi c.no, x, y]) ∧ (∃ u ys G, q.σ 7 = .v u ∧ SdF q.h u ys G ∧ (∀ b ∈ G, h.length ≤ b) ∧ ys.Pairwise (· < ·) ∧ ys.length ≤ 8 + j ∧ ∀ z, z ∈ ys ↔ z ∈ ofL c a (ps.take i) ∨ z ∈ (depsL c ps[i] a).take j) ∧ Keeps h4 q.h ∧ h4.length ≤ q.h.length) 0
      ⟨by simp, by simp [gL], ⟨u, ofL c a (ps.take i), G, by simp [g7], hsu4, fu, ofL_rising _ _ _, by omega, by simp⟩, Keeps.refl _, Nat.le_refl _⟩ fun j q ⟨g23, gL', ⟨u', ys, G', g7', su', fu', r', yl', m'⟩, hk', hl'⟩ hM J2 hJ2 => ?_
    by_cases hj : j < (depsL c ps[i] a).length
    · have s4' := s4.keep hk'
      have ij := s4.idx 1 .i64 j hj
      simp only [Nat.mul_one] at ij
      have lj := s4'.sl.loadI j hj
      obtain ⟨w6, h6, e6, zs, G6, s6, r6, m6, zl, hG6, k6, l6⟩ := l1Put_ok su' r' (by omega) (depsL c ps[i] a)[j]
      have st := s4.step hj
      have hmt : ∀ z, z ∈ (depsL c ps[i] a).take (j + 1) ↔ z ∈ (depsL c ps[i] a).take j ∨ z = (depsL c ps[i] a)[j] := fun z => mem_take_succ hj
      generalize (depsL c ps[i] a)[j] = dj at *
      simp [g527_0, hM, hM1, g23, g7', hj, ij, lj, e6, st]
      refine hJ2 _ hj ⟨by simp, by simp [gL'], ⟨w6, zs, G6, by simp, s6, fun b hb => ?_, r6, by omega, fun z => by rw [m6, m', hmt, or_assoc]⟩, hk'.trans k6, by show h4.length ≤ h6.length; omega⟩
      rcases hG6 b hb with h | h
      · exact fu' b h
      · omega
    · rw [List.take_of_length_le (l := depsL c ps[i] a) (by omega)] at m'
      have hys : ys = ofL c a (ps.take (i + 1)) := ofL_ext hg hti1 r' fun x => by
        rw [m', mem_ofL hg hti]
        constructor
        · rintro (⟨p, hp, hx⟩ | hx)
          · exact ⟨p, (mem_take_succ hi).2 (.inl hp), hx⟩
          · exact ⟨_, (mem_take_succ hi).2 (.inr rfl), hx⟩
        · rintro ⟨p, hp, hx⟩
          rcases (mem_take_succ hi).1 hp with h | rfl
          · exact .inl ⟨p, h, hx⟩
          · exact .inr hx
      rw [hys] at su'
      simp [g527_0, hM, hM1, g23, g14, g7', hj, hp.step hi]
      exact hJ _ hi ⟨by simp, by simp [gL'], ⟨u', G', by simp [g7'], su', fu'⟩, (hk.trans k4).trans hk', by show h.length ≤ q.h.length; omega⟩
  · rw [List.take_of_length_le (by omega)] at su
    simp [g527_1, hM, g14, g7, hi]
    exact hR _ _ ⟨G, su, fu, hk, hl⟩
end GL

namespace GL
open Go

end GL

namespace GL
open Go

theorem Od.one {α : Type} [Data α] {lo : Nat} {h h1 : Heap} {v : V} {xs : List α} {G G' : List Nat} (od : Od lo h v xs G) (k1 : Keeps h h1) (l1 : h.length ≤ h1.length) (hG : ∀ b ∈ G', h.length ≤ b) {x : α} {cs : List V} (hr : Data.rep h1 x cs G') (hx : xs.length ≤ 2 ^ 20) {k bytes : Nat} (hk : k = Data.sz α) (hb : bytes ≤ 2 ^ 8) :
    ∃ v' h2, appH k bytes v 1 cs (h1 ++ [⟨.own, cs⟩]) = some (v', h2) ∧ Od lo h2 v' (xs ++ [x]) (G ++ G') ∧ (∀ h0 : Heap, Keeps h0 h → h0.length ≤ lo → Keeps h0 h2) ∧ h1.length < h2.length := by
  have hge := fun i (hi : vB v i) => od.ge hi
  have kl : Keeps h1 (h1 ++ [⟨.own, cs⟩]) := Keeps.append h1 _
  have od1 : Od lo (h1 ++ [⟨.own, cs⟩]) v xs G := od.keeps ((k1.trans kl).p fun _ => True) (fun _ _ => trivial) (fun _ _ => trivial) (by simp; omega)
  have hnv : ∀ b ∈ G', ¬ vB v b := fun b hb hv => by have := (hge b hv).2; have := hG b hb; omega
  obtain ⟨v', h2, e, o2, kp, l2, b2⟩ := od1.app (zs := [x]) (G := G') (by simp) (.one (Data.keeps hr (kl.p _))) hnv hb (by simp; omega) hk rfl
  have k2 : KeepsP (fun i => ¬ vB v i) h1 h2 := fun i blk hi h3 h4 => kp i blk hi (kl i blk h3 h4) h4
  exact ⟨v', h2, e, o2, fun h0 hk0 hl0 => Keeps.far (n := lo) (hk0.trans k1) k2 hl0 fun i hi hv => by have := (hge i hv).1; omega, by simp at l2; omega⟩

def allQ (c : Hd) (gs : List (List Int)) : Bool := goodH c && decide (gs.length = c.deeds.length) && gs.all (groupQ c)
noncomputable def allP (c : Hd) (gs : List (List Int)) (n : Nat) : List (List Int) := (List.range n).map fun (i : Nat) => ofL c (i : Int) (gs.getD i [])
noncomputable def linksR (c : Hd) (gs : List (List Int)) : List (List Int) := if allQ c gs = true then allP c gs gs.length else []
theorem allP_succ (c : Hd) (gs : List (List Int)) (n : Nat) (hn : n < gs.length) : allP c gs (n + 1) = allP c gs n ++ [ofL c (n : Int) gs[n]] := by
  simp only [allP, List.range_succ, List.map_append, List.map_cons, List.map_nil, List.getD_eq_getElem?_getD, List.getElem?_eq_getElem hn, Option.getD_some]
theorem groupQ_in {c : Hd} {ps : List Int} (h : groupQ c ps = true) : ∀ p ∈ ps, 0 ≤ p ∧ p ≤ c.no - 1 := by
  simp only [groupQ, Bool.and_eq_true, decide_eq_true_eq, risB] at h
  exact h.1.1
theorem AllDeps_ok {h : Heap} {v w : V} {c : Hd} {F F9 : List Nat} (hc : HdV h v c F) {gs : List (List Int)} (hp : SdF h w gs F9) :
    ∃ r h', call p 462 [v, w] h = some (r, h') ∧ ∃ o G, r = .tup [o, .bool (allQ c gs)] ∧ SdF h' o (linksR c gs) G ∧ Fresh h.length h' G ∧ Keeps h h' ∧ h.length ≤ h'.length := by
  obtain ⟨_, h1, e1, rfl, k1, l1⟩ := GoodHeard_ok hc
  have hc1 := hc.keep k1
  have hcc := hc1
  obtain ⟨x, y, F1, F2, rfl, rfl, hx, hy⟩ := hc1
  refine go (fn := g462) rfl rfl fun R hR => ?_
  have fin : ∀ h', allQ c gs = false → Keeps h h' → h.length ≤ h'.length → R (.tup [.nils, .bool false]) h' := fun h' hb hk hl => hR _ _ ⟨.nils, [], by rw [hb], by simp [linksR, hb]; exact .nil, Fresh.nil, hk, hl⟩
  cases hg : goodH c with
  | false =>
    rw [hg] at e1
    simp [g462, fillL, upd, hx.cells, hx.cell, hy.cells, hy.cell, e1]
    exact fin _ (by simp [allQ, hg]) k1 l1
  | true =>
    rw [hg] at e1
    by_cases hl : gs.length = c.deeds.length
    · have hl2 : (gs.length : Int) = c.deeds.length := by omega
      simp [g462, fillL, upd, hx.cells, hx.cell, hy.cells, hy.cell, e1, hp.len, hx.len, hl2]
      obtain ⟨_, h8, _⟩ := goodH_facts hg
      have hlen0 : ((c.deeds.length : Nat) : Int) = (gs.length : Int) := hl2.symm
      rw [← hl]
      refine Wc_upM (M := [4, 5, 6, 7, 8, 23, 24, 25, 26, 27, 28, 29, 30, 31, 32, 33, 34, 35, 36, 37, 38, 39]) rfl gs.length (fun i s => i ≤ gs.length ∧ s.σ 23 = .v (vi i) ∧ s.L 2 = (1, [vi c.no, x, y]) ∧ (∃ u G, s.σ 6 = .v u ∧ OdF h1.length s.h u (allP c gs i) G) ∧ (∀ g ∈ gs.take i, groupQ c g = true) ∧ Keeps h1 s.h ∧ h1.length ≤ s.h.length) 0
        ⟨by omega, by simp, by simp [upd], ⟨_, [], by simp; rfl, by simpa [allP] using OdF.empty (Nat.le_refl _) (by simp)⟩, by simp, Keeps.append _ _, by simp⟩ fun i s ⟨gi, g23, gL, ⟨u, G, g6, ou⟩, hall, hk, hln⟩ hM J hJ => ?_
      by_cases hi : i < gs.length
      · obtain ⟨z, F3, ez, hz, _⟩ := (hp.keep (k1.trans hk)).loadL i hi
        have iz := hp.idx 1 .i64 i hi
        simp only [Nat.mul_one] at iz
        have e2 := isGroupH_eq (hcc.keep hk) hg hz.sl
        cases hq : groupQ c gs[i] with
        | false =>
          rw [hq] at e2
          simp [g462_0, hM, g23, g6, gL, hi, iz, ez, e2]
          have : (gs.all (groupQ c)) = false := List.all_eq_false.2 ⟨_, List.getElem_mem hi, by simp [hq]⟩
          exact fin _ (by simp only [allQ, this, Bool.and_false]) (k1.trans hk) (by omega)
        | true =>
          rw [hq] at e2
          obtain ⟨r4, h4, e4, G4, s4, f4, k4, l4⟩ := allOf_ok (hcc.keep hk) hg (a := (i : Int)) (by omega) hz.sl (groupQ_in hq)
          have hpl : (allP c gs i).length ≤ 2 ^ 20 := by simp [allP]; omega
          obtain ⟨v6, h5, e5, o5, kk5, l5⟩ := ou.one k4 l4 f4 (x := ofL c (i : Int) gs[i]) (cs := [r4]) ⟨r4, rfl, s4⟩ hpl (k := 1) (bytes := 24) rfl (by decide)
          rw [← allP_succ c gs i hi] at o5
          simp [g462_0, hM, g23, g6, gL, hi, iz, ez, e2, e4, s4.cells, s4.cell, fillL, rdS_last, e5, hp.step hi]
          exact hJ _ hi ⟨hi, by simp, by simp [gL], ⟨v6, _, by simp, o5⟩, (all_take_succ hi).2 ⟨hall, hq⟩, kk5 _ hk (Nat.le_refl _), by show h1.length ≤ h5.length; omega⟩
      · have : i = gs.length := by omega
        subst this
        rw [List.take_length] at hall
        have hb : allQ c gs = true := by simp only [allQ, hg, hl, decide_true, Bool.true_and]; exact List.all_eq_true.2 hall
        obtain ⟨G9, s9, f9⟩ := ou.fresh
        simp [g462_0, hM, g23, g6]
        exact hR _ _ ⟨u, G9, by rw [hb], by simpa [linksR, hb] using s9, f9.mono l1, k1.trans hk, by omega⟩
    · have hl2 : ¬ (gs.length : Int) = c.deeds.length := by omega
      simp [g462, fillL, upd, hx.cells, hx.cell, hy.cells, hy.cell, e1, hp.len, hx.len, hl2]
      exact fin _ (by simp [allQ, hl]) k1 l1
theorem AllDepsS_ok {h : Heap} {v w : V} {c : Hd} {F F9 : List Nat} (hc : HdV h v c F) {gs : List (List Int)} (hp : SdF h w gs F9) :
    ∃ r h', call p 463 [v, w] h = some (r, h') ∧ ∃ o G, r = .tup [o, .bool (allQ c gs)] ∧ SdF h' o (linksR c gs) G ∧ Keeps h h' ∧ h.length ≤ h'.length := by
  have e1 := GoodHeardS_eq hc
  have hcc := hc
  obtain ⟨x, y, F1, F2, rfl, rfl, hx, hy⟩ := hc
  refine go (fn := g463) rfl rfl fun R hR => ?_
  have fin : ∀ h', allQ c gs = false → Keeps h h' → h.length ≤ h'.length → R (.tup [.nils, .bool false]) h' := fun h' hb hk hl => hR _ _ ⟨.nils, [], by rw [hb], by simp [linksR, hb]; exact .nil, hk, hl⟩
  cases hg : goodH c with
  | false =>
    rw [hg] at e1
    simp [g463, fillL, upd, hx.cells, hx.cell, hy.cells, hy.cell, e1]
    exact fin _ (by simp [allQ, hg]) (Keeps.refl _) (Nat.le_refl _)
  | true =>
    rw [hg] at e1
    by_cases hl : gs.length = c.deeds.length
    · have hl2 : (gs.length : Int) = c.deeds.length := by omega
      simp [g463, fillL, upd, hx.cells, hx.cell, hy.cells, hy.cell, e1, hp.len, hx.len, hl2]
      obtain ⟨_, h8, _⟩ := goodH_facts hg
      rw [← hl]
      refine Wc_upM (M := [4, 5, 6, 7, 8, 22, 23, 24, 25, 26, 27, 28, 29, 30, 31, 32, 33, 34, 35, 36, 37, 38]) rfl gs.length (fun i s => i ≤ gs.length ∧ s.σ 22 = .v (vi i) ∧ s.L 2 = (1, [vi c.no, x, y]) ∧ (∃ u G, s.σ 6 = .v u ∧ Od h.length s.h u (allP c gs i) G) ∧ (∀ g ∈ gs.take i, groupQ c g = true) ∧ Keeps h s.h ∧ h.length ≤ s.h.length) 0
        ⟨by omega, by simp, by simp [upd], ⟨.nils, [], by simp, by simpa [allP] using Od.nil (Nat.le_refl _)⟩, by simp, Keeps.refl _, by simp⟩ fun i s ⟨gi, g22, gL, ⟨u, G, g6, ou⟩, hall, hk, hln⟩ hM J hJ => ?_
      by_cases hi : i < gs.length
      · obtain ⟨z, F3, ez, hz, _⟩ := (hp.keep hk).loadL i hi
        have iz := hp.idx 1 .i64 i hi
        simp only [Nat.mul_one] at iz
        have e2 := l13Group_eq (hcc.keep hk) hg hz.sl
        rw [show (risB 0 (c.no - 1) gs[i] && decide (c.no.toNat / 2 + 1 ≤ gs[i].length)) = groupQ c gs[i] from rfl] at e2
        cases hq : groupQ c gs[i] with
        | false =>
          rw [hq] at e2
          simp [g463_0, hM, g22, g6, gL, hi, iz, ez, e2]
          have : (gs.all (groupQ c)) = false := List.all_eq_false.2 ⟨_, List.getElem_mem hi, by simp [hq]⟩
          exact fin _ (by simp only [allQ, this, Bool.and_false]) hk hln
        | true =>
          rw [hq] at e2
          obtain ⟨r4, h4, e4, G4, s4, f4, k4, l4⟩ := l13Of_ok (hcc.keep hk) hg (a := (i : Int)) (by omega) hz.sl (groupQ_in hq)
          have hpl : (allP c gs i).length ≤ 2 ^ 20 := by simp [allP]; omega
          obtain ⟨v6, h5, e5, o5, kk5, l5⟩ := ou.one k4 l4 f4 (x := ofL c (i : Int) gs[i]) (cs := [r4]) ⟨r4, rfl, s4⟩ hpl (k := 1) (bytes := 24) rfl (by decide)
          rw [← allP_succ c gs i hi] at o5
          simp [g463_0, hM, g22, g6, gL, hi, iz, ez, e2, e4, s4.cells, s4.cell, fillL, rdS_last, e5, hp.step hi]
          exact hJ _ hi ⟨hi, by simp, by simp [gL], ⟨v6, _, by simp, o5⟩, (all_take_succ hi).2 ⟨hall, hq⟩, kk5 _ hk (Nat.le_refl _), by show h.length ≤ h5.length; omega⟩
      · have : i = gs.length := by omega
        subst this
        rw [List.take_length] at hall
        have hb : allQ c gs = true := by simp only [allQ, hg, hl, decide_true, Bool.true_and]; exact List.all_eq_true.2 hall
        obtain ⟨G9, s9, _⟩ := ou.sd
        simp [g463_0, hM, g22, g6]
        exact hR _ _ ⟨u, G9, by rw [hb], by simpa [linksR, hb] using s9, hk, hln⟩
    · have hl2 : ¬ (gs.length : Int) = c.deeds.length := by omega
      simp [g463, fillL, upd, hx.cells, hx.cell, hy.cells, hy.cell, e1, hp.len, hx.len, hl2]
      exact fin _ (by simp [allQ, hl]) (Keeps.refl _) (Nat.le_refl _)

/-! a house: a heard log, and a group for each of its deeds -/
structure Hs where
  heard : Hd
  groups : List (List Int)
instance hsData : Data Hs where
  sz := 4
  pos := by decide
  rep := fun h c cs F => ∃ x y z F1 F2 F3, cs = [vi c.heard.no, x, y, z] ∧ F = F1 ++ F2 ++ F3 ∧ SdF h x c.heard.deeds F1 ∧ SdF h y c.heard.rows F2 ∧ SdF h z c.groups F3
  len := by rintro h a cs F ⟨x, y, z, F1, F2, F3, rfl, _⟩; rfl
  ok := by rintro h a cs F ⟨x, y, z, F1, F2, F3, rfl, _, h1, h2, h3⟩; simp [allCell, h1.cell, h2.cell, h3.cell, cell_int]
  keeps := by
    rintro h h' a cs F ⟨x, y, z, F1, F2, F3, rfl, rfl, h1, h2, h3⟩ hk
    exact ⟨x, y, z, F1, F2, F3, rfl, rfl, h1.keeps (hk.mono fun b hb => by simp [hb]), h2.keeps (hk.mono fun b hb => by simp [hb]), h3.keeps (hk.mono fun b hb => by simp [hb])⟩
  lt := by
    rintro h a cs F b ⟨x, y, z, F1, F2, F3, rfl, rfl, h1, h2, h3⟩ hb
    rcases List.mem_append.1 hb with hb | hb
    · rcases List.mem_append.1 hb with hb | hb
      · exact h1.lt hb
      · exact h2.lt hb
    · exact h3.lt hb
def HsV (h : Heap) (v : V) (c : Hs) (F : List Nat) : Prop := ∃ x y z F1 F2 F3, v = .agg [vi c.heard.no, x, y, z] ∧ F = F1 ++ F2 ++ F3 ∧ SdF h x c.heard.deeds F1 ∧ SdF h y c.heard.rows F2 ∧ SdF h z c.groups F3
section
variable {h h' : Heap} {v w : V} {c : Hs} {F G : List Nat}
theorem HsV.keeps (hc : HsV h v c F) (hk : KeepsP (fun b => b ∈ F) h h') : HsV h' v c F := by
  obtain ⟨x, y, z, F1, F2, F3, rfl, rfl, h1, h2, h3⟩ := hc
  exact ⟨x, y, z, F1, F2, F3, rfl, rfl, h1.keeps (hk.mono fun b hb => by simp [hb]), h2.keeps (hk.mono fun b hb => by simp [hb]), h3.keeps (hk.mono fun b hb => by simp [hb])⟩
theorem HsV.keep (hc : HsV h v c F) (hk : Keeps h h') : HsV h' v c F := hc.keeps (hk.p _)
theorem HsV.lt (hc : HsV h v c F) {b : Nat} (hb : b ∈ F) : b < h.length := by
  obtain ⟨x, y, z, F1, F2, F3, rfl, rfl, h1, h2, h3⟩ := hc
  rcases List.mem_append.1 hb with hb | hb
  · rcases List.mem_append.1 hb with hb | hb
    · obtain ⟨_, h3, _⟩ := h1.lt hb; exact get_lt h3
    · obtain ⟨_, h3, _⟩ := h2.lt hb; exact get_lt h3
  · obtain ⟨_, h4, _⟩ := h3.lt hb; exact get_lt h4
end
def smS (c : Hs) : Prop := smH c.heard ∧ c.groups.length + numN c.groups ≤ 2 ^ 20
theorem szHouse_eq {h : Heap} {v : V} {c : Hs} {F : List Nat} (hc : HsV h v c F) : ∃ r : Int, call p 455 [v, vi 1048576] h = some (vi r, h) ∧ (r < 0 ∨ smS c) := by
  obtain ⟨x, y, z, F1, F2, F3, rfl, rfl, hx, hy, hz⟩ := hc
  obtain ⟨r1, e1, h1⟩ := szHeard_eq (c := c.heard) ⟨x, y, F1, F2, rfl, rfl, hx, hy⟩ (l0 := 1048576) (by decide)
  by_cases hn : r1 < 0
  · refine ⟨-1, go_eq (fn := g455) rfl rfl fun R hR => ?_, .inl (by decide)⟩
    simp [g455, fillL, upd, hx.cells, hx.cell, hy.cells, hy.cell, hz.cells, hz.cell, e1, hn]; exact hR
  · have h1' : 0 ≤ r1 ∧ (c.heard.deeds.length : Int) + (c.heard.rows.length + numN c.heard.rows) + r1 = 1048576 := by
      rcases h1 with h | h
      · exact absurd h hn
      · exact h
    obtain ⟨r2, e2, h2⟩ := szIntSS_eq hz (l0 := r1) (by omega)
    by_cases hn2 : r2 < 0
    · refine ⟨-1, go_eq (fn := g455) rfl rfl fun R hR => ?_, .inl (by decide)⟩
      simp [g455, fillL, upd, hx.cells, hx.cell, hy.cells, hy.cell, hz.cells, hz.cell, e1, hn, e2, hn2]; exact hR
    · refine ⟨r2, go_eq (fn := g455) rfl rfl fun R hR => ?_, .inr ?_⟩
      · simp [g455, fillL, upd, hx.cells, hx.cell, hy.cells, hy.cell, hz.cells, hz.cell, e1, hn, e2, hn2]; exact hR
      · rcases h2 with h | h
        · exact absurd h hn2
        · exact ⟨⟨by omega, by omega⟩, by omega⟩
theorem toHouse_ok {h : Heap} {v : V} {c : Hs} {F : List Nat} (hc : HsV h v c F) (hsm : smS c) : ∃ r h', call p 456 [v] h = some (r, h') ∧ ∃ G, HsV h' r c G ∧ Fresh h.length h' G ∧ Keeps h h' ∧ h.length ≤ h'.length := by
  obtain ⟨x, y, z, F1, F2, F3, rfl, rfl, hx, hy, hz⟩ := hc
  obtain ⟨r1, h1, e1, G1, c1, f1, k1, l1⟩ := toHeard_ok (c := c.heard) ⟨x, y, F1, F2, rfl, rfl, hx, hy⟩ hsm.1
  obtain ⟨b, h2, e2, G2, s2, f2, k2, l2⟩ := toIntSS_ok (hz.keep k1) (by have := hsm.2; omega) fun r hr => by have := numN_mem hr; have := hsm.2; omega
  obtain ⟨x1, y1, H1, H2, rfl, rfl, p1, q1⟩ := c1
  refine go (fn := g456) rfl rfl fun R hR => ?_
  simp [g456, fillL, upd, hx.cells, hx.cell, hy.cells, hy.cell, hz.cells, hz.cell, e1, e2, resV, mkV, p1.cells, p1.cell, q1.cells, q1.cell, s2.cells, s2.cell]
  exact hR _ _ ⟨(H1 ++ H2) ++ G2, ⟨x1, y1, b, H1, H2, G2, rfl, rfl, p1.keep k2, q1.keep k2, s2⟩, f1.app f2 k2 l1, k1.trans k2, by omega⟩
theorem eqHouse_same {h : Heap} {v w : V} {c : Hs} {F G : List Nat} (hc : HsV h v c F) (hd : HsV h w c G) : call p 459 [v, w] h = some (.bool true, h) := by
  obtain ⟨x, y, z, F1, F2, F3, rfl, rfl, hx, hy, hz⟩ := hc
  obtain ⟨a, b, d, G1, G2, G3, rfl, rfl, ga, gb, gd⟩ := hd
  have e1 := eqHeard_same (c := c.heard) ⟨x, y, F1, F2, rfl, rfl, hx, hy⟩ ⟨a, b, G1, G2, rfl, rfl, ga, gb⟩
  have e2 := eqIntSS_same hz gd
  refine go_eq (fn := g459) rfl rfl fun R hR => ?_
  simp [g459, fillL, upd, hx.cells, hx.cell, hy.cells, hy.cell, hz.cells, hz.cell, ga.cells, ga.cell, gb.cells, gb.cell, gd.cells, gd.cell, e1, e2]; exact hR
def houseB (c : Hs) : Bool := allQ c.heard c.groups
theorem LinksOf_ok {h : Heap} {v : V} {c : Hs} {F : List Nat} (hc : HsV h v c F) :
    ∃ r h', call p 474 [v] h = some (r, h') ∧ ∃ o G, r = .tup [o, .bool (houseB c)] ∧ SdF h' o (linksR c.heard c.groups) G ∧ Fresh h.length h' G ∧ Keeps h h' ∧ h.length ≤ h'.length := by
  obtain ⟨x, y, z, F1, F2, F3, rfl, rfl, hx, hy, hz⟩ := hc
  obtain ⟨_, h1, e1, o, G, rfl, s1, f1, k1, l1⟩ := AllDeps_ok (c := c.heard) ⟨x, y, F1, F2, rfl, rfl, hx, hy⟩ hz
  refine go (fn := g474) rfl rfl fun R hR => ?_
  simp [g474, fillL, upd, hx.cells, hx.cell, hy.cells, hy.cell, hz.cells, hz.cell, e1]
  exact hR _ _ ⟨o, G, rfl, s1, f1, k1, l1⟩
theorem GoodHouse_ok {h : Heap} {v : V} {c : Hs} {F : List Nat} (hc : HsV h v c F) :
    ∃ r h', call p 458 [v] h = some (r, h') ∧ r = .bool (houseB c) ∧ Keeps h h' ∧ h.length ≤ h'.length := by
  obtain ⟨_, h1, e1, o, G, rfl, s1, f1, k1, l1⟩ := LinksOf_ok hc
  obtain ⟨x, y, z, F1, F2, F3, rfl, rfl, hx, hy, hz⟩ := hc
  refine go (fn := g458) rfl rfl fun R hR => ?_
  simp [g458, fillL, upd, hx.cells, hx.cell, hy.cells, hy.cell, hz.cells, hz.cell, e1]
  exact hR _ _ ⟨rfl, k1, l1⟩
theorem GoodHouseS_ok {h : Heap} {v : V} {c : Hs} {F : List Nat} (hc : HsV h v c F) :
    ∃ r h', call p 457 [v] h = some (r, h') ∧ r = .bool (houseB c) ∧ Keeps h h' ∧ h.length ≤ h'.length := by
  obtain ⟨x, y, z, F1, F2, F3, rfl, rfl, hx, hy, hz⟩ := hc
  obtain ⟨_, h1, e1, o, G, rfl, s1, k1, l1⟩ := AllDepsS_ok (c := c.heard) ⟨x, y, F1, F2, rfl, rfl, hx, hy⟩ hz
  refine go (fn := g457) rfl rfl fun R hR => ?_
  simp [g457, fillL, upd, hx.cells, hx.cell, hy.cells, hy.cell, hz.cells, hz.cell, e1]
  exact hR _ _ ⟨rfl, k1, l1⟩
def Hs.of (p : Hd × List (List Int)) : Hs := ⟨p.1, p.2⟩
theorem Hs.of_rep (h : Heap) (p : Hd × List (List Int)) (cs : List V) (F : List Nat) (hr : Data.rep h p cs F) : Data.rep h (Hs.of p) cs F := by
  obtain ⟨c, d, G1, G2, rfl, rfl, ⟨x, y, F1, F2, rfl, rfl, hx, hy⟩, ⟨z, rfl, hz⟩⟩ := hr
  exact ⟨x, y, z, F1, F2, G2, rfl, rfl, hx, hy, hz⟩
end GL

namespace GL
open Go

end GL

namespace GL
open Go

def fastAt (c : Hs) (i : Nat) : Bool := fastQ c.heard (i : Int) (c.groups.getD i []) && alikeB c.heard (c.groups.getD i []) (i : Int)
def fastCnt (c : Hs) : Nat → Nat
  | 0 => 0
  | n + 1 => fastCnt c n + (if fastAt c n = true then 1 else 0)
theorem fastCnt_le (c : Hs) (n : Nat) : fastCnt c n ≤ n := by
  induction n with
  | zero => simp [fastCnt]
  | succ n ih => simp only [fastCnt]; split <;> omega
def fastR (c : Hs) : Nat := if houseB c = true then fastCnt c c.groups.length else 0
theorem houseB_facts {c : Hs} (h : houseB c = true) : goodH c.heard = true ∧ c.groups.length = c.heard.deeds.length ∧ c.groups.length ≤ 8 := by
  simp only [houseB, allQ, Bool.and_eq_true, decide_eq_true_eq] at h
  obtain ⟨_, h8, _⟩ := goodH_facts h.1.1
  exact ⟨h.1.1, h.1.2, by omega⟩
theorem FastDeeds_ok {h : Heap} {v : V} {c : Hs} {F : List Nat} (hc : HsV h v c F) :
    ∃ r h', call p 478 [v] h = some (r, h') ∧ r = .tup [vi (fastR c), .bool (houseB c)] ∧ Keeps h h' ∧ h.length ≤ h'.length := by
  obtain ⟨_, h1, e1, rfl, k1, l1⟩ := GoodHouse_ok hc
  have hc1 := hc.keep k1
  obtain ⟨x, y, z, F1, F2, F3, rfl, rfl, hx, hy, hz⟩ := hc1
  refine go (fn := g478) rfl rfl fun R hR => ?_
  cases hb : houseB c with
  | false =>
    rw [hb] at e1
    simp [g478, fillL, upd, hx.cells, hx.cell, hy.cells, hy.cell, hz.cells, hz.cell, e1]
    exact hR _ _ ⟨by simp [fastR, hb], k1, l1⟩
  | true =>
    rw [hb] at e1
    obtain ⟨hg, hgl, h8⟩ := houseB_facts hb
    simp [g478, fillL, upd, hx.cells, hx.cell, hy.cells, hy.cell, hz.cells, hz.cell, e1, hz.len]
    refine Wc_upM (M := [4, 5, 6, 7, 8, 15, 16, 17, 18, 19, 20, 21, 22, 23, 24, 25, 26, 27, 28, 29, 30, 31, 32, 33, 34]) rfl c.groups.length (fun i s => i ≤ c.groups.length ∧ s.σ 15 = .v (vi i) ∧ s.σ 4 = .v (vi (fastCnt c i)) ∧ s.L 1 = (1, [vi c.heard.no, x, y, z]) ∧ Keeps h1 s.h ∧ h1.length ≤ s.h.length) 0
      ⟨by omega, by simp, by simp [fastCnt], by simp [upd], Keeps.refl _, Nat.le_refl _⟩ fun i s ⟨gi, g15, g4, gL, hk, hl⟩ hM J hJ => ?_
    by_cases hi : i < c.groups.length
    · obtain ⟨u, Fu, eu, hu, _⟩ := (hz.keep hk).loadL i hi
      have iz := hz.idx 1 .i64 i hi
      simp only [Nat.mul_one] at iz
      obtain ⟨_, h2, e2, rfl, k2, l2⟩ := IsFastOne_ok (c := c.heard) (HdV.keep ⟨x, y, F1, F2, rfl, rfl, hx, hy⟩ hk) hu.sl (i : Int)
      have hgd : c.groups.getD i [] = c.groups[i] := by rw [List.getD_eq_getElem?_getD, List.getElem?_eq_getElem hi]; rfl
      have hfb : fastAt c i = (fastQ c.heard (i : Int) c.groups[i] && alikeB c.heard c.groups[i] (i : Int)) := by rw [fastAt, hgd]
      have hle := fastCnt_le c i
      have w4 : IntKind.i64.wrap ((fastCnt c i : Int) + 1) = (fastCnt c i + 1 : Nat) := by rw [IntWalk.i64_in] <;> omega
      have st := hz.step hi
      have hfs : fastCnt c (i + 1) = fastCnt c i + (if fastAt c i = true then 1 else 0) := rfl
      rw [hfb] at hfs
      generalize fastQ c.heard (i : Int) c.groups[i] = q1 at *
      generalize alikeB c.heard c.groups[i] (i : Int) = q2 at *
      cases q1
      · simp [g478_0, hM, g15, g4, gL, hi, iz, eu, e2, st]
        exact hJ _ hi ⟨hi, by simp, by simp [g4, hfs], by simp [gL], hk.trans k2, by show h1.length ≤ h2.length; omega⟩
      · cases q2
        · simp [g478_0, hM, g15, g4, gL, hi, iz, eu, e2, st]
          exact hJ _ hi ⟨hi, by simp, by simp [g4, hfs], by simp [gL], hk.trans k2, by show h1.length ≤ h2.length; omega⟩
        · simp [g478_0, hM, g15, g4, gL, hi, iz, eu, e2, st, w4, -Int.natCast_add]
          exact hJ _ hi ⟨hi, by simp, by simp [hfs], by simp [gL], hk.trans k2, by show h1.length ≤ h2.length; omega⟩
    · have : i = c.groups.length := by omega
      subst this
      simp [g478_0, hM, g15, g4]
      exact hR _ _ ⟨by simp [fastR, hb], k1.trans hk, by omega⟩
theorem FastDeedsS_ok {h : Heap} {v : V} {c : Hs} {F : List Nat} (hc : HsV h v c F) :
    ∃ r h', call p 477 [v] h = some (r, h') ∧ r = .tup [vi (fastR c), .bool (houseB c)] ∧ Keeps h h' ∧ h.length ≤ h'.length := by
  obtain ⟨_, h1, e1, rfl, k1, l1⟩ := GoodHouseS_ok hc
  have hc1 := hc.keep k1
  obtain ⟨x, y, z, F1, F2, F3, rfl, rfl, hx, hy, hz⟩ := hc1
  refine go (fn := g477) rfl rfl fun R hR => ?_
  cases hb : houseB c with
  | false =>
    rw [hb] at e1
    simp [g477, fillL, upd, hx.cells, hx.cell, hy.cells, hy.cell, hz.cells, hz.cell, e1]
    exact hR _ _ ⟨by simp [fastR, hb], k1, l1⟩
  | true =>
    rw [hb] at e1
    obtain ⟨hg, hgl, h8⟩ := houseB_facts hb
    simp [g477, fillL, upd, hx.cells, hx.cell, hy.cells, hy.cell, hz.cells, hz.cell, e1, hz.len]
    refine Wc_upM (M := [4, 5, 6, 7, 8, 15, 16, 17, 18, 19, 20, 21, 22, 23, 24, 25, 26, 27, 28, 29, 30, 31, 32, 33, 34]) rfl c.groups.length (fun i s => i ≤ c.groups.length ∧ s.σ 15 = .v (vi i) ∧ s.σ 4 = .v (vi (fastCnt c i)) ∧ s.L 1 = (1, [vi c.heard.no, x, y, z]) ∧ Keeps h1 s.h ∧ h1.length ≤ s.h.length) 0
      ⟨by omega, by simp, by simp [fastCnt], by simp [upd], Keeps.refl _, Nat.le_refl _⟩ fun i s ⟨gi, g15, g4, gL, hk, hl⟩ hM J hJ => ?_
    by_cases hi : i < c.groups.length
    · obtain ⟨u, Fu, eu, hu, _⟩ := (hz.keep hk).loadL i hi
      have iz := hz.idx 1 .i64 i hi
      simp only [Nat.mul_one] at iz
      obtain ⟨_, h2, e2, rfl, k2, l2⟩ := IsFastOneS_ok (c := c.heard) (HdV.keep ⟨x, y, F1, F2, rfl, rfl, hx, hy⟩ hk) hu.sl (i : Int)
      have hgd : c.groups.getD i [] = c.groups[i] := by rw [List.getD_eq_getElem?_getD, List.getElem?_eq_getElem hi]; rfl
      have hfb : fastAt c i = (fastQ c.heard (i : Int) c.groups[i] && alikeB c.heard c.groups[i] (i : Int)) := by rw [fastAt, hgd]
      have hle := fastCnt_le c i
      have w4 : IntKind.i64.wrap ((fastCnt c i : Int) + 1) = (fastCnt c i + 1 : Nat) := by rw [IntWalk.i64_in] <;> omega
      have st := hz.step hi
      have hfs : fastCnt c (i + 1) = fastCnt c i + (if fastAt c i = true then 1 else 0) := rfl
      rw [hfb] at hfs
      generalize fastQ c.heard (i : Int) c.groups[i] = q1 at *
      generalize alikeB c.heard c.groups[i] (i : Int) = q2 at *
      cases q1
      · simp [g477_0, hM, g15, g4, gL, hi, iz, eu, e2, st]
        exact hJ _ hi ⟨hi, by simp, by simp [g4, hfs], by simp [gL], hk.trans k2, by show h1.length ≤ h2.length; omega⟩
      · cases q2
        · simp [g477_0, hM, g15, g4, gL, hi, iz, eu, e2, st]
          exact hJ _ hi ⟨hi, by simp, by simp [g4, hfs], by simp [gL], hk.trans k2, by show h1.length ≤ h2.length; omega⟩
        · simp [g477_0, hM, g15, g4, gL, hi, iz, eu, e2, st, w4, -Int.natCast_add]
          exact hJ _ hi ⟨hi, by simp, by simp [hfs], by simp [gL], hk.trans k2, by show h1.length ≤ h2.length; omega⟩
    · have : i = c.groups.length := by omega
      subst this
      simp [g477_0, hM, g15, g4]
      exact hR _ _ ⟨by simp [fastR, hb], k1.trans hk, by omega⟩
theorem FnExactFastDeeds_ok {h : Heap} {va : V} {c : Hs} {F : List Nat} (hc : HsV h va c F) : ∃ w h', call p 476 [va] h = some (w, h') ∧ w = .bool true := by
  refine go (fn := g476) rfl rfl fun R hR => ?_
  obtain ⟨n, en, hn⟩ := szHouse_eq hc
  have hcc := hc
  obtain ⟨x, y, z, F1, F2, F3, rfl, hF, hx, hy, hz⟩ := hc
  by_cases hneg : n < 0
  · simp [g476, fillL, upd, hx.cells, hx.cell, hy.cells, hy.cell, hz.cells, hz.cell, en, hneg]
    exact hR _ _ rfl
  · have hsm : smS c := by
      rcases hn with h | h
      · exact absurd h hneg
      · exact h
    obtain ⟨r1, h1, e1, G1, c1, f1, k1, l1⟩ := toHouse_ok hcc hsm
    obtain ⟨_, h2, e2, rfl, k2, l2⟩ := FastDeedsS_ok c1
    have k12 := k1.trans k2
    obtain ⟨r3, h3, e3, G3, c3, f3, k3, l3⟩ := toHouse_ok (hcc.keep k12) hsm
    obtain ⟨_, h4, e4, rfl, k4, l4⟩ := FastDeeds_ok c3
    obtain ⟨r5, h5, e5, G5, c5, f5, k5, l5⟩ := toHouse_ok (hcc.keep ((k12.trans k3).trans k4)) hsm
    have e6 := eqHouse_same (c3.keep (k4.trans k5)) c5
    generalize houseB c = ok at *
    generalize fastR c = fr at *
    obtain ⟨x1, y1, z1, _, _, _, rfl, _, p1, q1, s1⟩ := c1
    obtain ⟨x3, y3, z3, _, _, _, rfl, _, p3, q3, s3⟩ := c3
    obtain ⟨x5, y5, z5, _, _, _, rfl, _, p5, q5, s5⟩ := c5
    simp [g476, fillL, upd, resV, mkV, hx.cells, hx.cell, hy.cells, hy.cell, hz.cells, hz.cell, p1.cells, p1.cell, q1.cells, q1.cell, s1.cells, s1.cell, p3.cells, p3.cell, q3.cells, q3.cell, s3.cells, s3.cell, p5.cells, p5.cell, q5.cells, q5.cell, s5.cells, s5.cell, en, hneg, e1, e2, e3, e4, e5, e6]
    exact hR _ _ rfl
theorem FnExactFastDeeds_law {h : Heap} {x0 : V} {c : Hs} {F0 : List Nat} (r0 : RepA h x0 c F0 true) : ∃ w h', call p 476 [x0] h = some (w, h') ∧ w = .bool true := by
  obtain ⟨vs, rfl, _, x, y, z, G1, G2, G3, rfl, rfl, hx, hy, hz⟩ := r0
  exact FnExactFastDeeds_ok (c := c) (F := G1 ++ G2 ++ G3) ⟨x, y, z, G1, G2, G3, rfl, rfl, hx, hy, hz⟩
end GL

