import Derived.ChangeArms
import Derived.IntWalk
import Derived.WideShapes
import Derived.Test.YtpmpdfpgkcagnaaGuFnExactOutcomeByA
/- What the functions of the law do, on the machine. -/
set_option linter.unusedSimpArgs false
set_option linter.unusedVariables false
set_option linter.unnecessarySimpa false
namespace GL
open Go

/-! lists of lists of numbers -/
def numN (xs : List (List Int)) : Nat := (xs.map List.length).sum
theorem numN_take {xs : List (List Int)} {i : Nat} (hi : i < xs.length) : numN (xs.take (i + 1)) = numN (xs.take i) + xs[i].length := by
  rw [List.take_succ_eq_append_getElem hi]
  simp only [numN, List.map_append, List.sum_append, List.map_cons, List.map_nil, List.sum_cons, List.sum_nil, Nat.add_zero]
theorem numN_mem {xs : List (List Int)} {r : List Int} (hr : r ∈ xs) : r.length ≤ numN xs := by
  induction xs with
  | nil => cases hr
  | cons x xs ih =>
    simp only [numN, List.map_cons, List.sum_cons] at ih ⊢
    rcases List.mem_cons.1 hr with rfl | hr
    · omega
    · have := ih hr; omega
theorem numN_le (xs : List (List Int)) (i : Nat) : numN (xs.take i) ≤ numN xs := by
  induction xs generalizing i with
  | nil => simp [numN]
  | cons x xs ih =>
    cases i with
    | zero => simp [numN]
    | succ i => have := ih i; simp only [numN, List.take_succ_cons, List.map_cons, List.sum_cons] at this ⊢; omega
theorem szIntSS_eq {h : Heap} {v : V} {xs : List (List Int)} {F : List Nat} (hs : SdF h v xs F) {l0 : Int} (h0 : 0 ≤ l0 ∧ l0 ≤ 2 ^ 20) : ∃ r : Int, call p 367 [v, vi l0] h = some (vi r, h) ∧ (r < 0 ∨ (0 ≤ r ∧ xs.length + numN xs + r = l0)) := by
  have : ∃ w h', call p 367 [v, vi l0] h = some (w, h') ∧ ∃ r : Int, w = vi r ∧ h' = h ∧ (r < 0 ∨ (0 ≤ r ∧ xs.length + numN xs + r = l0)) := by
    refine go (fn := g367) rfl rfl fun R hR => ?_
    have hb := hs.bd
    have w : IntKind.i64.wrap (l0 - (xs.length : Int)) = l0 - xs.length := by rw [IntWalk.i64_in] <;> omega
    by_cases h1 : (xs.length : Int) ≤ l0
    · have h2 : ¬ l0 - xs.length < 0 := by omega
      simp [g367, hs.len, w, h2]
      refine Wc_upM (M := [1, 4, 5, 12, 13, 14, 15, 16, 17, 18, 19, 20, 21, 22, 23, 24, 25]) rfl xs.length (fun i s => i ≤ xs.length ∧ s.σ 5 = .v (vi i) ∧ s.h = h ∧ ∃ left : Int, s.σ 1 = .v (vi left) ∧ 0 ≤ left ∧ left + xs.length + numN (xs.take i) = l0) 0
        ⟨by omega, by simp, by simp, l0 - xs.length, by simp, by omega, by simp [numN]⟩ fun i s ⟨gi, g5, gh, left, g1, l0, l1⟩ hM J hJ => ?_
      by_cases hn : i < xs.length
      · obtain ⟨x, F2, e1, hx, _⟩ := hs.loadL i hn
        have e2 := szIntS_eq hx.sl (left := left) (by omega)
        have ct := numN_take hn
        have ix := hs.idx 1 .i64 i hn
        simp only [Nat.mul_one] at ix
        by_cases q : left < xs[i].length
        · rw [if_pos q] at e2
          simp [g367_0, hM, g5, g1, gh, hs.len, hn, ix, e1, e2]
          exact hR _ _ ⟨-1, rfl, rfl, .inl (by decide)⟩
        · rw [if_neg q] at e2
          have q2 : ¬ left - (xs[i].length : Int) < 0 := by omega
          simp [g367_0, hM, g5, g1, gh, hs.len, hn, ix, e1, e2, q2, hs.step hn]
          exact hJ _ hn ⟨hn, by simp, rfl, left - xs[i].length, by simp, by omega, by omega⟩
      · have : i = xs.length := by omega
        subst this
        rw [List.take_length] at l1
        simp [g367_0, hM, g5, g1, gh, hs.len]
        exact hR _ _ ⟨left, rfl, rfl, .inr (by omega)⟩
    · have h2 : l0 - xs.length < 0 := by omega
      simp [g367, hs.len, w, h2]
      exact hR _ _ ⟨-1, rfl, rfl, .inl (by decide)⟩
  obtain ⟨_, _, e, r, rfl, rfl, hr⟩ := this
  exact ⟨r, e, hr⟩
theorem reps_nil (h : Heap) : ∀ n, Reps h (List.replicate n ([] : List Int)) (List.replicate n V.nils) []
  | 0 => ⟨rfl, rfl⟩
  | n + 1 => ⟨[.nils], _, [], [], by simp [List.replicate_succ], rfl, ⟨.nils, rfl, SdF.nil⟩, reps_nil h n⟩
theorem toIntSS_ok {h : Heap} {v : V} {xs : List (List Int)} {F : List Nat} (hs : SdF h v xs F) (hl : xs.length ≤ 2 ^ 20) (hc : ∀ r ∈ xs, r.length ≤ 2 ^ 20) : ∃ r h', call p 371 [v] h = some (r, h') ∧ ∃ G, SdF h' r xs G ∧ Fresh h.length h' G ∧ Keeps h h' ∧ h.length ≤ h'.length := by
  refine go (fn := g371) rfl rfl fun R hR => ?_
  have c2 : (xs.length : Int) * 24 ≤ (room : Int) := by unfold room; omega
  have c3 : xs.length ≤ room := by unfold room; omega
  have hs0 : SdF (h ++ [⟨.own, List.replicate xs.length V.nils⟩]) (.slice h.length 0 xs.length (.k xs.length)) (List.replicate xs.length ([] : List Int)) [h.length] := by
    have hr := reps_nil (h ++ [⟨.own, List.replicate xs.length V.nils⟩]) xs.length
    refine ⟨by simp; omega, .inr ⟨h.length, 0, .k xs.length, by simp, by simp [capW], .inr ⟨⟨.own, List.replicate xs.length V.nils⟩, List.replicate xs.length V.nils, [], rfl, by simp, by simp, ?_, hr⟩⟩⟩
    have hfl := hr.len
    have hsz : Data.sz (List Int) = 1 := rfl
    simp only [List.length_replicate, hsz, Nat.mul_one, cut, List.drop_zero]
    rw [if_pos (by simp), List.take_of_length_le (by simp)]
  simp [g371, hs.len, c2, c3]
  refine Wc_upM (M := [4, 8, 9, 10, 11, 12, 13, 14, 15, 16, 17, 18, 19, 20, 21]) rfl xs.length (fun i s => i ≤ xs.length ∧ s.σ 4 = .v (vi i) ∧ (∃ G, SdF s.h (.slice h.length 0 xs.length (.k xs.length)) (xs.take i ++ List.replicate (xs.length - i) []) G ∧ Fresh h.length s.h G) ∧ OwnB s.h h.length ∧ Keeps h s.h ∧ h.length ≤ s.h.length) 0
    ⟨by omega, by simp, ⟨[h.length], by simpa using hs0, by simp, by simp, fun b hb => by simp at hb; subst hb; exact ⟨_, by simp; rfl⟩⟩, ⟨_, by simp; rfl⟩, Keeps.append h _, by simp⟩ fun i s ⟨gi, g4, ⟨G, hf, fr⟩, ho, hk, hlen⟩ hM J hJ => ?_
  by_cases hn : i < xs.length
  · have hs' := hs.keep hk
    obtain ⟨x, F2, e1, hx, _⟩ := hs'.loadL i hn
    obtain ⟨y, h1, e2, G', hy, fr', k1, l1⟩ := toIntS_ok hx.sl (hc _ (by simp))
    have hf1 := hf.keep k1
    have fr1 := fr.keeps (k1.p _)
    have ho1 := ho.keeps (k1.p fun _ => True) trivial
    have hGG : ∀ b ∈ G', b ∉ G := fun b hb hm => by have := fr'.ge b hb; have := (fr.own b hm).lt; omega
    obtain ⟨h', F', e, hf', fn', fm', k', l', o'⟩ := hf1.putN fr1.nodup ho1 (i := i) (by simp; omega) (x' := xs[i]) (cs' := [y]) (G' := G') ⟨y, rfl, hy⟩ hGG fr'.nodup
    have e' : wrH h1 h.length i [y] = some h' := by
      have e9 := e
      simp only [bOf, oOf, Nat.zero_add] at e9
      have : i * Data.sz (List Int) = i := Nat.mul_one i
      rw [this] at e9
      exact e9
    have ix := hs'.idx 1 .i64 i hn
    simp only [Nat.mul_one] at ix
    simp [g371_0, hM, g4, hs.len, hn, ix, e1, hs.step hn, e2, e', hy.cell, hy.cells]
    refine hJ _ hn ⟨hn, by simp, ⟨F', ?_, fn', fun b hb => ?_, fun b hb => ?_⟩, o' _ ho1, Keeps.far (n := h.length) (hk.trans k1) k' (Nat.le_refl _) fun i hi => by simp [bOf]; omega, by simp; omega⟩
    · have : (xs.take i ++ List.replicate (xs.length - i) []).set i xs[i] = xs.take (i + 1) ++ List.replicate (xs.length - (i + 1)) [] := by
        rw [List.set_append_right _ _ (by simp; omega), List.take_succ_eq_append_getElem hn]
        have : xs.length - i = xs.length - (i + 1) + 1 := by omega
        rw [this, List.replicate_succ]
        have : i - (xs.take i).length = 0 := by simp; omega
        rw [this, List.set_cons_zero, List.append_assoc]; rfl
      rw [this] at hf'; exact hf'
    · rcases fm' b hb with hb | hb
      · exact fr.ge b hb
      · have := fr'.ge b hb; omega
    · rcases fm' b hb with hb | hb
      · exact o' b (fr1.own b hb)
      · exact o' b (fr'.own b hb)
  · have : i = xs.length := by omega
    subst this
    rw [List.take_length, Nat.sub_self, List.replicate_zero, List.append_nil] at hf
    simp [g371_0, hM, g4, hs.len]
    exact hR _ _ ⟨G, hf, fr, hk, hlen⟩
theorem eqIntSS_same {h : Heap} {v w : V} {xs : List (List Int)} {F G : List Nat} (hs : SdF h v xs F) (ht : SdF h w xs G) : call p 374 [v, w] h = some (.bool true, h) := by
  refine go_eq (fn := g374) rfl rfl fun R hR => ?_
  simp [g374, hs.len, ht.len]
  refine Wc_upM (M := [4, 5, 11, 12, 13, 14, 15, 16, 17, 18, 19, 20, 21, 22, 23, 24, 25, 26]) rfl xs.length (fun i s => s.σ 5 = .v (vi i) ∧ s.h = h) 0 (by simp) fun i s ⟨g5, gh⟩ hM J hJ => ?_
  by_cases hn : i < xs.length
  · obtain ⟨x, F2, e1, hx, _⟩ := hs.loadL i hn
    obtain ⟨y, G2, e2, hy, _⟩ := ht.loadL i hn
    have ev := eqIntS_eq hx.sl hy.sl
    rw [decide_eq_true rfl] at ev
    have ix := hs.idx 1 .i64 i hn
    have iy := ht.idx 1 .i64 i hn
    simp only [Nat.mul_one] at ix iy
    simp [g374_0, hM, g5, gh, hs.len, hn, ix, e1, iy, e2, ev, hs.step hn]
    exact hJ _ hn ⟨by simp, rfl⟩
  · simp [g374_0, hM, g5, gh, hs.len, hn]
    exact hR

def mkL : Int → List (List Int) → List (List Int)
  | _, [] => []
  | k, r :: rs => mkI k r.length :: mkL (k + r.length) rs
theorem mkL_snoc (k : Int) (xs : List (List Int)) (r : List Int) : mkL k (xs ++ [r]) = mkL k xs ++ [mkI (k + numN xs) r.length] := by
  induction xs generalizing k with
  | nil => simp [mkL, numN]
  | cons x xs ih =>
    simp only [List.cons_append, mkL, ih]
    have : k + (x.length : Int) + numN xs = k + numN (x :: xs) := by simp [numN]; omega
    rw [this]
theorem mkL_len (k : Int) (xs : List (List Int)) : (mkL k xs).length = xs.length := by
  induction xs generalizing k with
  | nil => rfl
  | cons x xs ih => simp [mkL, ih]
theorem markIntSS_ok {h : Heap} {v : V} {xs : List (List Int)} {F : List Nat} {lo : Nat} (hs : SdF h v xs F) (fr : Fresh lo h F) {k : Int} (hk : 0 ≤ k ∧ k ≤ 2 ^ 40) (hl : xs.length + numN xs ≤ 2 ^ 20) :
    ∃ r h', call p 375 [v, vi k] h = some (r, h') ∧ r = vi (k + numN xs) ∧ SdF h' v (mkL k xs) F ∧ KeepsP (fun b => b ∉ F) h h' ∧ h'.length = h.length ∧ Fresh lo h' F ∧ ∀ b, OwnB h b → OwnB h' b := by
  refine go (fn := g375) rfl rfl fun R hR => ?_
  simp [g375]
  refine Wc_upM (M := [1, 5, 6, 7, 8, 9, 10, 11, 12, 13, 14, 15, 16, 17]) rfl xs.length (fun i s => i ≤ xs.length ∧ s.σ 5 = .v (vi i) ∧ s.σ 1 = .v (vi (k + numN (xs.take i))) ∧ SdF s.h v (mkL k (xs.take i) ++ xs.drop i) F ∧ (∀ b, OwnB h b → OwnB s.h b) ∧ KeepsP (fun b => b ∉ F) h s.h ∧ s.h.length = h.length) 0
    ⟨by omega, by simp, by simp [numN], by simpa [mkL] using hs, fun _ h => h, KeepsP.refl _ _, rfl⟩ fun i s ⟨gi, g5, g1, hf, hown, hkp, hlen⟩ hM J hJ => ?_
  have htl : (xs.take i).length = i := by simp; omega
  have hll : (mkL k (xs.take i) ++ xs.drop i).length = xs.length := by rw [List.length_append, mkL_len, htl]; simp; omega
  by_cases hn : i < xs.length
  · have hil : i < (mkL k (xs.take i) ++ xs.drop i).length := by rw [hll]; exact hn
    have hel : (mkL k (xs.take i) ++ xs.drop i)[i] = xs[i] := by
      rw [List.getElem_append_right (by rw [mkL_len, htl]; exact Nat.le_refl _)]
      simp [mkL_len, htl]
    have hK := numN_le xs i
    have hcl := numN_mem (List.getElem_mem hn)
    obtain ⟨cs, F2, e2, hr2, hF2, fn2, hbF, hfin⟩ := hf.inner fr.nodup hil
    rw [hel] at hr2
    obtain ⟨x, rfl, hx⟩ := hr2
    have e2' : rdH s.h (bOf v) (oOf v + i) 1 = some [x] := by
      have : i * Data.sz (List Int) = i := Nat.mul_one i
      rw [this] at e2; exact e2
    have own1 : ∀ b ∈ F2, OwnB s.h b := fun b hb => hown b (fr.own b (hF2 b hb).1)
    obtain ⟨_, h2, e4, rfl, p1, p2, p3, p4⟩ := markIntS_ok hx own1 (k := k + numN (xs.take i)) (by omega) (by omega)
    have hf2 := hfin h2 (mkI (k + numN (xs.take i)) xs[i].length) p2 ⟨x, rfl, p1⟩
    have i1 := hf.idx 1 .i64 i hil
    simp only [Nat.mul_one] at i1
    have hks : k + (numN (xs.take (i + 1)) : Int) = k + numN (xs.take i) + xs[i].length := by rw [numN_take hn]; omega
    simp [g375_0, hM, g5, g1, hs.len, hn, i1, hs.step hn, e2', e4]
    refine hJ _ hn ⟨hn, by simp, by simp [hks], ?_, fun b hb => p4 b (hown b hb), hkp.trans (p2.mono fun b hb hm => hb (hF2 b hm).1), by simp; omega⟩
    have : (mkL k (xs.take i) ++ xs.drop i).set i (mkI (k + numN (xs.take i)) xs[i].length) = mkL k (xs.take (i + 1)) ++ xs.drop (i + 1) := by
      rw [List.take_succ_eq_append_getElem hn, mkL_snoc, List.set_append_right _ _ (by rw [mkL_len, htl]; exact Nat.le_refl _), mkL_len, htl, Nat.sub_self, List.drop_eq_getElem_cons hn, List.set_cons_zero]
      simp
    rw [this] at hf2; exact hf2
  · have : i = xs.length := by omega
    subst this
    rw [List.take_length] at g1 hf
    rw [List.drop_length, List.append_nil] at hf
    simp [g375_0, hM, g5, g1, hs.len]
    exact hR _ _ ⟨rfl, hf, hkp, hlen, ⟨fr.nodup, fr.ge, fun b hb => hown b (fr.own b hb)⟩, hown⟩
end GL

namespace GL
open Go

/-! a log that was heard: the places, the deeds, and what each place heard, in order -/
structure Hd where
  no : Int
  deeds : List Dd
  rows : List (List Int)
instance hdData : Data Hd where
  sz := 3
  pos := by decide
  rep := fun h c cs F => ∃ x y F1 F2, cs = [vi c.no, x, y] ∧ F = F1 ++ F2 ∧ SdF h x c.deeds F1 ∧ SdF h y c.rows F2
  len := by rintro h a cs F ⟨x, y, F1, F2, rfl, _⟩; rfl
  ok := by rintro h a cs F ⟨x, y, F1, F2, rfl, _, h1, h2⟩; simp [allCell, h1.cell, h2.cell, cell_int]
  keeps := by
    rintro h h' a cs F ⟨x, y, F1, F2, rfl, rfl, h1, h2⟩ hk
    exact ⟨x, y, F1, F2, rfl, rfl, h1.keeps (hk.mono fun b hb => List.mem_append_left _ hb), h2.keeps (hk.mono fun b hb => List.mem_append_right _ hb)⟩
  lt := by
    rintro h a cs F b ⟨x, y, F1, F2, rfl, rfl, h1, h2⟩ hb
    rcases List.mem_append.1 hb with hb | hb
    · exact h1.lt hb
    · exact h2.lt hb
def HdV (h : Heap) (v : V) (c : Hd) (F : List Nat) : Prop := ∃ x y F1 F2, v = .agg [vi c.no, x, y] ∧ F = F1 ++ F2 ∧ SdF h x c.deeds F1 ∧ SdF h y c.rows F2
section
variable {h h' : Heap} {v w : V} {c : Hd} {F G : List Nat}
theorem HdV.keeps (hc : HdV h v c F) (hk : KeepsP (fun b => b ∈ F) h h') : HdV h' v c F := by
  obtain ⟨x, y, F1, F2, rfl, rfl, h1, h2⟩ := hc
  exact ⟨x, y, F1, F2, rfl, rfl, h1.keeps (hk.mono fun b hb => List.mem_append_left _ hb), h2.keeps (hk.mono fun b hb => List.mem_append_right _ hb)⟩
theorem HdV.keep (hc : HdV h v c F) (hk : Keeps h h') : HdV h' v c F := hc.keeps (hk.p _)
theorem HdV.lt (hc : HdV h v c F) {b : Nat} (hb : b ∈ F) : b < h.length := by
  obtain ⟨x, y, F1, F2, rfl, rfl, h1, h2⟩ := hc
  rcases List.mem_append.1 hb with hb | hb
  · obtain ⟨_, h3, _⟩ := h1.lt hb; exact get_lt h3
  · obtain ⟨_, h3, _⟩ := h2.lt hb; exact get_lt h3
end

/-! deeds in a list -/
theorem indexD_eq {h : Heap} {v : V} {xs : List Dd} (hs : Sl h v xs) (f : Nat) (capt : List V) (q : Dd → Bool) (hf : ∀ d h, call p f (dv d :: capt) h = some (.bool (q d), h)) : ∃ k : Int, call p 569 [v, .fn f capt] h = some (vi k, h) ∧ (0 ≤ k ↔ ∃ x ∈ xs, q x = true) := by
  have : ∃ r h', call p 569 [v, .fn f capt] h = some (r, h') ∧ ∃ k : Int, r = vi k ∧ h' = h ∧ (0 ≤ k ↔ ∃ x ∈ xs, q x = true) := by
    refine go (fn := g569) rfl rfl fun R hR => ?_
    simp [g569, hs.len]
    refine Wc_upM (M := [4, 5, 8, 9, 10, 11, 12, 13, 14, 15, 16, 17, 18]) rfl xs.length (fun i s => s.σ 8 = .v (vi i) ∧ s.h = h ∧ ∀ x ∈ xs.take i, q x = false) 0 (by simp) fun i s ⟨g8, gh, hall⟩ hM J hJ => ?_
    by_cases hn : i < xs.length
    · have e1 := hf xs[i] h
      cases he : q xs[i] with
      | true =>
        rw [he] at e1
        simp [g569_0, hM, g8, gh, hn, hs.idx, hs.loadD, e1]
        exact hR _ _ ⟨i, rfl, rfl, by simp; exact ⟨xs[i], by simp, he⟩⟩
      | false =>
        rw [he] at e1
        simp [g569_0, hM, g8, gh, hn, hs.idx, hs.loadD, e1, hs.step hn]
        exact hJ _ hn ⟨by simp, rfl, (all_take_succ hn).2 ⟨hall, he⟩⟩
    · rw [List.take_of_length_le (by omega)] at hall
      simp [g569_0, hM, g8, gh, hn]
      exact hR _ _ ⟨-1, rfl, rfl, by simpa using hall⟩
  obtain ⟨_, _, e, k, rfl, rfl, hk⟩ := this
  exact ⟨k, e, hk⟩
theorem containsD_eq {h : Heap} {v : V} {xs : List Dd} (hs : Sl h v xs) (f : Nat) (capt : List V) (q : Dd → Bool) (hf : ∀ d h, call p f (dv d :: capt) h = some (.bool (q d), h)) : call p 530 [v, .fn f capt] h = some (.bool (xs.any q), h) := by
  obtain ⟨k, e, hk⟩ := indexD_eq hs f capt q hf
  refine go_eq (fn := g530) rfl rfl fun R hR => ?_
  have : decide (0 ≤ k) = xs.any q := by
    rw [Bool.eq_iff_iff]; simp [hk]
  simp [g530, e, this]
  exact hR
def okD (d : Dd) : Bool := decide (0 ≤ d.key ∧ d.key ≤ 9)
theorem isDeed_eq (d : Dd) (h : Heap) : call p 538 [dv d] h = some (.bool (okD d), h) := by
  refine go_eq (fn := g538) rfl rfl fun R hR => ?_
  simp [g538, fillL, upd, -Bool.decide_and]; exact hR
theorem l13Deed_eq (d : Dd) (h : Heap) : call p 533 [dv d] h = some (.bool (okD d), h) := by
  refine go_eq (fn := g533) rfl rfl fun R hR => ?_
  simp [g533, fillL, upd, -Bool.decide_and]; exact hR
theorem notDeed_eq (d : Dd) (h : Heap) : call p 531 [dv d] h = some (.bool !okD d, h) := by
  refine go_eq (fn := g531) rfl rfl fun R hR => ?_
  simp [g531, fillL, upd, isDeed_eq]; exact hR
/-- two deeds of one key, of which one writes -/
def clD (d e : Dd) : Bool := decide (d.key = e.key) && (d.wr || e.wr)
theorem clashing_eq (d e : Dd) (h : Heap) : call p 535 [dv d, dv e] h = some (.bool (clD d e), h) := by
  refine go_eq (fn := g535) rfl rfl fun R hR => ?_
  by_cases hk : d.key = e.key <;> cases hw : d.wr <;> simp [g535, fillL, upd, hk] <;> simpa [clD, hk, hw] using hR
theorem l13Clash_eq (d e : Dd) (h : Heap) : call p 537 [dv d, dv e] h = some (.bool (clD d e), h) := by
  refine go_eq (fn := g537) rfl rfl fun R hR => ?_
  by_cases hk : d.key = e.key <;> cases hw : d.wr <;> simp [g537, fillL, upd, hk] <;> simpa [clD, hk, hw] using hR

def rowB (n : Nat) (r : List Int) : Bool := decide (r.length = n) && onceB n r
def goodH (c : Hd) : Bool := manyB c.no && decide (c.deeds.length ≤ 8) && decide ((c.rows.length : Int) = c.no) && c.deeds.all okD && c.rows.all (rowB c.deeds.length)
theorem row2_ok {h : Heap} {b : Nat} {n : Nat} (hb : h[b]? = some ⟨.own, [vi n]⟩) (hn : n ≤ 8) {v : V} {xs : List Int} (hs : Sl h v xs) :
    ∃ h', call p 532 [v, .ptr b 0] h = some (.bool !rowB n xs, h') ∧ Keeps h h' ∧ h.length ≤ h'.length := by
  have r1 : rdH h b 0 1 = some [vi n] := by rw [rdH_at hb (by simp)]; rfl
  obtain ⟨x, h', e, hx, hk, hl⟩ : ∃ r h', call p 532 [v, .ptr b 0] h = some (r, h') ∧ r = .bool (!rowB n xs) ∧ Keeps h h' ∧ h.length ≤ h'.length := by
    refine go (fn := g532) rfl rfl fun R hR => ?_
    by_cases hl : xs.length = n
    · obtain ⟨_, h1, e1, rfl, k1, l1⟩ := areOnce_ok hs (by omega) (n : Int) (by omega)
      have hl2 : (xs.length : Int) = n := by omega
      simp [g532, hs.len, r1, e1, hl]
      exact hR _ _ ⟨by simp [rowB, hl], k1, l1⟩
    · have hl2 : ¬ (xs.length : Int) = n := by omega
      simp [g532, hs.len, r1, hl, hl2]
      exact hR _ _ ⟨by simp [rowB, hl], Keeps.refl _, Nat.le_refl _⟩
  exact ⟨h', by rw [e, hx], hk, hl⟩
theorem GoodHeard_ok {h : Heap} {v : V} {c : Hd} {F : List Nat} (hc : HdV h v c F) : ∃ r h', call p 464 [v] h = some (r, h') ∧ r = .bool (goodH c) ∧ Keeps h h' ∧ h.length ≤ h'.length := by
  obtain ⟨x, y, F1, F2, rfl, rfl, hx, hy⟩ := hc
  refine go (fn := g464) rfl rfl fun R hR => ?_
  have k0 : Keeps h (h ++ [⟨.own, [vi c.deeds.length]⟩]) := Keeps.append _ _
  have hb0 : (h ++ [⟨.own, [vi c.deeds.length]⟩])[h.length]? = some ⟨.own, [vi c.deeds.length]⟩ := get_last _ _
  have r0 : rdH (h ++ [⟨.own, [vi c.deeds.length]⟩]) h.length 0 1 = some [vi c.deeds.length] := by rw [rdH_at hb0 (by simp)]; rfl
  have w0 : wrH (h ++ [⟨.own, [vi 0]⟩]) h.length 0 [vi c.deeds.length] = some (h ++ [⟨.own, [vi c.deeds.length]⟩]) := wrH_last rfl
  have e1 := isMany_eq c.no (h ++ [⟨.own, [vi c.deeds.length]⟩])
  have e2 := containsD_eq (hx.keep k0).sl 531 [] (fun d => !okD d) notDeed_eq
  have ea : (c.deeds.any fun d => !okD d) = !(c.deeds.all okD) := by rw [List.not_all_eq_any_not]
  rw [ea] at e2
  have fin : goodH c = false → R (.bool false) (h ++ [⟨.own, [vi c.deeds.length]⟩]) := fun hg => hR _ _ ⟨by rw [hg], k0, by simp⟩
  cases hm : manyB c.no with
  | false =>
    rw [hm] at e1
    simp [g464, fillL, upd, hx.cells, hx.cell, hy.cells, hy.cell, hx.len, w0, e1]
    exact fin (by simp [goodH, hm])
  | true =>
    rw [hm] at e1
    by_cases h8 : c.deeds.length ≤ 8
    · have h8' : (c.deeds.length : Int) ≤ 8 := by omega
      by_cases hr : (c.rows.length : Int) = c.no
      · cases hd : c.deeds.all okD with
        | false =>
          rw [hd] at e2
          simp [g464, fillL, upd, hx.cells, hx.cell, hy.cells, hy.cell, hx.len, hy.len, w0, e1, r0, h8', hr, e2]
          exact fin (by simp [goodH, hd])
        | true =>
          rw [hd] at e2
          obtain ⟨_, h3, e3, rfl, k3, l3⟩ := containsLg_ok (hy.keep k0) (f := 532) (capt := [.ptr h.length 0]) (q := fun r => !rowB c.deeds.length r) fun h' hk z zs G _ hz => row2_ok (hk _ _ hb0 (by simp)) h8 hz.sl
          have eb : (c.rows.any fun r => !rowB c.deeds.length r) = !(c.rows.all (rowB c.deeds.length)) := by rw [List.not_all_eq_any_not]
          rw [eb] at e3
          have hg : goodH c = c.rows.all (rowB c.deeds.length) := by simp [goodH, hm, h8, hr, hd]
          rw [← hg] at e3
          generalize goodH c = gg at *
          simp [g464, fillL, upd, hx.cells, hx.cell, hy.cells, hy.cell, hx.len, hy.len, w0, e1, r0, h8', hr, e2, e3]
          exact hR _ _ ⟨rfl, k0.trans k3, by simp at l3; omega⟩
      · simp [g464, fillL, upd, hx.cells, hx.cell, hy.cells, hy.cell, hx.len, hy.len, w0, e1, r0, h8', hr]
        exact fin (by simp [goodH, hr])
    · have h8' : ¬ (c.deeds.length : Int) ≤ 8 := by omega
      simp [g464, fillL, upd, hx.cells, hx.cell, hy.cells, hy.cell, hx.len, hy.len, w0, e1, r0, h8']
      exact fin (by simp [goodH, h8])

theorem sub_len : ∀ {l m : List Int}, l.Nodup → (∀ x ∈ l, x ∈ m) → l.length ≤ m.length
  | [], m, _, _ => by simp
  | a :: l, m, hn, hs => by
    have h1 := List.nodup_cons.1 hn
    have ham := hs a (by simp)
    have := sub_len (l := l) (m := m.erase a) h1.2 fun x hx => (List.mem_erase_of_ne (fun e => h1.1 (by rw [← e]; exact hx))).2 (hs x (by simp [hx]))
    rw [List.length_erase_of_mem ham] at this
    have : 0 < m.length := List.length_pos_of_mem ham
    simp; omega
theorem twice : ∀ {r : List Int}, ¬ r.Nodup → ∃ a b x, r = a ++ x :: b ∧ x ∈ b
  | [], hd => absurd List.nodup_nil hd
  | y :: r, hd => by
    by_cases hy : y ∈ r
    · exact ⟨[], r, y, rfl, hy⟩
    · obtain ⟨a, b, x, e, hx⟩ := twice (r := r) fun h => hd (List.nodup_cons.2 ⟨hy, h⟩)
      exact ⟨y :: a, b, x, by rw [e]; rfl, hx⟩
theorem onceB_iff {n : Nat} {r : List Int} (hl : r.length = n) : onceB n r = decide ((∀ x ∈ r, 0 ≤ x ∧ x ≤ (n : Int) - 1) ∧ ∀ j : Nat, j < n → (j : Int) ∈ r) := by
  unfold onceB
  congr 1
  refine propext ⟨fun ⟨h1, h2⟩ => ⟨h1, fun j hj => ?_⟩, fun ⟨h1, h2⟩ => ⟨h1, ?_⟩⟩
  · refine Decidable.byContradiction fun hm => ?_
    have := nodup_len (n := n) (xs := (j : Int) :: r) (List.nodup_cons.2 ⟨hm, h2⟩) fun x hx => by
      rcases List.mem_cons.1 hx with rfl | hx
      · omega
      · have := h1 x hx; omega
    simp at this; omega
  · refine Decidable.byContradiction fun hd => ?_
    -- one of them stands twice: without it the rest still holds all
    have := twice hd
    obtain ⟨a, b, x, rfl, hx⟩ := this
    have hnd : ((List.range n).map fun (i : Nat) => (i : Int)).Nodup := (range_rising n).imp fun h => by omega
    have := sub_len hnd (m := a ++ b) fun y hy => by
      obtain ⟨j, hj, rfl⟩ := List.mem_map.1 hy
      have := h2 j (List.mem_range.1 hj)
      rcases List.mem_append.1 this with h | h
      · exact List.mem_append_left _ h
      · rcases List.mem_cons.1 h with e | h
        · rw [e]; exact List.mem_append_right _ hx
        · exact List.mem_append_right _ h
    simp at this hl; omega
end GL

namespace GL
open Go

theorem GoodHeardS_eq {h : Heap} {v : V} {c : Hd} {F : List Nat} (hc : HdV h v c F) : call p 465 [v] h = some (.bool (goodH c), h) := by
  obtain ⟨x, y, F1, F2, rfl, rfl, hx, hy⟩ := hc
  refine go_eq (fn := g465) rfl rfl fun R hR => ?_
  have bad : goodH c = false → R (.bool false) h := fun e => by rw [← e]; exact hR
  have hxs := hx.sl
  have w1 : IntKind.i64.wrap ((c.deeds.length : Int) - 1) = (c.deeds.length : Int) - 1 := by have := hx.bd; rw [IntWalk.i64_in] <;> omega
  have e1 := l11Places_eq c.no h
  cases hm : manyB c.no with
  | false =>
    rw [hm] at e1
    simp [g465, fillL, upd, hx.cells, hx.cell, hy.cells, hy.cell, hx.len, hy.len, e1]
    exact bad (by simp [goodH, hm])
  | true =>
    rw [hm] at e1
    by_cases h8 : c.deeds.length ≤ 8
    · have h8' : ¬ (8 : Int) < c.deeds.length := by omega
      by_cases hr : (c.rows.length : Int) = c.no
      · simp [g465, fillL, upd, hx.cells, hx.cell, hy.cells, hy.cell, hx.len, hy.len, e1, h8', hr]
        refine Wc_upM (M := [2, 5, 31, 32, 33, 34, 35, 36, 37, 38]) rfl c.deeds.length (fun i s => s.σ 31 = .v (vi i) ∧ s.h = h ∧ s.L 1 = (1, [vi c.no, x, y]) ∧ ∀ d ∈ c.deeds.take i, okD d = true) 0 (by simp [upd]) fun i s ⟨g31, gh, gL, hall⟩ hM J hJ => ?_
        by_cases hn : i < c.deeds.length
        · have ix := hxs.idx 2 .i64 i hn
          have ld := hxs.loadD i hn
          have e2 := l13Deed_eq c.deeds[i] h
          cases ho : okD c.deeds[i] with
          | false =>
            rw [ho] at e2
            simp [g465_0, hM, g31, gh, hn, ix, ld, upd, e2]
            have : (c.deeds.all okD) = false := List.all_eq_false.2 ⟨_, List.getElem_mem hn, by simp [ho]⟩
            exact bad (by simp [goodH, this])
          | true =>
            rw [ho] at e2
            simp [g465_0, hM, g31, gh, hn, ix, ld, upd, e2, hx.step hn]
            exact hJ _ hn ⟨by simp, rfl, by simp [upd, gL], (all_take_succ hn).2 ⟨hall, ho⟩⟩
        · rw [List.take_of_length_le (by omega)] at hall
          have hd : c.deeds.all okD = true := List.all_eq_true.2 hall
          simp [g465_0, hM, g31, gh, gL, hn, hy.len, upd]
          have hM1 := hM
          refine Wc_upM (M := [2, 7, 8, 42, 43, 44, 45, 46, 47, 48, 49, 50, 51, 52, 53, 54, 55, 56, 57, 58, 59, 60, 61, 62, 63, 64, 65, 66]) rfl c.rows.length (fun i s => s.σ 42 = .v (vi i) ∧ s.h = h ∧ ∀ r ∈ c.rows.take i, rowB c.deeds.length r = true) 0 (by simp) fun i s ⟨g42, gh, hall⟩ hM J2 hJ2 => ?_
          by_cases hi : i < c.rows.length
          · obtain ⟨z, F3, ez, hz, _⟩ := hy.loadL i hi
            have iy := hy.idx 1 .i64 i hi
            simp only [Nat.mul_one] at iy
            have badr : rowB c.deeds.length c.rows[i] = false → R (.bool false) h := fun e => by
              have : (c.rows.all (rowB c.deeds.length)) = false := List.all_eq_false.2 ⟨_, List.getElem_mem hi, by simp [e]⟩
              exact bad (by simp [goodH, this])
            by_cases hl : c.rows[i].length = c.deeds.length
            · have hl2 : (c.rows[i].length : Int) = c.deeds.length := by omega
              have e3 := l1All_eq hz.sl 0 ((c.deeds.length : Int) - 1)
              have hob := onceB_iff hl
              cases hall2 : (c.rows[i].all fun n => decide (0 ≤ n ∧ n ≤ (c.deeds.length : Int) - 1)) with
              | false =>
                rw [hall2] at e3
                simp [g465_2, hM, hM1, g42, gh, hi, iy, ez, hz.len, hl2, w1, e3]
                refine badr ?_
                simp only [rowB, hob, Bool.and_eq_false_iff, decide_eq_false_iff_not]
                refine .inr fun h2 => ?_
                have : (c.rows[i].all fun n => decide (0 ≤ n ∧ n ≤ (c.deeds.length : Int) - 1)) = true := List.all_eq_true.2 fun n hn => decide_eq_true (h2.1 n hn)
                rw [this] at hall2; cases hall2
              | true =>
                rw [hall2] at e3
                simp [g465_2, hM, hM1, g42, gh, hi, iy, ez, hz.len, hl2, w1, e3]
                have hM2 := hM
                refine Wc_upM (M := [2, 8, 57, 58, 59, 60, 61, 62, 63, 64, 65]) rfl c.deeds.length (fun j s => s.σ 8 = .v (vi j) ∧ s.h = h ∧ ∀ k : Nat, k < j → (k : Int) ∈ c.rows[i]) 0 (by simp) fun j s ⟨g8, gh, hall⟩ hM J3 hJ3 => ?_
                by_cases hj : j < c.deeds.length
                · have e4 := l1Has_eq hz.sl (j : Int)
                  by_cases hm2 : (j : Int) ∈ c.rows[i]
                  · rw [decide_eq_true hm2] at e4
                    simp [g465_1, hM, hM2, hM1, g8, gh, hj, e4, hx.step hj]
                    refine hJ3 _ hj ⟨by simp, rfl, fun k hk => ?_⟩
                    by_cases hkj : k = j
                    · subst hkj; exact hm2
                    · exact hall k (by omega)
                  · rw [decide_eq_false hm2] at e4
                    simp [g465_1, hM, hM2, hM1, g8, gh, hj, e4]
                    refine badr ?_
                    simp only [rowB, hob, Bool.and_eq_false_iff, decide_eq_false_iff_not]
                    exact .inr fun h2 => hm2 (h2.2 j hj)
                · simp [g465_1, hM, hM2, hM1, g8, g42, gh, hj, hy.step hi]
                  refine hJ2 _ hi ⟨by simp, rfl, (all_take_succ hi).2 ⟨‹_›, ?_⟩⟩
                  simp only [rowB, hob, hl, decide_true, Bool.true_and, decide_eq_true_eq]
                  exact ⟨fun n hn => by simpa using List.all_eq_true.1 hall2 n hn, fun k hk => hall k (by omega)⟩
            · have hl2 : ¬ (c.rows[i].length : Int) = c.deeds.length := by omega
              simp [g465_2, hM, hM1, g42, gh, hi, iy, ez, hz.len, hl2]
              exact badr (by simp [rowB, hl])
          · rw [List.take_of_length_le (by omega)] at hall
            have hrr : c.rows.all (rowB c.deeds.length) = true := List.all_eq_true.2 hall
            have hg : goodH c = true := by simp [goodH, hm, h8, hr, hd, hrr]
            rw [hg] at hR
            simp [g465_2, hM, hM1, g42, gh, hi]
            exact hR
      · simp [g465, fillL, upd, hx.cells, hx.cell, hy.cells, hy.cell, hx.len, hy.len, e1, h8', hr]
        exact bad (by simp [goodH, hr])
    · have h8' : (8 : Int) < c.deeds.length := by omega
      simp [g465, fillL, upd, hx.cells, hx.cell, hy.cells, hy.cell, hx.len, hy.len, e1, h8']
      exact bad (by simp [goodH, h8])
end GL

namespace GL
open Go

def dAt (c : Hd) (x : Int) : Dd := c.deeds.getD x.toNat zD
def clH (c : Hd) (x a : Int) : Bool := clD (dAt c x) (dAt c a)
/-- those that were heard ahead of a, and clash with it -/
def depsPre (c : Hd) (row : List Int) (a : Int) : List Int := (row.takeWhile fun x => !decide (x = a)).filter fun x => clH c x a
def rowAt (c : Hd) (r : Int) : List Int := c.rows.getD r.toNat []
def depsL (c : Hd) (r a : Int) : List Int := srtI (depsPre c (rowAt c r) a)
theorem takeW {row : List Int} {a : Int} {i : Nat} (hall : ∀ x ∈ row.take i, x ≠ a) (h : row.length ≤ i ∨ ∃ hi : i < row.length, row[i] = a) : (row.takeWhile fun x => !decide (x = a)) = row.take i := by
  induction row generalizing i with
  | nil => simp
  | cons y row ih =>
    cases i with
    | zero =>
      rcases h with h | ⟨_, h⟩
      · simp at h
      · simp at h; simp [h]
    | succ i =>
      have hy : y ≠ a := hall y (by simp)
      simp only [List.takeWhile_cons, List.take_succ_cons, decide_eq_false hy, Bool.not_false, if_true]
      rw [ih (i := i) (fun x hx => hall x (by simp [hx]))]
      rcases h with h | ⟨h1, h2⟩
      · simp at h; exact .inl h
      · exact .inr ⟨by simpa using h1, by simpa using h2⟩
theorem goodH_facts {c : Hd} (h : goodH c = true) : (3 ≤ c.no ∧ c.no ≤ 9) ∧ c.deeds.length ≤ 8 ∧ (c.rows.length : Int) = c.no ∧ (∀ r ∈ c.rows, r.length = c.deeds.length ∧ (∀ x ∈ r, 0 ≤ x ∧ x < (c.deeds.length : Int)) ∧ r.Nodup ∧ ∀ j : Nat, j < c.deeds.length → (j : Int) ∈ r) := by
  simp only [goodH, Bool.and_eq_true, decide_eq_true_eq, manyB] at h
  obtain ⟨⟨⟨⟨hm, h8⟩, hr⟩, hd⟩, hrr⟩ := h
  refine ⟨hm.1, h8, hr, fun r hr => ?_⟩
  have h1 := List.all_eq_true.1 hrr r hr
  simp only [rowB, Bool.and_eq_true, decide_eq_true_eq] at h1
  have h2 := h1.2
  rw [onceB_iff h1.1, decide_eq_true_eq] at h2
  have h3 := h1.2
  simp only [onceB, decide_eq_true_eq] at h3
  exact ⟨h1.1, fun x hx => ⟨(h2.1 x hx).1, by have := (h2.1 x hx).2; omega⟩, h3.2, h2.2⟩
theorem srtI_ext {xs ys : List Int} (hn : xs.Nodup) (hy : ys.Pairwise (· < ·)) (hm : ∀ x, x ∈ ys ↔ x ∈ xs) : ys = srtI xs := by
  have hp := srtI_perm xs
  exact rising_ext hy (sorted_nodup (srtI_le xs) (hp.nodup_iff.2 hn)) fun x => by rw [hm, hp.mem_iff]
theorem takeWhile_nodup {xs : List Int} (h : xs.Nodup) (q : Int → Bool) : (xs.takeWhile q).Nodup := List.Sublist.nodup (List.takeWhile_sublist q) h
theorem depsPre_nodup {c : Hd} {row : List Int} (h : row.Nodup) (a : Int) : (depsPre c row a).Nodup := List.Sublist.nodup List.filter_sublist (takeWhile_nodup h _)
theorem depsPre_len (c : Hd) (row : List Int) (a : Int) : (depsPre c row a).length ≤ row.length := Nat.le_trans (List.length_filter_le ..) ((List.takeWhile_sublist _).length_le)

/-- one step of the reading: the deeds at x and at a -/
theorem readD {h : Heap} {x : V} {c : Hd} (hx : Sl h x c.deeds) {k : Int} (hk : 0 ≤ k ∧ k < c.deeds.length) : idxV 2 x (vi k) = some (.ptr (bOf x) (oOf x + k.toNat * 2)) ∧ rdH h (bOf x) (oOf x + k.toNat * 2) 2 = some [vi (dAt c k).key, .bool (dAt c k).wr] := by
  obtain ⟨i, rfl⟩ : ∃ i : Nat, k = i := ⟨k.toNat, by omega⟩
  have hi : i < c.deeds.length := by omega
  have e1 := hx.idx 2 .i64 i hi
  have e2 := hx.loadD i hi
  simp only [dAt, Int.toNat_natCast, List.getD_eq_getElem?_getD, List.getElem?_eq_getElem hi, Option.getD_some]
  exact ⟨e1, e2⟩
theorem readL {h : Heap} {y : V} {ls : List (List Int)} {F : List Nat} (hy : SdF h y ls F) {k : Int} (hk : 0 ≤ k ∧ k < ls.length) : ∃ z G, idxV 1 y (vi k) = some (.ptr (bOf y) (oOf y + k.toNat)) ∧ rdH h (bOf y) (oOf y + k.toNat) 1 = some [z] ∧ SdF h z (ls.getD k.toNat []) G ∧ ∀ b ∈ G, b ∈ F := by
  obtain ⟨i, rfl⟩ : ∃ i : Nat, k = i := ⟨k.toNat, by omega⟩
  have hi : i < ls.length := by omega
  have e1 := hy.idx 1 .i64 i hi
  obtain ⟨z, G, e2, hz, hG⟩ := hy.loadL i hi
  simp only [Nat.mul_one] at e1
  simp only [Int.toNat_natCast, List.getD_eq_getElem?_getD, List.getElem?_eq_getElem hi, Option.getD_some]
  exact ⟨z, G, e1, e2, hz, hG⟩
theorem rows_get {c : Hd} (hg : goodH c = true) {r : Int} (hr : 0 ≤ r ∧ r ≤ c.no - 1) : 0 ≤ r ∧ r < (c.rows.length : Int) ∧ c.rows.getD r.toNat [] ∈ c.rows := by
  obtain ⟨_, _, h3, _⟩ := goodH_facts hg
  have hi : r.toNat < c.rows.length := by omega
  refine ⟨hr.1, by omega, ?_⟩
  rw [List.getD_eq_getElem?_getD, List.getElem?_eq_getElem hi]
  exact List.getElem_mem hi
theorem depsH_ok {h : Heap} {v : V} {c : Hd} {F : List Nat} (hc : HdV h v c F) (hg : goodH c = true) {r a : Int} (hr : 0 ≤ r ∧ r ≤ c.no - 1) (ha : 0 ≤ a ∧ a ≤ (c.deeds.length : Int) - 1) :
    ∃ w h', call p 519 [v, vi r, vi a] h = some (w, h') ∧ ∃ G, SdF h' w (depsL c r a) G ∧ Fresh h.length h' G ∧ Keeps h h' ∧ h.length ≤ h'.length := by
  obtain ⟨x, y, F1, F2, rfl, rfl, hx, hy⟩ := hc
  obtain ⟨r0, r1, hmem⟩ := rows_get hg hr
  obtain ⟨_, h8, _, hrows⟩ := goodH_facts hg
  obtain ⟨hlen, hin, hnd, hcov⟩ := hrows _ hmem
  obtain ⟨z, G0, ez1, ez2, hz, _⟩ := readL hy ⟨r0, r1⟩
  unfold depsL
  change SdF h z (rowAt c r) G0 at hz
  change rowAt c r ∈ c.rows at hmem
  change (rowAt c r).length = _ at hlen
  change ∀ x ∈ rowAt c r, _ at hin
  change (rowAt c r).Nodup at hnd
  generalize rowAt c r = row at *
  have k0 : Keeps h (h ++ [⟨.own, []⟩]) := Keeps.append _ _
  obtain ⟨a1, a2⟩ := readD (hx.keep k0).sl (k := a) (by omega)
  have hz0 := rdH_keep k0 ez2
  refine go (fn := g519) rfl rfl fun R hR => ?_
  have fin : ∀ (i : Nat) (w : V) (h1 : Heap), Out h.length h1 w ((row.take i).filter fun x => clH c x a) → (row.takeWhile fun x => !decide (x = a)) = row.take i → Keeps h h1 → h.length ≤ h1.length →
      ∃ h2, call p 340 [w] h1 = some (.tup [], h2) ∧ ∃ G, SdF h2 w (srtI (depsPre c row a)) G ∧ Fresh h.length h2 G ∧ Keeps h h2 ∧ h.length ≤ h2.length := fun i w h1 ho ht hk hl => by
    have he : ((row.take i).filter fun x => clH c x a) = depsPre c row a := by rw [depsPre, ht]
    rw [he] at ho
    obtain ⟨G, sG, fG⟩ := ho.fr
    obtain ⟨_, h2, e2, ys, rfl, s2, p2, o2, k2, l2, ow2⟩ := sortI_ok sG fG.own (Nat.le_trans (depsPre_len c row a) (by omega))
    have hys : ys = srtI (depsPre c row a) := srtI_ext (depsPre_nodup hnd a) (sorted_nodup o2 (p2.nodup_iff.2 (depsPre_nodup hnd a))) fun x => p2.mem_iff
    rw [hys] at s2
    exact ⟨h2, e2, G, s2, ⟨fG.nodup, fG.ge, fun b hb => ow2 b (fG.own b hb)⟩, Keeps.far (n := h.length) hk k2 (Nat.le_refl _) fun i hi hm => by have := fG.ge i hm; omega, by omega⟩
  simp [g519, fillL, upd, hx.cells, hx.cell, hy.cells, hy.cell, ez1, hz0, hz.len]
  refine Wc_upM (M := [7, 9, 17, 18, 19, 20, 21, 22, 23, 24, 25, 26, 27, 28, 29, 30, 31, 32, 33, 34, 35, 36, 37, 38, 39]) rfl row.length (fun i s => s.σ 17 = .v (vi i) ∧ s.L 3 = (1, [vi c.no, x, y]) ∧ (∃ w, s.σ 7 = .v w ∧ Out h.length s.h w ((row.take i).filter fun x => clH c x a)) ∧ (∀ x ∈ row.take i, x ≠ a) ∧ Keeps h s.h ∧ h.length ≤ s.h.length) 0
    ⟨by simp, by simp [upd], ⟨_, by simp; rfl, by simpa using Out.empty (Nat.le_refl _) (by simp)⟩, by simp, k0, by simp⟩ fun i s ⟨g17, gL, ⟨w, g7, ho⟩, hall, hk, hl⟩ hM J hJ => ?_
  by_cases hn : i < row.length
  · have hz' := hz.keep hk
    have ix := hz'.idx 1 .i64 i hn
    have ld := hz'.sl.loadI i hn
    simp only [Nat.mul_one] at ix
    have ht := List.take_succ_eq_append_getElem hn
    by_cases he : row[i] = a
    · obtain ⟨h2, e2, G, q1, q2, q3, q4⟩ := fin i w s.h ho (takeW hall (.inr ⟨hn, he⟩)) hk hl
      have ld2 : rdH s.h (bOf z) (oOf z + i) 1 = some [vi a] := by rw [ld, he]
      simp [g519_0, hM, g17, g7, hn, ix, ld2, upd, e2]
      exact hR _ _ ⟨G, q1, q2, q3, q4⟩
    · have hxi := hin _ (List.getElem_mem hn)
      obtain ⟨b1, b2⟩ := readD (hx.keep hk).sl hxi
      have a2' := rdH_keep hk (readD hx.sl (k := a) (by omega)).2
      have ec := clashing_eq (dAt c row[i]) (dAt c a) s.h
      have ht2 : (row.take (i + 1)).filter (fun x => clH c x a) = (row.take i).filter (fun x => clH c x a) ++ (if clH c row[i] a = true then [row[i]] else []) := by
        rw [ht, List.filter_append, List.filter_cons, List.filter_nil]
      have hall2 : ∀ x ∈ row.take (i + 1), x ≠ a := (all_take_succ hn).2 ⟨hall, he⟩
      have st := hz.step hn
      cases hcl : clH c row[i] a with
      | false =>
        have hcl' : clD (dAt c row[i]) (dAt c a) = false := hcl
        rw [hcl'] at ec
        rw [hcl] at ht2
        generalize row[i] = xi at *
        simp [g519_0, hM, g17, g7, gL, hn, ix, ld, upd, he, b1, b2, a1, a2', ec, st]
        refine hJ _ hn ⟨by simp, by simp [upd, gL], ⟨w, by simp [g7], by rw [ht2]; simpa using ho⟩, hall2, hk, hl⟩
      | true =>
        have hcl' : clD (dAt c row[i]) (dAt c a) = true := hcl
        rw [hcl'] at ec
        rw [hcl] at ht2
        have hle : ((row.take i).filter fun x => clH c x a).length ≤ 2 ^ 20 := Nat.le_trans (List.length_filter_le ..) (by simp; omega)
        obtain ⟨w6, h3, e5, o3, k3, l3⟩ := ho.one row[i] hle
        generalize row[i] = xi at *
        simp [g519_0, hM, g17, g7, gL, hn, ix, ld, upd, he, b1, b2, a1, a2', ec, rdS_last, e5, st]
        refine hJ _ hn ⟨by simp, by simp [upd, gL], ⟨w6, by simp, by rw [ht2]; simpa using o3⟩, hall2, ho.far hk k3 (Nat.le_refl _), by show h.length ≤ h3.length; omega⟩
  · obtain ⟨h2, e2, G, q1, q2, q3, q4⟩ := fin i w s.h ho (takeW hall (.inl (by omega))) hk hl
    simp [g519_0, hM, g17, g7, hn, e2]
    exact hR _ _ ⟨G, q1, q2, q3, q4⟩
end GL

namespace GL
open Go

theorem l13At_ok {h : Heap} {v : V} {c : Hd} {F : List Nat} (hc : HdV h v c F) (hg : goodH c = true) {r a : Int} (hr : 0 ≤ r ∧ r ≤ c.no - 1) (ha : 0 ≤ a ∧ a ≤ (c.deeds.length : Int) - 1) :
    ∃ w h', call p 516 [v, vi r, vi a] h = some (w, h') ∧ ∃ G, SdF h' w (depsL c r a) G ∧ (∀ b ∈ G, h.length ≤ b) ∧ Keeps h h' ∧ h.length ≤ h'.length := by
  obtain ⟨x, y, F1, F2, rfl, rfl, hx, hy⟩ := hc
  obtain ⟨r0, r1, hmem⟩ := rows_get hg hr
  obtain ⟨_, h8, _, hrows⟩ := goodH_facts hg
  obtain ⟨hlen, hin, hnd, hcov⟩ := hrows _ hmem
  obtain ⟨z, G0, ez1, ez2, hz, _⟩ := readL hy ⟨r0, r1⟩
  unfold depsL
  change SdF h z (rowAt c r) G0 at hz
  change rowAt c r ∈ c.rows at hmem
  change (rowAt c r).length = _ at hlen
  change ∀ x ∈ rowAt c r, _ at hin
  change (rowAt c r).Nodup at hnd
  generalize rowAt c r = row at *
  obtain ⟨a1, a2⟩ := readD hx.sl (k := a) (by omega)
  refine go (fn := g516) rfl rfl fun R hR => ?_
  have fin : ∀ (i : Nat) (w : V) (h1 : Heap) (ys : List Int) (G : List Nat), SdF h1 w ys G → ys.Pairwise (· < ·) → (∀ b ∈ G, h.length ≤ b) → (∀ x, x ∈ ys ↔ x ∈ (row.take i).filter fun x => clH c x a) → (row.takeWhile fun x => !decide (x = a)) = row.take i → Keeps h h1 → h.length ≤ h1.length → R w h1 := fun i w h1 ys G hs hp hG hm ht hk hl => by
    have he : ((row.take i).filter fun x => clH c x a) = depsPre c row a := by rw [depsPre, ht]
    rw [he] at hm
    rw [srtI_ext (depsPre_nodup hnd a) hp hm] at hs
    exact hR _ _ ⟨G, hs, hG, hk, hl⟩
  simp [g516, fillL, upd, hx.cells, hx.cell, hy.cells, hy.cell, ez1, ez2, hz.len]
  refine Wc_upM (M := [7, 9, 16, 17, 18, 19, 20, 21, 22, 23, 24, 25, 26, 27, 28, 29, 30, 31, 32, 33, 34, 35, 36, 37]) rfl row.length (fun i s => s.σ 16 = .v (vi i) ∧ s.L 3 = (1, [vi c.no, x, y]) ∧ (∃ w ys G, s.σ 7 = .v w ∧ SdF s.h w ys G ∧ ys.Pairwise (· < ·) ∧ (∀ b ∈ G, h.length ≤ b) ∧ ys.length ≤ i ∧ ∀ x, x ∈ ys ↔ x ∈ (row.take i).filter fun x => clH c x a) ∧ (∀ x ∈ row.take i, x ≠ a) ∧ Keeps h s.h ∧ h.length ≤ s.h.length) 0
    ⟨by simp, by simp [upd], ⟨.nils, [], [], by simp, .nil, by simp, by simp, by simp, by simp⟩, by simp, Keeps.refl _, by simp⟩ fun i s ⟨g16, gL, ⟨w, ys, G, g7, hs, hp, hG, hyl, hm⟩, hall, hk, hl⟩ hM J hJ => ?_
  by_cases hn : i < row.length
  · have hz' := hz.keep hk
    have ix := hz'.idx 1 .i64 i hn
    have ld := hz'.sl.loadI i hn
    simp only [Nat.mul_one] at ix
    have ht := List.take_succ_eq_append_getElem hn
    by_cases he : row[i] = a
    · have f := fin i w s.h ys G hs hp hG hm (takeW hall (.inr ⟨hn, he⟩)) hk hl
      have ld2 : rdH s.h (bOf z) (oOf z + i) 1 = some [vi a] := by rw [ld, he]
      simp [g516_0, hM, g16, g7, hn, ix, ld2, upd]
      exact f
    · have hxi := hin _ (List.getElem_mem hn)
      obtain ⟨b1, b2⟩ := readD (hx.keep hk).sl hxi
      have a2' := rdH_keep hk a2
      have ec := l13Clash_eq (dAt c row[i]) (dAt c a) s.h
      have ht2 : (row.take (i + 1)).filter (fun x => clH c x a) = (row.take i).filter (fun x => clH c x a) ++ (if clH c row[i] a = true then [row[i]] else []) := by
        rw [ht, List.filter_append, List.filter_cons, List.filter_nil]
      have hall2 : ∀ x ∈ row.take (i + 1), x ≠ a := (all_take_succ hn).2 ⟨hall, he⟩
      have st := hz.step hn
      cases hcl : clH c row[i] a with
      | false =>
        have hcl' : clD (dAt c row[i]) (dAt c a) = false := hcl
        rw [hcl'] at ec
        rw [hcl] at ht2
        generalize row[i] = xi at *
        simp [g516_0, hM, g16, g7, gL, hn, ix, ld, upd, he, b1, b2, a1, a2', ec, st]
        refine hJ _ hn ⟨by simp, by simp [upd, gL], ⟨w, ys, G, by simp [g7], hs, hp, hG, by omega, fun x => by rw [ht2, hm]; simp⟩, hall2, hk, hl⟩
      | true =>
        have hcl' : clD (dAt c row[i]) (dAt c a) = true := hcl
        rw [hcl'] at ec
        rw [hcl] at ht2
        obtain ⟨w6, h3, e5, zs, G6, s6, r6, m6, zl, hG6, k3, l3⟩ := l1Put_ok hs hp (by omega) row[i]
        generalize row[i] = xi at *
        simp [g516_0, hM, g16, g7, gL, hn, ix, ld, upd, he, b1, b2, a1, a2', ec, e5, st]
        refine hJ _ hn ⟨by simp, by simp [upd, gL], ⟨w6, zs, G6, by simp, s6, r6, fun b hb => ?_, by omega, fun x => by rw [ht2, m6, hm]; simp⟩, hall2, hk.trans k3, by show h.length ≤ h3.length; omega⟩
        rcases hG6 b hb with h | h
        · exact hG b h
        · omega
  · have f := fin i w s.h ys G hs hp hG hm (takeW hall (.inl (by omega))) hk hl
    simp [g516_0, hM, g16, g7, hn]
    exact f
/-! frames -/
theorem szHeard_eq {h : Heap} {v : V} {c : Hd} {F : List Nat} (hc : HdV h v c F) {l0 : Int} (h0 : 0 ≤ l0 ∧ l0 ≤ 2 ^ 20) : ∃ r : Int, call p 439 [v, vi l0] h = some (vi r, h) ∧ (r < 0 ∨ (0 ≤ r ∧ c.deeds.length + (c.rows.length + numN c.rows) + r = l0)) := by
  obtain ⟨x, y, F1, F2, rfl, rfl, hx, hy⟩ := hc
  have e1 := szDeedS_eq hx.sl h0
  by_cases h1 : l0 < c.deeds.length
  · rw [if_pos h1] at e1
    refine ⟨-1, go_eq (fn := g439) rfl rfl fun R hR => ?_, .inl (by decide)⟩
    simp [g439, fillL, upd, hx.cells, hx.cell, hy.cells, hy.cell, e1]; exact hR
  · rw [if_neg h1] at e1
    have n1 : ¬ l0 - (c.deeds.length : Int) < 0 := by omega
    obtain ⟨r, e2, hr⟩ := szIntSS_eq hy (l0 := l0 - c.deeds.length) (by omega)
    by_cases hr0 : r < 0
    · refine ⟨-1, go_eq (fn := g439) rfl rfl fun R hR => ?_, .inl (by decide)⟩
      simp [g439, fillL, upd, hx.cells, hx.cell, hy.cells, hy.cell, e1, n1, e2, hr0]; exact hR
    · refine ⟨r, go_eq (fn := g439) rfl rfl fun R hR => ?_, .inr ?_⟩
      · simp [g439, fillL, upd, hx.cells, hx.cell, hy.cells, hy.cell, e1, n1, e2, hr0]; exact hR
      · rcases hr with h | h
        · exact absurd h hr0
        · omega
/-- small enough -/
def smH (c : Hd) : Prop := c.deeds.length ≤ 2 ^ 20 ∧ c.rows.length + numN c.rows ≤ 2 ^ 20
theorem toHeard_ok {h : Heap} {v : V} {c : Hd} {F : List Nat} (hc : HdV h v c F) (hsm : smH c) : ∃ r h', call p 440 [v] h = some (r, h') ∧ ∃ G, HdV h' r c G ∧ Fresh h.length h' G ∧ Keeps h h' ∧ h.length ≤ h'.length := by
  obtain ⟨x, y, F1, F2, rfl, rfl, hx, hy⟩ := hc
  obtain ⟨a, h1, e1, G1, s1, f1, k1, l1⟩ := toDeedS_ok hx.sl hsm.1
  obtain ⟨b, h2, e2, G2, s2, f2, k2, l2⟩ := toIntSS_ok (hy.keep k1) (by have := hsm.2; omega) fun r hr => by have := numN_mem hr; have := hsm.2; omega
  refine go (fn := g440) rfl rfl fun R hR => ?_
  simp [g440, fillL, upd, hx.cells, hx.cell, hy.cells, hy.cell, e1, e2, resV, mkV, s1.cells, s1.cell, s2.cells, s2.cell]
  exact hR _ _ ⟨G1 ++ G2, ⟨a, b, G1, G2, rfl, rfl, s1.keep k2, s2⟩, f1.app f2 k2 l1, k1.trans k2, by omega⟩
theorem eqHeard_same {h : Heap} {v w : V} {c : Hd} {F G : List Nat} (hc : HdV h v c F) (hd : HdV h w c G) : call p 443 [v, w] h = some (.bool true, h) := by
  obtain ⟨x, y, F1, F2, rfl, rfl, hx, hy⟩ := hc
  obtain ⟨a, b, G1, G2, rfl, rfl, ga, gb⟩ := hd
  have e1 := eqDeedS_same hx.sl ga.sl
  have e2 := eqIntSS_same hy gb
  refine go_eq (fn := g443) rfl rfl fun R hR => ?_
  simp [g443, fillL, upd, hx.cells, hx.cell, hy.cells, hy.cell, ga.cells, ga.cell, gb.cells, gb.cell, e1, e2]; exact hR
theorem markHeard_ok {h : Heap} {v : V} {c : Hd} {F : List Nat} {lo : Nat} (hc : HdV h v c F) (fr : Fresh lo h F) (hsm : smH c) : ∃ r h', call p 444 [v, vi 1] h = some (r, h') ∧ r = vi (1 + 2 * c.deeds.length + numN c.rows) ∧ KeepsP (fun b => b ∉ F) h h' ∧ h'.length = h.length := by
  obtain ⟨x, y, F1, F2, rfl, rfl, hx, hy⟩ := hc
  have hnd := List.nodup_append.1 fr.nodup
  obtain ⟨_, h1, e1, rfl, _, k1, l1, o1⟩ := markDeedS_ok hx (fun b hb => fr.own b (List.mem_append_left _ hb)) (k := 1) (by decide) (by have := hsm.1; omega)
  have hy' := hy.keeps (k1.mono fun b hb hb2 => hnd.2.2 b hb2 b hb rfl)
  obtain ⟨_, h2, e2, rfl, _, k2, l2, _⟩ := markIntSS_ok (lo := lo) hy' ⟨hnd.2.1, fun b hb => fr.ge b (List.mem_append_right _ hb), fun b hb => o1 b (fr.own b (List.mem_append_right _ hb))⟩ (k := 1 + 2 * c.deeds.length) (by have := hsm.1; omega) hsm.2
  refine go (fn := g444) rfl rfl fun R hR => ?_
  simp [g444, fillL, upd, hx.cells, hx.cell, hy.cells, hy.cell, e1, e2]
  exact hR _ _ ⟨rfl, (k1.mono fun b hb hb2 => hb (List.mem_append_left _ hb2)).trans (k2.mono fun b hb hb2 => hb (List.mem_append_right _ hb2)), by omega⟩
end GL

namespace GL
open Go

def Dd.of (p : Int × Bool) : Dd := ⟨p.1, p.2⟩
theorem Dd.of_rep (h : Heap) (p : Int × Bool) (cs : List V) (F : List Nat) (hr : Data.rep h p cs F) : Data.rep h (Dd.of p) cs F := by
  obtain ⟨c, d, F1, F2, rfl, rfl, ⟨rfl, rfl⟩, rfl, rfl⟩ := hr
  exact ⟨rfl, rfl⟩
def Hd.of (p : Int × List Dd × List (List Int)) : Hd := ⟨p.1, p.2.1, p.2.2⟩
theorem Hd.of_rep (h : Heap) (p : Int × List Dd × List (List Int)) (cs : List V) (F : List Nat) (hr : Data.rep h p cs F) : Data.rep h (Hd.of p) cs F := by
  obtain ⟨c, d, F1, F2, rfl, rfl, ⟨rfl, rfl⟩, e, f, G1, G2, rfl, rfl, ⟨x, rfl, hx⟩, ⟨y, rfl, hy⟩⟩ := hr
  exact ⟨x, y, G1, G2, rfl, by simp, hx, hy⟩
end GL

namespace GL
open Go

theorem l13Group_eq {h : Heap} {v w : V} {c : Hd} {F : List Nat} (hc : HdV h v c F) (hg : goodH c = true) {ps : List Int} (hp : Sl h w ps) : call GL.p 522 [v, w] h = some (.bool (risB 0 (c.no - 1) ps && decide (c.no.toNat / 2 + 1 ≤ ps.length)), h) := by
  obtain ⟨x, y, F1, F2, rfl, rfl, hx, hy⟩ := hc
  obtain ⟨hno, h8, _, _⟩ := goodH_facts hg
  have w1 : IntKind.i64.wrap (c.no - 1) = c.no - 1 := by rw [IntWalk.i64_in] <;> omega
  obtain ⟨n, hn⟩ : ∃ n : Nat, c.no = n := ⟨c.no.toNat, by omega⟩
  have e1 := l1Rising_eq hp 0 (c.no - 1)
  have e2 := l11Slow_eq n (by omega) h
  rw [← hn] at e2
  have hnn : c.no.toNat = n := by omega
  rw [hnn]
  refine go_eq (fn := g522) rfl rfl fun R hR => ?_
  cases hr : risB 0 (c.no - 1) ps with
  | false => rw [hr] at e1 hR; simp [g522, fillL, upd, hx.cells, hx.cell, hy.cells, hy.cell, w1, e1]; simpa using hR
  | true =>
    rw [hr] at e1 hR
    have : decide (((n / 2 + 1 : Nat) : Int) ≤ ps.length) = decide (n / 2 + 1 ≤ ps.length) := by congr 1; refine propext ⟨fun h => by omega, fun h => by omega⟩
    simp [g522, fillL, upd, hx.cells, hx.cell, hy.cells, hy.cell, w1, e1, e2, hp.len, this, -Int.natCast_add, -Int.natCast_ediv]; simpa using hR
end GL

namespace GL
open Go

end GL

namespace GL
open Go

noncomputable def ofL (c : Hd) (a : Int) (ps : List Int) : List Int := ((List.range c.deeds.length).map fun (i : Nat) => (i : Int)).filter fun x => ps.any fun p => decide (x ∈ depsL c p a)
theorem ofL_rising (c : Hd) (a : Int) (ps : List Int) : (ofL c a ps).Pairwise (· < ·) := List.Pairwise.filter _ (range_rising _)
theorem ofL_len (c : Hd) (a : Int) (ps : List Int) : (ofL c a ps).length ≤ c.deeds.length := Nat.le_trans (List.length_filter_le ..) (by simp)
theorem depsL_in {c : Hd} (hg : goodH c = true) {p a : Int} (hp : 0 ≤ p ∧ p ≤ c.no - 1) {x : Int} (hx : x ∈ depsL c p a) : 0 ≤ x ∧ x < c.deeds.length := by
  obtain ⟨_, _, _, hrows⟩ := goodH_facts hg
  obtain ⟨_, hin, _, _⟩ := hrows _ (rows_get hg hp).2.2
  have := (srtI_perm (depsPre c (rowAt c p) a)).mem_iff.1 hx
  exact hin x ((List.takeWhile_sublist _).mem (List.mem_filter.1 this).1)
theorem depsL_len {c : Hd} (hg : goodH c = true) {p a : Int} (hp : 0 ≤ p ∧ p ≤ c.no - 1) : (depsL c p a).length ≤ 8 := by
  obtain ⟨_, h8, _, hrows⟩ := goodH_facts hg
  have h1 := (hrows _ (rows_get hg hp).2.2).1
  rw [depsL, srtI_length]
  have := depsPre_len c (rowAt c p) a
  have : (rowAt c p).length = c.deeds.length := h1
  omega
theorem mem_ofL {c : Hd} (hg : goodH c = true) {a : Int} {ps : List Int} (hin : ∀ p ∈ ps, 0 ≤ p ∧ p ≤ c.no - 1) {x : Int} : x ∈ ofL c a ps ↔ ∃ p ∈ ps, x ∈ depsL c p a := by
  simp only [ofL, List.mem_filter, List.any_eq_true, decide_eq_true_eq]
  constructor
  · exact fun h => h.2
  · rintro ⟨p, hp, hx⟩
    have := depsL_in hg (hin p hp) hx
    exact ⟨List.mem_map.2 ⟨x.toNat, List.mem_range.2 (by omega), by omega⟩, p, hp, hx⟩
theorem ofL_ext {c : Hd} (hg : goodH c = true) {a : Int} {ps : List Int} (hin : ∀ p ∈ ps, 0 ≤ p ∧ p ≤ c.no - 1) {ys : List Int} (hy : ys.Pairwise (· < ·)) (hm : ∀ x, x ∈ ys ↔ ∃ p ∈ ps, x ∈ depsL c p a) : ys = ofL c a ps :=
  rising_ext hy (ofL_rising _ _ _) fun x => by rw [hm, mem_ofL hg hin]
def groupQ (c : Hd) (ps : List Int) : Bool := risB 0 (c.no - 1) ps && decide (c.no.toNat / 2 + 1 ≤ ps.length)
theorem ofL_zero (c : Hd) (a : Int) (ps : List Int) : ofL c a (ps.take 0) = [] := by simp [ofL]
theorem isGroupH_eq {h : Heap} {v w : V} {c : Hd} {F : List Nat} (hc : HdV h v c F) (hg : goodH c = true) {ps : List Int} (hp : Sl h w ps) : call p 525 [v, w] h = some (.bool (groupQ c ps), h) := by
  obtain ⟨x, y, F1, F2, rfl, rfl, hx, hy⟩ := hc
  obtain ⟨hno, h8, _, _⟩ := goodH_facts hg
  have hm : manyB c.no = true := by simp only [goodH, Bool.and_eq_true] at hg; exact hg.1.1.1.1
  obtain ⟨n, hn⟩ : ∃ n : Nat, c.no = n := ⟨c.no.toNat, by omega⟩
  have e1 := arePlaces_eq hp c.no
  rw [hm, Bool.true_and] at e1
  have e2 := slow_eq n (by omega) h
  rw [← hn] at e2
  have hnn : c.no.toNat = n := by omega
  unfold groupQ
  rw [hnn]
  refine go_eq (fn := g525) rfl rfl fun R hR => ?_
  cases hr : risB 0 (c.no - 1) ps with
  | false => rw [hr] at e1 hR; simp [g525, fillL, upd, hx.cells, hx.cell, hy.cells, hy.cell, e1]; simpa using hR
  | true =>
    rw [hr] at e1 hR
    have : decide (((n / 2 + 1 : Nat) : Int) ≤ ps.length) = decide (n / 2 + 1 ≤ ps.length) := by congr 1; refine propext ⟨fun h => by omega, fun h => by omega⟩
    simp [g525, fillL, upd, hx.cells, hx.cell, hy.cells, hy.cell, e1, e2, hp.len, this, -Int.natCast_add, -Int.natCast_ediv]; simpa using hR
theorem allOf_ok {h : Heap} {v w : V} {c : Hd} {F : List Nat} (hc : HdV h v c F) (hg : goodH c = true) {a : Int} (ha : 0 ≤ a ∧ a ≤ (c.deeds.length : Int) - 1) {ps : List Int} (hp : Sl h w ps) (hin : ∀ p ∈ ps, 0 ≤ p ∧ p ≤ c.no - 1) :
    ∃ r h', call p 526 [v, vi a, w] h = some (r, h') ∧ ∃ G, SdF h' r (ofL c a ps) G ∧ Fresh h.length h' G ∧ Keeps h h' ∧ h.length ≤ h'.length := by
  have hcc := hc
  obtain ⟨_, h8, _, _⟩ := goodH_facts hg
  obtain ⟨x, y, F1, F2, rfl, rfl, hx, hy⟩ := hc
  refine go (fn := g526) rfl rfl fun R hR => ?_
  simp [g526, fillL, upd, hx.cells, hx.cell, hy.cells, hy.cell, hp.len]
  refine Wc_upM (M := [7, 9, 13, 14, 15, 16, 17, 18, 19, 20, 21, 22, 23]) rfl ps.length (fun i s => s.σ 13 = .v (vi i) ∧ s.L 3 = (1, [vi c.no, x, y]) ∧ (∃ u G, s.σ 7 = .v u ∧ SdF s.h u (ofL c a (ps.take i)) G ∧ Fresh h.length s.h G) ∧ Keeps h s.h ∧ h.length ≤ s.h.length) 0
    ⟨by simp, by simp [upd], ?_, Keeps.append _ _, by simp⟩ fun i s ⟨g13, gL, ⟨u, G, g7, su, fu⟩, hk, hl⟩ hM J hJ => ?_
  · obtain ⟨G, sG, fG⟩ := (Out.empty (α := Int) (h := h ++ [⟨.own, []⟩]) (lo := h.length) (b := h.length) (Nat.le_refl _) (by simp)).fr
    exact ⟨_, G, by simp; rfl, by rw [ofL_zero]; exact sG, fG⟩
  · by_cases hi : i < ps.length
    · have hp' := hp.keeps hk
      have ix := hp.idx 1 .i64 i hi
      simp only [Nat.mul_one] at ix
      have ld := hp'.loadI i hi
      have hpi := hin _ (List.getElem_mem hi)
      have hti : ∀ p ∈ ps.take i, 0 ≤ p ∧ p ≤ c.no - 1 := fun p hp => hin p (List.mem_of_mem_take hp)
      have hti1 : ∀ p ∈ ps.take (i + 1), 0 ≤ p ∧ p ≤ c.no - 1 := fun p hp => hin p (List.mem_of_mem_take hp)
      obtain ⟨w1, h4, e4, G4, s4, f4, k4, l4⟩ := depsH_ok (hcc.keep hk) hg hpi ha
      have hlo := ofL_len c a (ps.take i)
      have hld := depsL_len (a := a) hg hpi
      obtain ⟨w2, h5, e5, ys, G5, s5, f5, r5, m5, k5, l5⟩ := together_ok (su.keep k4) s4 (by omega)
      have hys : ys = ofL c a (ps.take (i + 1)) := ofL_ext hg hti1 r5 fun x => by
        rw [m5, mem_ofL hg hti]
        constructor
        · rintro (⟨p, hp, hx⟩ | hx)
          · exact ⟨p, (mem_take_succ hi).2 (.inl hp), hx⟩
          · exact ⟨_, (mem_take_succ hi).2 (.inr rfl), hx⟩
        · rintro ⟨p, hp, hx⟩
          rcases (mem_take_succ hi).1 hp with h | rfl
          · exact .inl ⟨p, h, hx⟩
          · exact .inr hx
      rw [hys] at s5
      simp [g526_0, hM, g13, g7, gL, hi, ix, ld, e4, e5, hp.step hi]
      exact hJ _ hi ⟨by simp, by simp [gL], ⟨w2, G5, by simp, s5, f5.mono (by omega)⟩, (hk.trans k4).trans k5, by show h.length ≤ h5.length; omega⟩
    · rw [List.take_of_length_le (by omega)] at su
      simp [g526_0, hM, g13, g7, hi]
      exact hR _ _ ⟨G, su, fu, hk, hl⟩
theorem l13Of_ok {h : Heap} {v w : V} {c : Hd} {F : List Nat} (hc : HdV h v c F) (hg : goodH c = true) {a : Int} (ha : 0 ≤ a ∧ a ≤ (c.deeds.length : Int) - 1) {ps : List Int} (hp : Sl h w ps) (hin : ∀ p ∈ ps, 0 ≤ p ∧ p ≤ c.no - 1) :
    ∃ r h', call p 527 [v, vi a, w] h = some (r, h') ∧ ∃ G, SdF h' r (ofL c a ps) G ∧ (∀ b ∈ G, h.length ≤ b) ∧ Keeps h h' ∧ h.length ≤ h'.length := by
  have hcc := hc
  obtain ⟨_, h8, _, _⟩ := goodH_facts hg
  obtain ⟨x, y, F1, F2, rfl, rfl, hx, hy⟩ := hc
  refine go (fn := g527) rfl rfl fun R hR => ?_
  simp [g527, fillL, upd, hx.cells, hx.cell, hy.cells, hy.cell, hp.len]
  refine Wc_upM (M := [7, 9, 11, 14, 15, 16, 17, 18, 19, 20, 21, 22, 23, 24, 25, 26, 27, 28, 29, 30, 31]) rfl ps.length (fun i s => s.σ 14 = .v (vi i) ∧ s.L 3 = (1, [vi c.no, x, y]) ∧ (∃ u G, s.σ 7 = .v u ∧ SdF s.h u (ofL c a (ps.take i)) G ∧ ∀ b ∈ G, h.length ≤ b) ∧ Keeps h s.h ∧ h.length ≤ s.h.length) 0
    ⟨by simp, by simp [upd], ⟨.nils, [], by simp, by rw [ofL_zero]; exact (SdF.nil : SdF h .nils ([] : List Int) []), by simp⟩, Keeps.refl _, by simp⟩ fun i s ⟨g14, gL, ⟨u, G, g7, su, fu⟩, hk, hl⟩ hM J hJ => ?_
  by_cases hi : i < ps.length
  · have hp' := hp.keeps hk
    have ix := hp.idx 1 .i64 i hi
    simp only [Nat.mul_one] at ix
    have ld := hp'.loadI i hi
    have hpi := hin _ (List.getElem_mem hi)
    have hti : ∀ p ∈ ps.take i, 0 ≤ p ∧ p ≤ c.no - 1 := fun p hp => hin p (List.mem_of_mem_take hp)
    have hti1 : ∀ p ∈ ps.take (i + 1), 0 ≤ p ∧ p ≤ c.no - 1 := fun p hp => hin p (List.mem_of_mem_take hp)
    obtain ⟨w1, h4, e4, G4, s4, f4, k4, l4⟩ := l13At_ok (hcc.keep hk) hg hpi ha
    have hlo := ofL_len c a (ps.take i)
    have hld := depsL_len (a := a) hg hpi
    have hsu4 := su.keep k4
    simp [g527_1, hM, g14, g7, gL, hi, ix, ld, e4, s4.len]
    have hM1 := hM
    refine Wc_upM (M := [7, 11, 23, 24, 25, 26, 27, 28, 29, 30]) rfl (depsL c ps[i] a).length (fun j q => q.σ 23 = .v (vi j) ∧ q.L 3 = (1, [vi c.no, x, y]) ∧ (∃ u ys G, q.σ 7 = .v u ∧ SdF q.h u ys G ∧ (∀ b ∈ G, h.length ≤ b) ∧ ys.Pairwise (· < ·) ∧ ys.length ≤ 8 + j ∧ ∀ z, z ∈ ys ↔ z ∈ ofL c a (ps.take i) ∨ z ∈ (depsL c ps[i] a).take j) ∧ Keeps h4 q.h ∧ h4.length ≤ q.h.length) 0
      ⟨by simp, by simp [gL], ⟨u, ofL c a (ps.take i), G, by simp [g7], hsu4, fu, ofL_rising _ _ _, by omega, by simp⟩, Keeps.refl _, Nat.le_refl _⟩ fun j q ⟨g23, gL', ⟨u', ys, G', g7', su', fu', r', yl', m'⟩, hk', hl'⟩ hM J2 hJ2 => ?_
    by_cases hj : j < (depsL c ps[i] a).length
    · have s4' := s4.keep hk'
      have ij := s4.idx 1 .i64 j hj
      simp only [Nat.mul_one] at ij
      have lj := s4'.sl.loadI j hj
      obtain ⟨w6, h6, e6, zs, G6, s6, r6, m6, zl, hG6, k6, l6⟩ := l1Put_ok su' r' (by omega) (depsL c ps[i] a)[j]
      have st := s4.step hj
      have hmt : ∀ z, z ∈ (depsL c ps[i] a).take (j + 1) ↔ z ∈ (depsL c ps[i] a).take j ∨ z = (depsL c ps[i] a)[j] := fun z => mem_take_succ hj
      generalize (depsL c ps[i] a)[j] = dj at *
      simp [g527_0, hM, hM1, g23, g7', hj, ij, lj, e6, st]
      refine hJ2 _ hj ⟨by simp, by simp [gL'], ⟨w6, zs, G6, by simp, s6, fun b hb => ?_, r6, by omega, fun z => by rw [m6, m', hmt, or_assoc]⟩, hk'.trans k6, by show h4.length ≤ h6.length; omega⟩
      rcases hG6 b hb with h | h
      · exact fu' b h
      · omega
    · rw [List.take_of_length_le (l := depsL c ps[i] a) (by omega)] at m'
      have hys : ys = ofL c a (ps.take (i + 1)) := ofL_ext hg hti1 r' fun x => by
        rw [m', mem_ofL hg hti]
        constructor
        · rintro (⟨p, hp, hx⟩ | hx)
          · exact ⟨p, (mem_take_succ hi).2 (.inl hp), hx⟩
          · exact ⟨_, (mem_take_succ hi).2 (.inr rfl), hx⟩
        · rintro ⟨p, hp, hx⟩
          rcases (mem_take_succ hi).1 hp with h | rfl
          · exact .inl ⟨p, h, hx⟩
          · exact .inr hx
      rw [hys] at su'
      simp [g527_0, hM, hM1, g23, g14, g7', hj, hp.step hi]
      exact hJ _ hi ⟨by simp, by simp [gL'], ⟨u', G', by simp [g7'], su', fu'⟩, (hk.trans k4).trans hk', by show h.length ≤ q.h.length; omega⟩
  · rw [List.take_of_length_le (by omega)] at su
    simp [g527_1, hM, g14, g7, hi]
    exact hR _ _ ⟨G, su, fu, hk, hl⟩
end GL

namespace GL
open Go

end GL

namespace GL
open Go

theorem Od.one {α : Type} [Data α] {lo : Nat} {h h1 : Heap} {v : V} {xs : List α} {G G' : List Nat} (od : Od lo h v xs G) (k1 : Keeps h h1) (l1 : h.length ≤ h1.length) (hG : ∀ b ∈ G', h.length ≤ b) {x : α} {cs : List V} (hr : Data.rep h1 x cs G') (hx : xs.length ≤ 2 ^ 20) {k bytes : Nat} (hk : k = Data.sz α) (hb : bytes ≤ 2 ^ 8) :
    ∃ v' h2, appH k bytes v 1 cs (h1 ++ [⟨.own, cs⟩]) = some (v', h2) ∧ Od lo h2 v' (xs ++ [x]) (G ++ G') ∧ (∀ h0 : Heap, Keeps h0 h → h0.length ≤ lo → Keeps h0 h2) ∧ h1.length < h2.length := by
  have hge := fun i (hi : vB v i) => od.ge hi
  have kl : Keeps h1 (h1 ++ [⟨.own, cs⟩]) := Keeps.append h1 _
  have od1 : Od lo (h1 ++ [⟨.own, cs⟩]) v xs G := od.keeps ((k1.trans kl).p fun _ => True) (fun _ _ => trivial) (fun _ _ => trivial) (by simp; omega)
  have hnv : ∀ b ∈ G', ¬ vB v b := fun b hb hv => by have := (hge b hv).2; have := hG b hb; omega
  obtain ⟨v', h2, e, o2, kp, l2, b2⟩ := od1.app (zs := [x]) (G := G') (by simp) (.one (Data.keeps hr (kl.p _))) hnv hb (by simp; omega) hk rfl
  have k2 : KeepsP (fun i => ¬ vB v i) h1 h2 := fun i blk hi h3 h4 => kp i blk hi (kl i blk h3 h4) h4
  exact ⟨v', h2, e, o2, fun h0 hk0 hl0 => Keeps.far (n := lo) (hk0.trans k1) k2 hl0 fun i hi hv => by have := (hge i hv).1; omega, by simp at l2; omega⟩

def allQ (c : Hd) (gs : List (List Int)) : Bool := goodH c && decide (gs.length = c.deeds.length) && gs.all (groupQ c)
noncomputable def allP (c : Hd) (gs : List (List Int)) (n : Nat) : List (List Int) := (List.range n).map fun (i : Nat) => ofL c (i : Int) (gs.getD i [])
noncomputable def linksR (c : Hd) (gs : List (List Int)) : List (List Int) := if allQ c gs = true then allP c gs gs.length else []
theorem allP_succ (c : Hd) (gs : List (List Int)) (n : Nat) (hn : n < gs.length) : allP c gs (n + 1) = allP c gs n ++ [ofL c (n : Int) gs[n]] := by
  simp only [allP, List.range_succ, List.map_append, List.map_cons, List.map_nil, List.getD_eq_getElem?_getD, List.getElem?_eq_getElem hn, Option.getD_some]
theorem groupQ_in {c : Hd} {ps : List Int} (h : groupQ c ps = true) : ∀ p ∈ ps, 0 ≤ p ∧ p ≤ c.no - 1 := by
  simp only [groupQ, Bool.and_eq_true, decide_eq_true_eq, risB] at h
  exact h.1.1
theorem AllDeps_ok {h : Heap} {v w : V} {c : Hd} {F F9 : List Nat} (hc : HdV h v c F) {gs : List (List Int)} (hp : SdF h w gs F9) :
    ∃ r h', call p 462 [v, w] h = some (r, h') ∧ ∃ o G, r = .tup [o, .bool (allQ c gs)] ∧ SdF h' o (linksR c gs) G ∧ Fresh h.length h' G ∧ Keeps h h' ∧ h.length ≤ h'.length := by
  obtain ⟨_, h1, e1, rfl, k1, l1⟩ := GoodHeard_ok hc
  have hc1 := hc.keep k1
  have hcc := hc1
  obtain ⟨x, y, F1, F2, rfl, rfl, hx, hy⟩ := hc1
  refine go (fn := g462) rfl rfl fun R hR => ?_
  have fin : ∀ h', allQ c gs = false → Keeps h h' → h.length ≤ h'.length → R (.tup [.nils, .bool false]) h' := fun h' hb hk hl => hR _ _ ⟨.nils, [], by rw [hb], by simp [linksR, hb]; exact .nil, Fresh.nil, hk, hl⟩
  cases hg : goodH c with
  | false =>
    rw [hg] at e1
    simp [g462, fillL, upd, hx.cells, hx.cell, hy.cells, hy.cell, e1]
    exact fin _ (by simp [allQ, hg]) k1 l1
  | true =>
    rw [hg] at e1
    by_cases hl : gs.length = c.deeds.length
    · have hl2 : (gs.length : Int) = c.deeds.length := by omega
      simp [g462, fillL, upd, hx.cells, hx.cell, hy.cells, hy.cell, e1, hp.len, hx.len, hl2]
      obtain ⟨_, h8, _⟩ := goodH_facts hg
      have hlen0 : ((c.deeds.length : Nat) : Int) = (gs.length : Int) := hl2.symm
      rw [← hl]
      refine Wc_upM (M := [4, 5, 6, 7, 8, 23, 24, 25, 26, 27, 28, 29, 30, 31, 32, 33, 34, 35, 36, 37, 38, 39]) rfl gs.length (fun i s => i ≤ gs.length ∧ s.σ 23 = .v (vi i) ∧ s.L 2 = (1, [vi c.no, x, y]) ∧ (∃ u G, s.σ 6 = .v u ∧ OdF h1.length s.h u (allP c gs i) G) ∧ (∀ g ∈ gs.take i, groupQ c g = true) ∧ Keeps h1 s.h ∧ h1.length ≤ s.h.length) 0
        ⟨by omega, by simp, by simp [upd], ⟨_, [], by simp; rfl, by simpa [allP] using OdF.empty (Nat.le_refl _) (by simp)⟩, by simp, Keeps.append _ _, by simp⟩ fun i s ⟨gi, g23, gL, ⟨u, G, g6, ou⟩, hall, hk, hln⟩ hM J hJ => ?_
      by_cases hi : i < gs.length
      · obtain ⟨z, F3, ez, hz, _⟩ := (hp.keep (k1.trans hk)).loadL i hi
        have iz := hp.idx 1 .i64 i hi
        simp only [Nat.mul_one] at iz
        have e2 := isGroupH_eq (hcc.keep hk) hg hz.sl
        cases hq : groupQ c gs[i] with
        | false =>
          rw [hq] at e2
          simp [g462_0, hM, g23, g6, gL, hi, iz, ez, e2]
          have : (gs.all (groupQ c)) = false := List.all_eq_false.2 ⟨_, List.getElem_mem hi, by simp [hq]⟩
          exact fin _ (by simp only [allQ, this, Bool.and_false]) (k1.trans hk) (by omega)
        | true =>
          rw [hq] at e2
          obtain ⟨r4, h4, e4, G4, s4, f4, k4, l4⟩ := allOf_ok (hcc.keep hk) hg (a := (i : Int)) (by omega) hz.sl (groupQ_in hq)
          have hpl : (allP c gs i).length ≤ 2 ^ 20 := by simp [allP]; omega
          obtain ⟨v6, h5, e5, o5, kk5, l5⟩ := ou.one k4 l4 f4 (x := ofL c (i : Int) gs[i]) (cs := [r4]) ⟨r4, rfl, s4⟩ hpl (k := 1) (bytes := 24) rfl (by decide)
          rw [← allP_succ c gs i hi] at o5
          simp [g462_0, hM, g23, g6, gL, hi, iz, ez, e2, e4, s4.cells, s4.cell, fillL, rdS_last, e5, hp.step hi]
          exact hJ _ hi ⟨hi, by simp, by simp [gL], ⟨v6, _, by simp, o5⟩, (all_take_succ hi).2 ⟨hall, hq⟩, kk5 _ hk (Nat.le_refl _), by show h1.length ≤ h5.length; omega⟩
      · have : i = gs.length := by omega
        subst this
        rw [List.take_length] at hall
        have hb : allQ c gs = true := by simp only [allQ, hg, hl, decide_true, Bool.true_and]; exact List.all_eq_true.2 hall
        obtain ⟨G9, s9, f9⟩ := ou.fresh
        simp [g462_0, hM, g23, g6]
        exact hR _ _ ⟨u, G9, by rw [hb], by simpa [linksR, hb] using s9, f9.mono l1, k1.trans hk, by omega⟩
    · have hl2 : ¬ (gs.length : Int) = c.deeds.length := by omega
      simp [g462, fillL, upd, hx.cells, hx.cell, hy.cells, hy.cell, e1, hp.len, hx.len, hl2]
      exact fin _ (by simp [allQ, hl]) k1 l1
theorem AllDepsS_ok {h : Heap} {v w : V} {c : Hd} {F F9 : List Nat} (hc : HdV h v c F) {gs : List (List Int)} (hp : SdF h w gs F9) :
    ∃ r h', call p 463 [v, w] h = some (r, h') ∧ ∃ o G, r = .tup [o, .bool (allQ c gs)] ∧ SdF h' o (linksR c gs) G ∧ Keeps h h' ∧ h.length ≤ h'.length := by
  have e1 := GoodHeardS_eq hc
  have hcc := hc
  obtain ⟨x, y, F1, F2, rfl, rfl, hx, hy⟩ := hc
  refine go (fn := g463) rfl rfl fun R hR => ?_
  have fin : ∀ h', allQ c gs = false → Keeps h h' → h.length ≤ h'.length → R (.tup [.nils, .bool false]) h' := fun h' hb hk hl => hR _ _ ⟨.nils, [], by rw [hb], by simp [linksR, hb]; exact .nil, hk, hl⟩
  cases hg : goodH c with
  | false =>
    rw [hg] at e1
    simp [g463, fillL, upd, hx.cells, hx.cell, hy.cells, hy.cell, e1]
    exact fin _ (by simp [allQ, hg]) (Keeps.refl _) (Nat.le_refl _)
  | true =>
    rw [hg] at e1
    by_cases hl : gs.length = c.deeds.length
    · have hl2 : (gs.length : Int) = c.deeds.length := by omega
      simp [g463, fillL, upd, hx.cells, hx.cell, hy.cells, hy.cell, e1, hp.len, hx.len, hl2]
      obtain ⟨_, h8, _⟩ := goodH_facts hg
      rw [← hl]
      refine Wc_upM (M := [4, 5, 6, 7, 8, 22, 23, 24, 25, 26, 27, 28, 29, 30, 31, 32, 33, 34, 35, 36, 37, 38]) rfl gs.length (fun i s => i ≤ gs.length ∧ s.σ 22 = .v (vi i) ∧ s.L 2 = (1, [vi c.no, x, y]) ∧ (∃ u G, s.σ 6 = .v u ∧ Od h.length s.h u (allP c gs i) G) ∧ (∀ g ∈ gs.take i, groupQ c g = true) ∧ Keeps h s.h ∧ h.length ≤ s.h.length) 0
        ⟨by omega, by simp, by simp [upd], ⟨.nils, [], by simp, by simpa [allP] using Od.nil (Nat.le_refl _)⟩, by simp, Keeps.refl _, by simp⟩ fun i s ⟨gi, g22, gL, ⟨u, G, g6, ou⟩, hall, hk, hln⟩ hM J hJ => ?_
      by_cases hi : i < gs.length
      · obtain ⟨z, F3, ez, hz, _⟩ := (hp.keep hk).loadL i hi
        have iz := hp.idx 1 .i64 i hi
        simp only [Nat.mul_one] at iz
        have e2 := l13Group_eq (hcc.keep hk) hg hz.sl
        rw [show (risB 0 (c.no - 1) gs[i] && decide (c.no.toNat / 2 + 1 ≤ gs[i].length)) = groupQ c gs[i] from rfl] at e2
        cases hq : groupQ c gs[i] with
        | false =>
          rw [hq] at e2
          simp [g463_0, hM, g22, g6, gL, hi, iz, ez, e2]
          have : (gs.all (groupQ c)) = false := List.all_eq_false.2 ⟨_, List.getElem_mem hi, by simp [hq]⟩
          exact fin _ (by simp only [allQ, this, Bool.and_false]) hk hln
        | true =>
          rw [hq] at e2
          obtain ⟨r4, h4, e4, G4, s4, f4, k4, l4⟩ := l13Of_ok (hcc.keep hk) hg (a := (i : Int)) (by omega) hz.sl (groupQ_in hq)
          have hpl : (allP c gs i).length ≤ 2 ^ 20 := by simp [allP]; omega
          obtain ⟨v6, h5, e5, o5, kk5, l5⟩ := ou.one k4 l4 f4 (x := ofL c (i : Int) gs[i]) (cs := [r4]) ⟨r4, rfl, s4⟩ hpl (k := 1) (bytes := 24) rfl (by decide)
          rw [← allP_succ c gs i hi] at o5
          simp [g463_0, hM, g22, g6, gL, hi, iz, ez, e2, e4, s4.cells, s4.cell, fillL, rdS_last, e5, hp.step hi]
          exact hJ _ hi ⟨hi, by simp, by simp [gL], ⟨v6, _, by simp, o5⟩, (all_take_succ hi).2 ⟨hall, hq⟩, kk5 _ hk (Nat.le_refl _), by show h.length ≤ h5.length; omega⟩
      · have : i = gs.length := by omega
        subst this
        rw [List.take_length] at hall
        have hb : allQ c gs = true := by simp only [allQ, hg, hl, decide_true, Bool.true_and]; exact List.all_eq_true.2 hall
        obtain ⟨G9, s9, _⟩ := ou.sd
        simp [g463_0, hM, g22, g6]
        exact hR _ _ ⟨u, G9, by rw [hb], by simpa [linksR, hb] using s9, hk, hln⟩
    · have hl2 : ¬ (gs.length : Int) = c.deeds.length := by omega
      simp [g463, fillL, upd, hx.cells, hx.cell, hy.cells, hy.cell, e1, hp.len, hx.len, hl2]
      exact fin _ (by simp [allQ, hl]) (Keeps.refl _) (Nat.le_refl _)

/-! a house: a heard log, and a group for each of its deeds -/
structure Hs where
  heard : Hd
  groups : List (List Int)
instance hsData : Data Hs where
  sz := 4
  pos := by decide
  rep := fun h c cs F => ∃ x y z F1 F2 F3, cs = [vi c.heard.no, x, y, z] ∧ F = F1 ++ F2 ++ F3 ∧ SdF h x c.heard.deeds F1 ∧ SdF h y c.heard.rows F2 ∧ SdF h z c.groups F3
  len := by rintro h a cs F ⟨x, y, z, F1, F2, F3, rfl, _⟩; rfl
  ok := by rintro h a cs F ⟨x, y, z, F1, F2, F3, rfl, _, h1, h2, h3⟩; simp [allCell, h1.cell, h2.cell, h3.cell, cell_int]
  keeps := by
    rintro h h' a cs F ⟨x, y, z, F1, F2, F3, rfl, rfl, h1, h2, h3⟩ hk
    exact ⟨x, y, z, F1, F2, F3, rfl, rfl, h1.keeps (hk.mono fun b hb => by simp [hb]), h2.keeps (hk.mono fun b hb => by simp [hb]), h3.keeps (hk.mono fun b hb => by simp [hb])⟩
  lt := by
    rintro h a cs F b ⟨x, y, z, F1, F2, F3, rfl, rfl, h1, h2, h3⟩ hb
    rcases List.mem_append.1 hb with hb | hb
    · rcases List.mem_append.1 hb with hb | hb
      · exact h1.lt hb
      · exact h2.lt hb
    · exact h3.lt hb
def HsV (h : Heap) (v : V) (c : Hs) (F : List Nat) : Prop := ∃ x y z F1 F2 F3, v = .agg [vi c.heard.no, x, y, z] ∧ F = F1 ++ F2 ++ F3 ∧ SdF h x c.heard.deeds F1 ∧ SdF h y c.heard.rows F2 ∧ SdF h z c.groups F3
section
variable {h h' : Heap} {v w : V} {c : Hs} {F G : List Nat}
theorem HsV.keeps (hc : HsV h v c F) (hk : KeepsP (fun b => b ∈ F) h h') : HsV h' v c F := by
  obtain ⟨x, y, z, F1, F2, F3, rfl, rfl, h1, h2, h3⟩ := hc
  exact ⟨x, y, z, F1, F2, F3, rfl, rfl, h1.keeps (hk.mono fun b hb => by simp [hb]), h2.keeps (hk.mono fun b hb => by simp [hb]), h3.keeps (hk.mono fun b hb => by simp [hb])⟩
theorem HsV.keep (hc : HsV h v c F) (hk : Keeps h h') : HsV h' v c F := hc.keeps (hk.p _)
theorem HsV.lt (hc : HsV h v c F) {b : Nat} (hb : b ∈ F) : b < h.length := by
  obtain ⟨x, y, z, F1, F2, F3, rfl, rfl, h1, h2, h3⟩ := hc
  rcases List.mem_append.1 hb with hb | hb
  · rcases List.mem_append.1 hb with hb | hb
    · obtain ⟨_, h3, _⟩ := h1.lt hb; exact get_lt h3
    · obtain ⟨_, h3, _⟩ := h2.lt hb; exact get_lt h3
  · obtain ⟨_, h4, _⟩ := h3.lt hb; exact get_lt h4
end
def smS (c : Hs) : Prop := smH c.heard ∧ c.groups.length + numN c.groups ≤ 2 ^ 20
theorem szHouse_eq {h : Heap} {v : V} {c : Hs} {F : List Nat} (hc : HsV h v c F) : ∃ r : Int, call p 455 [v, vi 1048576] h = some (vi r, h) ∧ (r < 0 ∨ smS c) := by
  obtain ⟨x, y, z, F1, F2, F3, rfl, rfl, hx, hy, hz⟩ := hc
  obtain ⟨r1, e1, h1⟩ := szHeard_eq (c := c.heard) ⟨x, y, F1, F2, rfl, rfl, hx, hy⟩ (l0 := 1048576) (by decide)
  by_cases hn : r1 < 0
  · refine ⟨-1, go_eq (fn := g455) rfl rfl fun R hR => ?_, .inl (by decide)⟩
    simp [g455, fillL, upd, hx.cells, hx.cell, hy.cells, hy.cell, hz.cells, hz.cell, e1, hn]; exact hR
  · have h1' : 0 ≤ r1 ∧ (c.heard.deeds.length : Int) + (c.heard.rows.length + numN c.heard.rows) + r1 = 1048576 := by
      rcases h1 with h | h
      · exact absurd h hn
      · exact h
    obtain ⟨r2, e2, h2⟩ := szIntSS_eq hz (l0 := r1) (by omega)
    by_cases hn2 : r2 < 0
    · refine ⟨-1, go_eq (fn := g455) rfl rfl fun R hR => ?_, .inl (by decide)⟩
      simp [g455, fillL, upd, hx.cells, hx.cell, hy.cells, hy.cell, hz.cells, hz.cell, e1, hn, e2, hn2]; exact hR
    · refine ⟨r2, go_eq (fn := g455) rfl rfl fun R hR => ?_, .inr ?_⟩
      · simp [g455, fillL, upd, hx.cells, hx.cell, hy.cells, hy.cell, hz.cells, hz.cell, e1, hn, e2, hn2]; exact hR
      · rcases h2 with h | h
        · exact absurd h hn2
        · exact ⟨⟨by omega, by omega⟩, by omega⟩
theorem toHouse_ok {h : Heap} {v : V} {c : Hs} {F : List Nat} (hc : HsV h v c F) (hsm : smS c) : ∃ r h', call p 456 [v] h = some (r, h') ∧ ∃ G, HsV h' r c G ∧ Fresh h.length h' G ∧ Keeps h h' ∧ h.length ≤ h'.length := by
  obtain ⟨x, y, z, F1, F2, F3, rfl, rfl, hx, hy, hz⟩ := hc
  obtain ⟨r1, h1, e1, G1, c1, f1, k1, l1⟩ := toHeard_ok (c := c.heard) ⟨x, y, F1, F2, rfl, rfl, hx, hy⟩ hsm.1
  obtain ⟨b, h2, e2, G2, s2, f2, k2, l2⟩ := toIntSS_ok (hz.keep k1) (by have := hsm.2; omega) fun r hr => by have := numN_mem hr; have := hsm.2; omega
  obtain ⟨x1, y1, H1, H2, rfl, rfl, p1, q1⟩ := c1
  refine go (fn := g456) rfl rfl fun R hR => ?_
  simp [g456, fillL, upd, hx.cells, hx.cell, hy.cells, hy.cell, hz.cells, hz.cell, e1, e2, resV, mkV, p1.cells, p1.cell, q1.cells, q1.cell, s2.cells, s2.cell]
  exact hR _ _ ⟨(H1 ++ H2) ++ G2, ⟨x1, y1, b, H1, H2, G2, rfl, rfl, p1.keep k2, q1.keep k2, s2⟩, f1.app f2 k2 l1, k1.trans k2, by omega⟩
theorem eqHouse_same {h : Heap} {v w : V} {c : Hs} {F G : List Nat} (hc : HsV h v c F) (hd : HsV h w c G) : call p 459 [v, w] h = some (.bool true, h) := by
  obtain ⟨x, y, z, F1, F2, F3, rfl, rfl, hx, hy, hz⟩ := hc
  obtain ⟨a, b, d, G1, G2, G3, rfl, rfl, ga, gb, gd⟩ := hd
  have e1 := eqHeard_same (c := c.heard) ⟨x, y, F1, F2, rfl, rfl, hx, hy⟩ ⟨a, b, G1, G2, rfl, rfl, ga, gb⟩
  have e2 := eqIntSS_same hz gd
  refine go_eq (fn := g459) rfl rfl fun R hR => ?_
  simp [g459, fillL, upd, hx.cells, hx.cell, hy.cells, hy.cell, hz.cells, hz.cell, ga.cells, ga.cell, gb.cells, gb.cell, gd.cells, gd.cell, e1, e2]; exact hR
def houseB (c : Hs) : Bool := allQ c.heard c.groups
theorem LinksOf_ok {h : Heap} {v : V} {c : Hs} {F : List Nat} (hc : HsV h v c F) :
    ∃ r h', call p 474 [v] h = some (r, h') ∧ ∃ o G, r = .tup [o, .bool (houseB c)] ∧ SdF h' o (linksR c.heard c.groups) G ∧ Fresh h.length h' G ∧ Keeps h h' ∧ h.length ≤ h'.length := by
  obtain ⟨x, y, z, F1, F2, F3, rfl, rfl, hx, hy, hz⟩ := hc
  obtain ⟨_, h1, e1, o, G, rfl, s1, f1, k1, l1⟩ := AllDeps_ok (c := c.heard) ⟨x, y, F1, F2, rfl, rfl, hx, hy⟩ hz
  refine go (fn := g474) rfl rfl fun R hR => ?_
  simp [g474, fillL, upd, hx.cells, hx.cell, hy.cells, hy.cell, hz.cells, hz.cell, e1]
  exact hR _ _ ⟨o, G, rfl, s1, f1, k1, l1⟩
theorem GoodHouse_ok {h : Heap} {v : V} {c : Hs} {F : List Nat} (hc : HsV h v c F) :
    ∃ r h', call p 458 [v] h = some (r, h') ∧ r = .bool (houseB c) ∧ Keeps h h' ∧ h.length ≤ h'.length := by
  obtain ⟨_, h1, e1, o, G, rfl, s1, f1, k1, l1⟩ := LinksOf_ok hc
  obtain ⟨x, y, z, F1, F2, F3, rfl, rfl, hx, hy, hz⟩ := hc
  refine go (fn := g458) rfl rfl fun R hR => ?_
  simp [g458, fillL, upd, hx.cells, hx.cell, hy.cells, hy.cell, hz.cells, hz.cell, e1]
  exact hR _ _ ⟨rfl, k1, l1⟩
theorem GoodHouseS_ok {h : Heap} {v : V} {c : Hs} {F : List Nat} (hc : HsV h v c F) :
    ∃ r h', call p 457 [v] h = some (r, h') ∧ r = .bool (houseB c) ∧ Keeps h h' ∧ h.length ≤ h'.length := by
  obtain ⟨x, y, z, F1, F2, F3, rfl, rfl, hx, hy, hz⟩ := hc
  obtain ⟨_, h1, e1, o, G, rfl, s1, k1, l1⟩ := AllDepsS_ok (c := c.heard) ⟨x, y, F1, F2, rfl, rfl, hx, hy⟩ hz
  refine go (fn := g457) rfl rfl fun R hR => ?_
  simp [g457, fillL, upd, hx.cells, hx.cell, hy.cells, hy.cell, hz.cells, hz.cell, e1]
  exact hR _ _ ⟨rfl, k1, l1⟩
def Hs.of (p : Hd × List (List Int)) : Hs := ⟨p.1, p.2⟩
theorem Hs.of_rep (h : Heap) (p : Hd × List (List Int)) (cs : List V) (F : List Nat) (hr : Data.rep h p cs F) : Data.rep h (Hs.of p) cs F := by
  obtain ⟨c, d, G1, G2, rfl, rfl, ⟨x, y, F1, F2, rfl, rfl, hx, hy⟩, ⟨z, rfl, hz⟩⟩ := hr
  exact ⟨x, y, z, F1, F2, G2, rfl, rfl, hx, hy, hz⟩
end GL

namespace GL
open Go

theorem markHouse_ok {h : Heap} {v : V} {c : Hs} {F : List Nat} {lo : Nat} (hc : HsV h v c F) (fr : Fresh lo h F) (hsm : smS c) : ∃ r h', call p 475 [v, vi 1] h = some (r, h') ∧ (∃ m : Int, r = vi m ∧ 0 ≤ m ∧ m ≤ 2 ^ 40) ∧ KeepsP (fun b => b ∉ F) h h' ∧ h'.length = h.length := by
  obtain ⟨x, y, z, F1, F2, F3, rfl, rfl, hx, hy, hz⟩ := hc
  have hnd := List.nodup_append.1 fr.nodup
  obtain ⟨_, h1, e1, rfl, k1, l1⟩ := markHeard_ok (lo := lo) (c := c.heard) ⟨x, y, F1, F2, rfl, rfl, hx, hy⟩ ⟨hnd.1, fun b hb => fr.ge b (List.mem_append_left _ hb), fun b hb => fr.own b (List.mem_append_left _ hb)⟩ hsm.1
  have n3 : ∀ b ∈ F3, b ∉ F1 ++ F2 := fun b hb hb2 => hnd.2.2 b hb2 b hb rfl
  have hz' := hz.keeps (k1.mono n3)
  obtain ⟨h1s, h2s⟩ := hsm.1
  have h3s := hsm.2
  obtain ⟨_, h2, e2, rfl, _, k2, l2, _⟩ := markIntSS_ok (lo := lo) hz' ⟨hnd.2.1, fun b hb => fr.ge b (List.mem_append_right _ hb), fun b hb => (fr.own b (List.mem_append_right _ hb)).keeps k1 (n3 b hb)⟩ (k := 1 + 2 * c.heard.deeds.length + numN c.heard.rows) (by omega) hsm.2
  refine go (fn := g475) rfl rfl fun R hR => ?_
  simp [g475, fillL, upd, hx.cells, hx.cell, hy.cells, hy.cell, hz.cells, hz.cell, e1, e2]
  exact hR _ _ ⟨⟨_, rfl, by omega, by omega⟩, (k1.mono fun b hb hb2 => hb (List.mem_append_left _ hb2)).trans (k2.mono fun b hb hb2 => hb (List.mem_append_right _ hb2)), by omega⟩
theorem SdF.ltF {α : Type} [Data α] {h : Heap} {v : V} {xs : List α} {F : List Nat} (hs : SdF h v xs F) {b : Nat} (hb : b ∈ F) : b < h.length := by
  obtain ⟨_, h9, _⟩ := hs.lt hb; exact get_lt h9
end GL

namespace GL
open Go

theorem houseB_facts {c : Hs} (h : houseB c = true) : goodH c.heard = true ∧ c.groups.length = c.heard.deeds.length ∧ c.groups.length ≤ 8 := by
  simp only [houseB, allQ, Bool.and_eq_true, decide_eq_true_eq] at h
  obtain ⟨_, h8, _⟩ := goodH_facts h.1.1
  exact ⟨h.1.1, h.1.2, by omega⟩
end GL

namespace GL
open Go

/-! what comes of deeds that are done in an order -/
structure Oc where
  order : List Int
  keys : List Int
  seen : List Int
def stepO (c : Hd) (p : List Int × List Int) (x : Int) : List Int × List Int :=
  (if (dAt c x).wr = true then p.1.set (dAt c x).key.toNat ((3 * p.1.getD (dAt c x).key.toNat 0 + x + 1).tmod 1000) else p.1, p.2.set x.toNat (p.1.getD (dAt c x).key.toNat 0))
def OkO (n : Nat) (p : List Int × List Int) : Prop := p.1.length = 10 ∧ p.2.length = n ∧ ∀ k ∈ p.1, 0 ≤ k ∧ k < 1000
theorem getD_lt {l : List Int} (h : ∀ k ∈ l, 0 ≤ k ∧ k < 1000) (i : Nat) : 0 ≤ l.getD i 0 ∧ l.getD i 0 < 1000 := by
  rw [List.getD_eq_getElem?_getD]
  cases e : l[i]? with
  | none => simp
  | some a => exact h a (List.mem_of_getElem? e)
theorem stepO_ok {c : Hd} {n : Nat} {p : List Int × List Int} (h : OkO n p) {x : Int} (hx : 0 ≤ x ∧ x < 1000) : OkO n (stepO c p x) := by
  obtain ⟨h1, h2, h3⟩ := h
  refine ⟨?_, by simp [stepO, h2], fun k hk => ?_⟩
  · simp only [stepO]; split <;> simp [h1]
  · simp only [stepO] at hk
    split at hk
    · rcases List.mem_or_eq_of_mem_set hk with hk | rfl
      · exact h3 k hk
      · have := getD_lt h3 (dAt c x).key.toNat
        rw [Int.tmod_eq_emod_of_nonneg (by omega)]
        omega
    · exact h3 k hk
theorem okD_at {c : Hd} (hg : goodH c = true) {x : Int} (hx : 0 ≤ x ∧ x < c.deeds.length) : 0 ≤ (dAt c x).key ∧ (dAt c x).key ≤ 9 := by
  have : c.deeds.all okD = true := by simp only [goodH, Bool.and_eq_true] at hg; exact hg.1.2
  have hi : x.toNat < c.deeds.length := by omega
  have h2 := List.all_eq_true.1 this _ (List.getElem_mem hi)
  simp only [dAt, List.getD_eq_getElem?_getD, List.getElem?_eq_getElem hi, Option.getD_some]
  simpa [okD] using h2

theorem main540 {c : Hs} {h0 : Heap} {x y z w a b d : V} {F1 : List Nat} (hx : SdF h0 x c.heard.deeds F1) (hg : goodH c.heard = true) {ps : List Int} (hp : Sl h0 w ps) (hin : ∀ p ∈ ps, 0 ≤ p ∧ p < (c.heard.deeds.length : Int))
    {Fb Fd : List Nat} (s0 : S) (K : Ex → S → Prop) (p0 : List Int × List Int) (hp0 : OkO c.heard.deeds.length p0) (sb : SdF s0.h b p0.1 Fb) (sd : SdF s0.h d p0.2 Fd) (ob : ∀ i ∈ Fb, OwnB s0.h i) (od : ∀ i ∈ Fd, OwnB s0.h i) (gb : ∀ i ∈ Fb, h0.length ≤ i) (gd : ∀ i ∈ Fd, h0.length ≤ i) (hne : ∀ i ∈ Fb, i ∉ Fd)
    (hk0 : Keeps h0 s0.h) (gL5 : s0.L 5 = (1, [a, b, d])) (gL2 : s0.L 2 = (1, [vi c.heard.no, x, y, z])) (g5 : s0.σ 5 = .lp 5 1 0) (g2 : s0.σ 2 = .lp 2 1 0) (glist : s0.σ 31 = .v w) (glen : s0.σ 32 = .v (vi ps.length)) (gi0 : s0.σ 33 = .v (vi 0))
    (hK : ∀ s, (∀ k, k ∉ [8, 9, 33, 34, 35, 36, 37, 38, 39, 40, 41, 42, 43, 44, 45, 46, 47, 48, 49, 50, 51, 52, 53, 54, 55, 56, 57, 58, 59, 60, 61, 62, 63, 64, 65, 66, 67, 68, 69, 70, 71] → s.σ k = s0.σ k) → s.L 5 = (1, [a, b, d]) → s.L 4 = s0.L 4 → SdF s.h b (ps.foldl (stepO c.heard) p0).1 Fb → SdF s.h d (ps.foldl (stepO c.heard) p0).2 Fd → (∀ i, OwnB s0.h i → OwnB s.h i) → KeepsP (fun i => i ∉ Fb ∧ i ∉ Fd) s0.h s.h → s.h.length = s0.h.length → K (.exit 2) s) : Wc p (.loop g540_1) s0 K := by
  obtain ⟨_, h8, _⟩ := goodH_facts hg
  refine Wc_upM (M := [8, 9, 33, 34, 35, 36, 37, 38, 39, 40, 41, 42, 43, 44, 45, 46, 47, 48, 49, 50, 51, 52, 53, 54, 55, 56, 57, 58, 59, 60, 61, 62, 63, 64, 65, 66, 67, 68, 69, 70, 71]) rfl ps.length (fun i s => i ≤ ps.length ∧ s.σ 33 = .v (vi i) ∧ s.L 5 = (1, [a, b, d]) ∧ s.L 2 = (1, [vi c.heard.no, x, y, z]) ∧ s.L 4 = s0.L 4 ∧ (∃ q : List Int × List Int, q = (ps.take i).foldl (stepO c.heard) p0 ∧ OkO c.heard.deeds.length q ∧ SdF s.h b q.1 Fb ∧ SdF s.h d q.2 Fd) ∧ (∀ i, OwnB s0.h i → OwnB s.h i) ∧ KeepsP (fun i => i ∉ Fb ∧ i ∉ Fd) s0.h s.h ∧ s.h.length = s0.h.length) 0
    ⟨by omega, by simp [gi0], gL5, gL2, rfl, ⟨p0, by simp, hp0, sb, sd⟩, fun _ h => h, KeepsP.refl _ _, rfl⟩ fun i s ⟨gi, gix, hL5, hL2, hL4, ⟨q, hq, hqo, qb, qd⟩, ho, hk, hl⟩ hM J hJ => ?_
  by_cases hi : i < ps.length
  · have kk : Keeps h0 s.h := Keeps.far (n := h0.length) hk0 hk (Nat.le_refl _) fun j hj => ⟨fun hm => by have := gb j hm; omega, fun hm => by have := gd j hm; omega⟩
    have hp' := hp.keeps kk
    have ix := hp.idx 1 .i64 i hi
    simp only [Nat.mul_one] at ix
    have ld := hp'.loadI i hi
    have hxi := hin _ (List.getElem_mem hi)
    have hfold : (ps.take (i + 1)).foldl (stepO c.heard) p0 = stepO c.heard q ps[i] := by rw [List.take_succ_eq_append_getElem hi, List.foldl_append, ← hq]; rfl
    have st := hp.step hi
    generalize ps[i] = xi at *
    obtain ⟨b1, b2⟩ := readD (hx.keep kk).sl hxi
    obtain ⟨kd0, kd9⟩ := okD_at hg hxi
    obtain ⟨ql, qn, qr⟩ := hqo
    obtain ⟨key, hkey⟩ : ∃ k : Nat, (dAt c.heard xi).key = k := ⟨(dAt c.heard xi).key.toNat, by omega⟩
    obtain ⟨xn, rfl⟩ : ∃ n : Nat, xi = n := ⟨xi.toNat, by omega⟩
    simp only [Int.toNat_natCast] at b1 b2
    have hkl : key < q.1.length := by omega
    have hxl : xn < q.2.length := by omega
    have ik := qb.idx 1 .i64 key hkl
    have lk := qb.sl.loadI key hkl
    have id := qd.idx 1 .i64 xn hxl
    simp only [Nat.mul_one] at ik id
    have hbb : bOf b ∈ Fb := by rw [qb.flatF.2.2 (fun e => by rw [e] at hkl; simp at hkl)]; simp
    have hdd : bOf d ∈ Fd := by rw [qd.flatF.2.2 (fun e => by rw [e] at hxl; simp at hxl)]; simp
    -- what was read
    obtain ⟨h1, e1, qd1, k1, l1, o1⟩ := qd.putF (i := xn) (ho _ (od _ hdd)) hxl (x' := q.1[key]) (o := 0) (ys := [vi q.1[key]]) (by simp [Flat.cells, lay])
    simp [Flat.sz] at e1
    have qb1 := qb.keeps (k1.mono fun j hj e => hne _ hj (by rw [e]; exact hdd))
    have kP1 : KeepsP (fun i => i ∉ Fb ∧ i ∉ Fd) s.h h1 := k1.mono fun j hj e => hj.2 (by rw [e]; exact hdd)
    have hgd : q.1.getD key 0 = q.1[key] := by rw [List.getD_eq_getElem?_getD, List.getElem?_eq_getElem hkl]; rfl
    have hkr := qr _ (List.getElem_mem hkl)
    have hok := stepO_ok (c := c.heard) (x := (xn : Int)) ⟨ql, qn, qr⟩ (by omega)
    cases hw : (dAt c.heard (xn : Int)).wr with
    | false =>
      have hstep : stepO c.heard q (xn : Int) = (q.1, q.2.set xn q.1[key]) := by simp only [stepO, hw, hkey, Int.toNat_natCast, hgd]; simp
      rw [hw, hkey] at b2
      rw [hstep] at hfold hok
      simp [g540_1, hM, glist, glen, gix, hL5, hL2, g5, g2, hi, ix, ld, upd, b1, b2, ik, lk, id, e1, st]
      exact hJ _ hi ⟨hi, by simp, by simp [upd, hL5], by simp [upd, hL2], by simp [upd, hL4], ⟨_, hfold.symm, hok, qb1, qd1⟩, fun j hj => o1 j (ho j hj), hk.trans kP1, by simp; omega⟩
    | true =>
      have hstep : stepO c.heard q (xn : Int) = (q.1.set key ((3 * q.1[key] + xn + 1).tmod 1000), q.2.set xn q.1[key]) := by simp only [stepO, hw, hkey, Int.toNat_natCast, hgd]; simp
      rw [hw, hkey] at b2
      rw [hstep] at hfold hok
      have lk1 := qb1.sl.loadI key hkl
      obtain ⟨h2, e2, qb2, k2, l2, o2⟩ := qb1.putF (i := key) (o1 _ (ho _ (ob _ hbb))) hkl (x' := (3 * q.1[key] + xn + 1).tmod 1000) (o := 0) (ys := [vi ((3 * q.1[key] + xn + 1).tmod 1000)]) (by simp [Flat.cells, lay])
      simp [Flat.sz] at e2
      have qd2 := qd1.keeps (k2.mono fun j hj e => hne _ hbb (by rw [← e]; exact hj))
      have kP2 : KeepsP (fun i => i ∉ Fb ∧ i ∉ Fd) h1 h2 := k2.mono fun j hj e => hj.1 (by rw [e]; exact hbb)
      generalize q.1[key] = kv at *
      have w1 : IntKind.i64.wrap (3 * kv) = 3 * kv := by rw [IntWalk.i64_in] <;> omega
      have w2 : IntKind.i64.wrap (3 * kv + (xn : Int)) = 3 * kv + xn := by rw [IntWalk.i64_in] <;> omega
      have w3 : IntKind.i64.wrap (3 * kv + (xn : Int) + 1) = 3 * kv + xn + 1 := by rw [IntWalk.i64_in] <;> omega
      simp [g540_1, hM, glist, glen, gix, hL5, hL2, g5, g2, hi, ix, ld, upd, b1, b2, ik, lk, lk1, id, e1, e2, st, w1, w2, w3]
      exact hJ _ hi ⟨hi, by simp, by simp [upd, hL5], by simp [upd, hL2], by simp [upd, hL4], ⟨_, hfold.symm, hok, qb2, qd2⟩, fun j hj => o2 j (o1 j (ho j hj)), (hk.trans kP1).trans kP2, by simp; omega⟩
  · have : i = ps.length := by omega
    subst this
    rw [List.take_length] at hq
    subst hq
    simp [g540_1, hM, glist, glen, gix]
    exact hK _ (fun k hk => by simp [hM k hk, upd]; intro e; subst e; simp at hk) hL5 hL4 qb qd ho hk hl

theorem main542 {c : Hs} {h0 : Heap} {x y z w a b d : V} {F1 : List Nat} (hx : SdF h0 x c.heard.deeds F1) (hg : goodH c.heard = true) {ps : List Int} (hp : Sl h0 w ps) (hin : ∀ p ∈ ps, 0 ≤ p ∧ p < (c.heard.deeds.length : Int))
    {Fb Fd : List Nat} (s0 : S) (K : Ex → S → Prop) (p0 : List Int × List Int) (hp0 : OkO c.heard.deeds.length p0) (sb : SdF s0.h b p0.1 Fb) (sd : SdF s0.h d p0.2 Fd) (ob : ∀ i ∈ Fb, OwnB s0.h i) (od : ∀ i ∈ Fd, OwnB s0.h i) (gb : ∀ i ∈ Fb, h0.length ≤ i) (gd : ∀ i ∈ Fd, h0.length ≤ i) (hne : ∀ i ∈ Fb, i ∉ Fd)
    (hk0 : Keeps h0 s0.h) (gL5 : s0.L 5 = (1, [a, b, d])) (gL2 : s0.L 2 = (1, [vi c.heard.no, x, y, z])) (g5 : s0.σ 5 = .lp 5 1 0) (g2 : s0.σ 2 = .lp 2 1 0) (glist : s0.σ 25 = .v w) (glen : s0.σ 26 = .v (vi ps.length)) (gi0 : s0.σ 27 = .v (vi 0))
    (hK : ∀ s, (∀ k, k ∉ [7, 8, 27, 28, 29, 30, 31, 32, 33, 34, 35, 36, 37, 38, 39, 40, 41, 42, 43, 44, 45, 46, 47, 48, 49, 50, 51, 52, 53, 54, 55, 56, 57, 58, 59, 60, 61, 62, 63, 64, 65] → s.σ k = s0.σ k) → s.L 5 = (1, [a, b, d]) → s.L 4 = s0.L 4 → SdF s.h b (ps.foldl (stepO c.heard) p0).1 Fb → SdF s.h d (ps.foldl (stepO c.heard) p0).2 Fd → (∀ i, OwnB s0.h i → OwnB s.h i) → KeepsP (fun i => i ∉ Fb ∧ i ∉ Fd) s0.h s.h → s.h.length = s0.h.length → K (.exit 2) s) : Wc p (.loop g542_1) s0 K := by
  obtain ⟨_, h8, _⟩ := goodH_facts hg
  refine Wc_upM (M := [7, 8, 27, 28, 29, 30, 31, 32, 33, 34, 35, 36, 37, 38, 39, 40, 41, 42, 43, 44, 45, 46, 47, 48, 49, 50, 51, 52, 53, 54, 55, 56, 57, 58, 59, 60, 61, 62, 63, 64, 65]) rfl ps.length (fun i s => i ≤ ps.length ∧ s.σ 27 = .v (vi i) ∧ s.L 5 = (1, [a, b, d]) ∧ s.L 2 = (1, [vi c.heard.no, x, y, z]) ∧ s.L 4 = s0.L 4 ∧ (∃ q : List Int × List Int, q = (ps.take i).foldl (stepO c.heard) p0 ∧ OkO c.heard.deeds.length q ∧ SdF s.h b q.1 Fb ∧ SdF s.h d q.2 Fd) ∧ (∀ i, OwnB s0.h i → OwnB s.h i) ∧ KeepsP (fun i => i ∉ Fb ∧ i ∉ Fd) s0.h s.h ∧ s.h.length = s0.h.length) 0
    ⟨by omega, by simp [gi0], gL5, gL2, rfl, ⟨p0, by simp, hp0, sb, sd⟩, fun _ h => h, KeepsP.refl _ _, rfl⟩ fun i s ⟨gi, gix, hL5, hL2, hL4, ⟨q, hq, hqo, qb, qd⟩, ho, hk, hl⟩ hM J hJ => ?_
  by_cases hi : i < ps.length
  · have kk : Keeps h0 s.h := Keeps.far (n := h0.length) hk0 hk (Nat.le_refl _) fun j hj => ⟨fun hm => by have := gb j hm; omega, fun hm => by have := gd j hm; omega⟩
    have hp' := hp.keeps kk
    have ix := hp.idx 1 .i64 i hi
    simp only [Nat.mul_one] at ix
    have ld := hp'.loadI i hi
    have hxi := hin _ (List.getElem_mem hi)
    have hfold : (ps.take (i + 1)).foldl (stepO c.heard) p0 = stepO c.heard q ps[i] := by rw [List.take_succ_eq_append_getElem hi, List.foldl_append, ← hq]; rfl
    have st := hp.step hi
    generalize ps[i] = xi at *
    obtain ⟨b1, b2⟩ := readD (hx.keep kk).sl hxi
    obtain ⟨kd0, kd9⟩ := okD_at hg hxi
    obtain ⟨ql, qn, qr⟩ := hqo
    obtain ⟨key, hkey⟩ : ∃ k : Nat, (dAt c.heard xi).key = k := ⟨(dAt c.heard xi).key.toNat, by omega⟩
    obtain ⟨xn, rfl⟩ : ∃ n : Nat, xi = n := ⟨xi.toNat, by omega⟩
    simp only [Int.toNat_natCast] at b1 b2
    have hkl : key < q.1.length := by omega
    have hxl : xn < q.2.length := by omega
    have ik := qb.idx 1 .i64 key hkl
    have lk := qb.sl.loadI key hkl
    have id := qd.idx 1 .i64 xn hxl
    simp only [Nat.mul_one] at ik id
    have hbb : bOf b ∈ Fb := by rw [qb.flatF.2.2 (fun e => by rw [e] at hkl; simp at hkl)]; simp
    have hdd : bOf d ∈ Fd := by rw [qd.flatF.2.2 (fun e => by rw [e] at hxl; simp at hxl)]; simp
    -- what was read
    obtain ⟨h1, e1, qd1, k1, l1, o1⟩ := qd.putF (i := xn) (ho _ (od _ hdd)) hxl (x' := q.1[key]) (o := 0) (ys := [vi q.1[key]]) (by simp [Flat.cells, lay])
    simp [Flat.sz] at e1
    have qb1 := qb.keeps (k1.mono fun j hj e => hne _ hj (by rw [e]; exact hdd))
    have kP1 : KeepsP (fun i => i ∉ Fb ∧ i ∉ Fd) s.h h1 := k1.mono fun j hj e => hj.2 (by rw [e]; exact hdd)
    have hgd : q.1.getD key 0 = q.1[key] := by rw [List.getD_eq_getElem?_getD, List.getElem?_eq_getElem hkl]; rfl
    have hkr := qr _ (List.getElem_mem hkl)
    have hok := stepO_ok (c := c.heard) (x := (xn : Int)) ⟨ql, qn, qr⟩ (by omega)
    cases hw : (dAt c.heard (xn : Int)).wr with
    | false =>
      have hstep : stepO c.heard q (xn : Int) = (q.1, q.2.set xn q.1[key]) := by simp only [stepO, hw, hkey, Int.toNat_natCast, hgd]; simp
      rw [hw, hkey] at b2
      rw [hstep] at hfold hok
      simp [g542_1, hM, glist, glen, gix, hL5, hL2, g5, g2, hi, ix, ld, upd, b1, b2, ik, lk, id, e1, st]
      exact hJ _ hi ⟨hi, by simp, by simp [upd, hL5], by simp [upd, hL2], by simp [upd, hL4], ⟨_, hfold.symm, hok, qb1, qd1⟩, fun j hj => o1 j (ho j hj), hk.trans kP1, by simp; omega⟩
    | true =>
      have hstep : stepO c.heard q (xn : Int) = (q.1.set key ((3 * q.1[key] + xn + 1).tmod 1000), q.2.set xn q.1[key]) := by simp only [stepO, hw, hkey, Int.toNat_natCast, hgd]; simp
      rw [hw, hkey] at b2
      rw [hstep] at hfold hok
      have lk1 := qb1.sl.loadI key hkl
      obtain ⟨h2, e2, qb2, k2, l2, o2⟩ := qb1.putF (i := key) (o1 _ (ho _ (ob _ hbb))) hkl (x' := (3 * q.1[key] + xn + 1).tmod 1000) (o := 0) (ys := [vi ((3 * q.1[key] + xn + 1).tmod 1000)]) (by simp [Flat.cells, lay])
      simp [Flat.sz] at e2
      have qd2 := qd1.keeps (k2.mono fun j hj e => hne _ hbb (by rw [← e]; exact hj))
      have kP2 : KeepsP (fun i => i ∉ Fb ∧ i ∉ Fd) h1 h2 := k2.mono fun j hj e => hj.1 (by rw [e]; exact hbb)
      generalize q.1[key] = kv at *
      have w1 : IntKind.i64.wrap (3 * kv) = 3 * kv := by rw [IntWalk.i64_in] <;> omega
      have w2 : IntKind.i64.wrap (3 * kv + (xn : Int)) = 3 * kv + xn := by rw [IntWalk.i64_in] <;> omega
      have w3 : IntKind.i64.wrap (3 * kv + (xn : Int) + 1) = 3 * kv + xn + 1 := by rw [IntWalk.i64_in] <;> omega
      simp [g542_1, hM, glist, glen, gix, hL5, hL2, g5, g2, hi, ix, ld, upd, b1, b2, ik, lk, lk1, id, e1, e2, st, w1, w2, w3]
      exact hJ _ hi ⟨hi, by simp, by simp [upd, hL5], by simp [upd, hL2], by simp [upd, hL4], ⟨_, hfold.symm, hok, qb2, qd2⟩, fun j hj => o2 j (o1 j (ho j hj)), (hk.trans kP1).trans kP2, by simp; omega⟩
  · have : i = ps.length := by omega
    subst this
    rw [List.take_length] at hq
    subst hq
    simp [g542_1, hM, glist, glen, gix]
    exact hK _ (fun k hk => by simp [hM k hk, upd]; intro e; subst e; simp at hk) hL5 hL4 qb qd ho hk hl
end GL

namespace GL
open Go

def OcV (h : Heap) (v : V) (c : Oc) (F : List Nat) : Prop := ∃ x y z F1 F2 F3, v = .agg [x, y, z] ∧ F = F1 ++ F2 ++ F3 ∧ SdF h x c.order F1 ∧ SdF h y c.keys F2 ∧ SdF h z c.seen F3
noncomputable def outF (c : Hd) (ps : List Int) : Oc :=
  ⟨ps, (ps.foldl (stepO c) (List.replicate 10 0, List.replicate c.deeds.length (-1))).1, (ps.foldl (stepO c) (List.replicate 10 0, List.replicate c.deeds.length (-1))).2⟩
theorem begin_three (σ : Nat → T) (L : Nat → Nat × List V) (h : Heap) (wt : Nat → Option (ROp × List T × V)) (fl : Nat → Bool) (b : Nat) :
    S.begin ⟨σ, L, h, wt, fl, b⟩ 3 = ⟨σ, L, h ++ [deadBlk, deadBlk, deadBlk], fun _ => none, fun _ => false, h.length⟩ := by simp [S.begin]
theorem begin_one (σ : Nat → T) (L : Nat → Nat × List V) (h : Heap) (wt : Nat → Option (ROp × List T × V)) (fl : Nat → Bool) (b : Nat) :
    S.begin ⟨σ, L, h, wt, fl, b⟩ 1 = ⟨σ, L, h ++ [deadBlk], fun _ => none, fun _ => false, h.length⟩ := by simp [S.begin]
theorem flats_rep0 (n : Nat) : flats (List.replicate n (0 : Int)) = List.replicate n (vi 0) := by rw [flats_ints]; simp
def tail540 : GL.Code := .seq (.seq (.reg 0 [⟨0, some 20, none, .p (.faddr 2), [.t 5]⟩,
    ⟨1, some 21, none, .l (.load 5 false 1), [.t 20]⟩,
    ⟨2, some 22, none, .p .len, [.t 21]⟩,
    ⟨3, some 23, none, .p .mov, [.c (.int .i64 0)]⟩])
   (.block 0 (.loop g540_0)))
   (.seq (.seq (.reg 0 [⟨0, some 31, none, .p .mov, [.t 1]⟩,
    ⟨1, some 32, none, .p .len, [.t 31]⟩,
    ⟨2, some 33, none, .p .mov, [.c (.int .i64 0)]⟩])
   (.block 2 (.loop g540_1)))
   (.seq (.reg 0 [⟨0, some 72, none, .l (.load 5 true 3), [.t 5]⟩,
    ⟨1, none, none, .l (.store 4 3), [.t 4, .t 72]⟩])
   (.ret)))
/-- the second half of l17By: what was made is filled -/
theorem l17Tail {c : Hs} {h0 : Heap} {x y z w a : V} {F1 : List Nat} (hx : SdF h0 x c.heard.deeds F1) (hg : goodH c.heard = true) {ps : List Int} (hp : Sl h0 w ps) (hin : ∀ p ∈ ps, 0 ≤ p ∧ p < (c.heard.deeds.length : Int))
    {bb bd : Nat} {Fa : List Nat} (s0 : S) (K : Ex → S → Prop) (sa : SdF s0.h a ps Fa) (ga : ∀ i ∈ Fa, h0.length ≤ i ∧ i ≠ bb ∧ i ≠ bd) (hne : bb ≠ bd) (gb : h0.length ≤ bb) (gd : h0.length ≤ bd)
    (cb : s0.h[bb]? = some ⟨.own, List.replicate 10 (vi 0)⟩) (cd : s0.h[bd]? = some ⟨.own, List.replicate c.heard.deeds.length (vi 0)⟩) (hk0 : Keeps h0 s0.h)
    (gL5 : s0.L 5 = (1, [a, .slice bb 0 10 (.k 10), .slice bd 0 c.heard.deeds.length (.k c.heard.deeds.length)])) (gL2 : s0.L 2 = (1, [vi c.heard.no, x, y, z])) (g5 : s0.σ 5 = .lp 5 1 0) (g2 : s0.σ 2 = .lp 2 1 0) (g4 : s0.σ 4 = .lp 4 1 0) (gl4 : s0.L 4 = (1, [.nils, .nils, .nils])) (g1 : s0.σ 1 = .v w)
    (hK : ∀ s G, s.L 4 = (1, [a, .slice bb 0 10 (.k 10), .slice bd 0 c.heard.deeds.length (.k c.heard.deeds.length)]) → s.σ 4 = .lp 4 1 0 → OcV s.h (.agg [a, .slice bb 0 10 (.k 10), .slice bd 0 c.heard.deeds.length (.k c.heard.deeds.length)]) (outF c.heard ps) G → (∀ i ∈ G, h0.length ≤ i) → Keeps h0 s.h → h0.length ≤ s.h.length → K .ret s) :
    Wc p tail540 s0 K := by
  obtain ⟨_, h8, _⟩ := goodH_facts hg
  obtain ⟨σ, L, H, wt, fl, base⟩ := s0
  simp only at sa cb cd hk0 gL5 gL2 g5 g2 g4 gl4 g1
  have sb : SdF H (.slice bb 0 10 (.k 10)) (List.replicate 10 (0 : Int)) [bb] := sdF_newK cb (flats_rep0 10).symm (by simp) (by simp)
  have sd : SdF H (.slice bd 0 c.heard.deeds.length (.k c.heard.deeds.length)) (List.replicate c.heard.deeds.length (0 : Int)) [bd] := sdF_newK cd (flats_rep0 _).symm (by simp) (by simp; omega)
  generalize hb : V.slice bb 0 10 (.k 10) = b at *
  generalize hd : V.slice bd 0 c.heard.deeds.length (.k c.heard.deeds.length) = d at *
  have bb' : bOf b = bb := by rw [← hb]; rfl
  have bd' : bOf d = bd := by rw [← hd]; rfl
  simp [tail540, gL5, gL2, g5, g2, g4, g1, upd, sd.len]
  refine Wc_upM (M := [6, 23, 24, 25, 26, 27, 28, 29, 30]) rfl c.heard.deeds.length (fun i s => i ≤ c.heard.deeds.length ∧ s.σ 23 = .v (vi i) ∧ s.L = L ∧ SdF s.h d (List.replicate i (-1) ++ List.replicate (c.heard.deeds.length - i) 0) [bd] ∧ (∀ j, OwnB H j → OwnB s.h j) ∧ KeepsP (fun j => j ≠ bd) H s.h ∧ s.h.length = H.length) 0
    ⟨by omega, by simp, rfl, by simpa using sd, fun _ h => h, KeepsP.refl _ _, rfl⟩ fun i s ⟨gi, g23, hL, hs, ho, hk, hl⟩ hM J hJ => ?_
  by_cases hi : i < c.heard.deeds.length
  · have hil : i < (List.replicate i (-1 : Int) ++ List.replicate (c.heard.deeds.length - i) 0).length := by simp; omega
    obtain ⟨h1, e1, s1, k1, l1, o1⟩ := hs.putF (i := i) (ho _ ⟨_, by rw [bd']; exact cd⟩) hil (x' := (-1 : Int)) (o := 0) (ys := [vi (-1)]) (by simp [Flat.cells, lay])
    simp [Flat.sz] at e1
    have ix := hs.idx 1 .i64 i hil
    simp only [Nat.mul_one] at ix
    have st : IntKind.i64.wrap ((i : Int) + 1) = i + 1 := by rw [IntWalk.i64_in] <;> omega
    simp [g540_0, hM, g23, hL, gL5, g5, hi, ix, e1, st, upd]
    refine hJ _ hi ⟨hi, by simp, rfl, ?_, fun j hj => o1 j (ho j hj), hk.trans (k1.mono fun j hj e => hj (by rw [e, bd'])), by simp; omega⟩
    have : (List.replicate i (-1 : Int) ++ List.replicate (c.heard.deeds.length - i) 0).set i (-1) = List.replicate (i + 1) (-1) ++ List.replicate (c.heard.deeds.length - (i + 1)) 0 := by
      have h1 : c.heard.deeds.length - i = c.heard.deeds.length - (i + 1) + 1 := by omega
      rw [List.set_append_right _ _ (by simp), h1, List.replicate_succ]
      simp only [List.length_replicate, Nat.sub_self, List.set_cons_zero]
      rw [List.replicate_succ', List.append_assoc]; rfl
    rw [this] at s1; exact s1
  · have : i = c.heard.deeds.length := by omega
    subst this
    rw [Nat.sub_self, List.replicate_zero, List.append_nil] at hs
    have kk : Keeps h0 s.h := Keeps.far (n := h0.length) hk0 hk (Nat.le_refl _) fun j hj e => by omega
    have hM1 := hM
    have cb1 : OwnB s.h bb := ho _ ⟨_, cb⟩
    have cd1 : OwnB s.h bd := ho _ ⟨_, cd⟩
    have sb1 := sb.keeps (hk.mono fun j hj => by simp at hj; subst hj; exact hne)
    have sa1 := sa.keeps (hk.mono fun j hj => (ga j hj).2.2)
    simp [g540_0, hM, g23, hL, gL5, g1, hp.len, upd]
    refine main540 (a := a) (b := b) (d := d) (Fb := [bb]) (Fd := [bd]) hx hg hp hin _ _ (List.replicate 10 0, List.replicate c.heard.deeds.length (-1)) ⟨by simp, by simp, fun k hk => by simp only [List.mem_replicate] at hk; omega⟩ sb1 hs (by simpa using cb1) (by simpa using cd1) (by simpa using gb) (by simpa using gd) (by simpa using hne) kk (by simpa using gL5) (by simpa using gL2) (by simp [hM, g5]) (by simp [hM, g2]) (by simp) (by simp) (by simp) fun t hMt tL5 tL4 tb td to tk tl => ?_
    have t5 : t.σ 5 = .lp 5 1 0 := by rw [hMt 5 (by decide)]; simp [hM, g5]
    have t4 : t.σ 4 = .lp 4 1 0 := by rw [hMt 4 (by decide)]; simp [hM, g4]
    have tL4' : t.L 4 = (1, [.nils, .nils, .nils]) := by rw [tL4]; simpa using gl4
    have kt : Keeps h0 t.h := Keeps.far (n := h0.length) kk tk (Nat.le_refl _) fun j hj => by simp; omega
    have sat := sa1.keeps (tk.mono fun j hj => by simp; exact ⟨(ga j hj).2.1, (ga j hj).2.2⟩)
    have tbc := tb.cell
    have tdc := td.cell
    simp [t5, t4, tL5, tL4', upd, sat.cell, tbc, tdc]
    refine hK _ (Fa ++ [bb] ++ [bd]) (by simp [upd]) (by simp [t4]) ⟨a, b, d, Fa, [bb], [bd], rfl, rfl, sat, tb, td⟩ (fun i hi => ?_) kt ?_
    · simp at hi
      rcases hi with hi | rfl | rfl
      · exact (ga i hi).1
      · exact gb
      · exact gd
    · show h0.length ≤ t.h.length
      have hlt := get_lt cb
      rw [tl]
      show h0.length ≤ s.h.length
      omega
theorem mtR (n : Nat) : (List.replicate n [vi 0]).flatten = List.replicate n (vi 0) := by
  induction n with
  | zero => rfl
  | succ n ih => simp [List.replicate_succ]
theorem l17By_ok {h : Heap} {v w : V} {c : Hs} {F : List Nat} (hc : HsV h v c F) (hg : goodH c.heard = true) {ps : List Int} (hp : Sl h w ps) (hin : ∀ p ∈ ps, 0 ≤ p ∧ p < (c.heard.deeds.length : Int)) (hl : ps.length ≤ 8) :
    ∃ r h', call p 540 [v, w] h = some (r, h') ∧ ∃ G, OcV h' r (outF c.heard ps) G ∧ (∀ i ∈ G, h.length ≤ i) ∧ Keeps h h' ∧ h.length ≤ h'.length := by
  obtain ⟨x, y, z, F1, F2, F3, rfl, rfl, hx, hy, hz⟩ := hc
  obtain ⟨_, h8, _⟩ := goodH_facts hg
  have c2 : (c.heard.deeds.length : Int) * 8 ≤ (room : Int) := by unfold room; omega
  have c3 : c.heard.deeds.length ≤ room := by unfold room; omega
  have c4 : (80 : Int) ≤ (room : Int) := by unfold room; omega
  have c5 : (10 : Int) ≤ (room : Int) := by unfold room; omega
  refine go (fn := g540) rfl rfl fun R hR => ?_
  show Wc p (.seq _ (.seq _ tail540)) _ _
  by_cases h0 : ps = []
  · subst h0
    have hr : rdS (h ++ [⟨.own, []⟩, deadBlk, deadBlk]) 1 w 0 = some [] := (hp.keeps (Keeps.append h _)).rdS 0 (by simp)
    have lw : lenV w = some 0 := hp.len
    have d0 := isDeadA h [deadBlk, deadBlk, deadBlk] 0
    have a0 := setA h [deadBlk, deadBlk, deadBlk] 0 ⟨.own, []⟩
    have d1 := isDeadA h [⟨.own, []⟩, deadBlk, deadBlk] 1
    have a1 := setA h [⟨.own, []⟩, deadBlk, deadBlk] 1 ⟨.own, List.replicate 10 (vi 0)⟩
    have d2 := isDeadA h [⟨.own, []⟩, ⟨.own, List.replicate 10 (vi 0)⟩, deadBlk] 2
    have a2 := setA h [⟨.own, []⟩, ⟨.own, List.replicate 10 (vi 0)⟩, deadBlk] 2 ⟨.own, List.replicate c.heard.deeds.length (vi 0)⟩
    simp only [Nat.add_zero, List.set_cons_zero, List.set_cons_succ] at d0 a0 d1 a1 d2 a2
    have i0 : isDead [deadBlk, deadBlk, deadBlk] 0 = true := rfl
    have i1 : isDead [⟨.own, []⟩, deadBlk, deadBlk] 1 = true := rfl
    have i2 : isDead [⟨.own, []⟩, ⟨.own, List.replicate 10 (vi 0)⟩, deadBlk] 2 = true := rfl
    have ad : allDead (h ++ [⟨.own, []⟩, deadBlk, deadBlk]) h.length (upd (fun _ => false) 0 true) [1, 2] = true := by simp only [allDead, List.all_cons, List.all_nil, isDeadA]; rfl
    have ap : ∀ b H, appH 1 8 (.slice b 0 0 (.k 0)) 0 [] H = some (.slice b 0 0 (.k 0), H) := fun _ _ => rfl
    simp [ad, ap, g540, fillL, upd, begin_three, xop_m, hx.cells, hx.cell, hy.cells, hy.cell, hz.cells, hz.cell, hx.len, lw, d0, a0, d1, a1, d2, a2, i0, i1, i2, hr, c2, c3, c4, c5, mtR, -List.reduceReplicate]
    refine l17Tail (c := c) hx hg hp hin (bb := h.length + 1) (bd := h.length + 2) (Fa := []) _ _ ⟨by simp, .inr ⟨h.length, 0, .k 0, rfl, Nat.le_refl 0, .inl ⟨rfl, rfl⟩⟩⟩ (by simp) (by omega) (by omega) (by omega) (by simp) (by simp) (Keeps.append h _) rfl rfl rfl rfl rfl rfl rfl fun s G g4 s4 hoc hG hk hl => ?_
    simp [s4, g4, resV, mkV]
    exact hR _ _ ⟨G, hoc, hG, hk, hl⟩
  · have n0 : 0 < ps.length := List.length_pos_iff.2 h0
    have hr : rdS (h ++ [⟨.own, []⟩, deadBlk, deadBlk]) 1 w ps.length = some (flats ps) := by
      have := (hp.keeps (Keeps.append h [⟨.own, []⟩, deadBlk, deadBlk])).rdS ps.length (Nat.le_refl _)
      rw [List.take_length] at this; exact this
    have lw : lenV w = some ps.length := hp.len
    have d0 := isDeadA h [deadBlk, deadBlk, deadBlk] 0
    have a0 := setA h [deadBlk, deadBlk, deadBlk] 0 ⟨.own, []⟩
    have d1 := isDeadA h [⟨.own, []⟩, deadBlk, deadBlk, ⟨.own, flats ps⟩] 1
    have a1 := setA h [⟨.own, []⟩, deadBlk, deadBlk, ⟨.own, flats ps⟩] 1 ⟨.own, List.replicate 10 (vi 0)⟩
    have d2 := isDeadA h [⟨.own, []⟩, ⟨.own, List.replicate 10 (vi 0)⟩, deadBlk, ⟨.own, flats ps⟩] 2
    have a2 := setA h [⟨.own, []⟩, ⟨.own, List.replicate 10 (vi 0)⟩, deadBlk, ⟨.own, flats ps⟩] 2 ⟨.own, List.replicate c.heard.deeds.length (vi 0)⟩
    simp only [Nat.add_zero, List.set_cons_zero, List.set_cons_succ] at d0 a0 d1 a1 d2 a2
    have i0 : isDead [deadBlk, deadBlk, deadBlk] 0 = true := rfl
    have i1 : isDead [⟨.own, []⟩, deadBlk, deadBlk, ⟨.own, flats ps⟩] 1 = true := rfl
    have i2 : isDead [⟨.own, []⟩, ⟨.own, List.replicate 10 (vi 0)⟩, deadBlk, ⟨.own, flats ps⟩] 2 = true := rfl
    have ad : allDead (h ++ [⟨.own, []⟩, deadBlk, deadBlk]) h.length (upd (fun _ => false) 0 true) [1, 2] = true := by simp only [allDead, List.all_cons, List.all_nil, isDeadA]; rfl
    have ap := appH_first (H := h ++ [⟨.own, []⟩, deadBlk, deadBlk]) (b := h.length) (k := 1) (bytes := 8) (ys := flats ps) n0 (by omega) (by decide)
    simp at ap
    simp [ad, ap, g540, fillL, upd, begin_three, xop_m, hx.cells, hx.cell, hy.cells, hy.cell, hz.cells, hz.cell, hx.len, lw, d0, a0, d1, a1, d2, a2, i0, i1, i2, hr, c2, c3, c4, c5, mtR, -List.reduceReplicate]
    refine l17Tail (c := c) hx hg hp hin (bb := h.length + 1) (bd := h.length + 2) (Fa := [h.length + 3]) _ _ (sdF_new (by simp) (by omega) rfl) (by simp) (by omega) (by omega) (by omega) (by simp) (by simp) (Keeps.append h _) rfl rfl rfl rfl rfl rfl rfl fun s G g4 s4 hoc hG hk hl => ?_
    simp [s4, g4, resV, mkV]
    exact hR _ _ ⟨G, hoc, hG, hk, hl⟩
end GL

namespace GL
open Go

theorem cloneI_exact {h : Heap} {v : V} {xs : List Int} (hs : Sl h v xs) (hl : xs.length ≤ 2 ^ 20) : ∃ r h', call p 389 [v] h = some (r, h') ∧ ∃ l F, h' = h ++ l ∧ SdF h' r xs F ∧ Fresh h.length h' F := by
  refine go (fn := g389) rfl rfl fun R hR => ?_
  have hs' := hs.keeps (Keeps.append h [⟨.own, []⟩])
  have e1 := hs'.rdS xs.length (Nat.le_refl _)
  rw [List.take_length] at e1
  change rdS _ 1 _ _ = _ at e1
  have hlen := hs.len
  rcases hs with ⟨_, ⟨rfl, rfl⟩ | ⟨b, off, cap, rfl, _⟩⟩
  · simp [g389]
    exact hR _ _ ⟨[], [], by simp, SdF.nil, Fresh.nil⟩
  · by_cases h0 : xs = []
    · subst h0
      have ap : ∀ b H, appH 1 8 (.slice b 0 0 (.k 0)) 0 [] H = some (.slice b 0 0 (.k 0), H) := fun _ _ => rfl
      have e1' : rdS (h ++ [⟨.own, []⟩]) 1 (.slice b off 0 cap) 0 = some [] := e1
      simp [g389, fillL, e1', ap]
      exact hR _ _ ⟨[⟨.own, []⟩], [], rfl, ⟨by simp, .inr ⟨h.length, 0, .k 0, rfl, Nat.le_refl 0, .inl ⟨rfl, rfl⟩⟩⟩, Fresh.nil⟩
    · have n0 : 0 < xs.length := List.length_pos_iff.2 h0
      have ap := appH_first (H := h ++ [⟨.own, []⟩]) (b := h.length) (k := 1) (bytes := 8) (ys := flats xs) n0 hl (by decide)
      simp at ap
      simp [g389, fillL, e1, ap]
      exact hR _ _ ⟨[⟨.own, []⟩, ⟨.own, flats xs⟩], [h.length + 1], rfl, sdF_new (by simp) (by omega) rfl, ⟨by simp, by simp, by simp; exact ⟨_, by simp; rfl⟩⟩⟩
def tail542 : GL.Code := .seq (.seq (.reg 0 [⟨0, some 13, none, .p (.faddr 0), [.t 2]⟩,
    ⟨1, some 14, none, .p (.faddr 1), [.t 13]⟩,
    ⟨2, some 15, none, .l (.load 2 false 1), [.t 14]⟩,
    ⟨3, some 16, none, .p .len, [.t 15]⟩,
    ⟨4, some 17, none, .p .mov, [.c (.int .i64 0)]⟩])
   (.block 0 (.loop g542_0)))
   (.seq (.seq (.reg 0 [⟨0, some 25, none, .p .mov, [.t 1]⟩,
    ⟨1, some 26, none, .p .len, [.t 25]⟩,
    ⟨2, some 27, none, .p .mov, [.c (.int .i64 0)]⟩])
   (.block 2 (.loop g542_1)))
   (.seq (.reg 0 [⟨0, some 66, none, .l (.load 5 true 3), [.t 5]⟩,
    ⟨1, none, none, .l (.store 4 3), [.t 4, .t 66]⟩])
   (.ret)))
theorem outTail {c : Hs} {h0 : Heap} {x y z w a : V} {F1 : List Nat} (hx : SdF h0 x c.heard.deeds F1) (hg : goodH c.heard = true) {ps : List Int} (hp : Sl h0 w ps) (hin : ∀ p ∈ ps, 0 ≤ p ∧ p < (c.heard.deeds.length : Int))
    {bb : Nat} {Fa : List Nat} (s0 : S) (K : Ex → S → Prop) (sa : SdF s0.h a ps Fa) (fa : Fresh h0.length s0.h Fa) (ga : bb ∉ Fa) (gb : h0.length ≤ bb)
    (cb : s0.h[bb]? = some ⟨.own, List.replicate 10 (vi 0)⟩) (hk0 : Keeps h0 s0.h)
    (gL5 : s0.L 5 = (1, [a, .slice bb 0 10 (.k 10), .nils])) (gL2 : s0.L 2 = (1, [vi c.heard.no, x, y, z])) (g5 : s0.σ 5 = .lp 5 1 0) (g2 : s0.σ 2 = .lp 2 1 0) (g4 : s0.σ 4 = .lp 4 1 0) (gl4 : s0.L 4 = (1, [.nils, .nils, .nils])) (g1 : s0.σ 1 = .v w)
    (hK : ∀ s d G, s.L 4 = (1, [a, .slice bb 0 10 (.k 10), d]) → s.σ 4 = .lp 4 1 0 → OcV s.h (.agg [a, .slice bb 0 10 (.k 10), d]) (outF c.heard ps) G → Fresh h0.length s.h G → Keeps h0 s.h → h0.length ≤ s.h.length → K .ret s) :
    Wc p tail542 s0 K := by
  obtain ⟨_, h8, _⟩ := goodH_facts hg
  obtain ⟨σ, L, H, wt, fl, base⟩ := s0
  simp only at sa fa cb hk0 gL5 gL2 g5 g2 g4 gl4 g1
  have hbl := get_lt cb
  have sb : SdF H (.slice bb 0 10 (.k 10)) (List.replicate 10 (0 : Int)) [bb] := sdF_newK cb (flats_rep0 10).symm (by simp) (by simp)
  generalize hb : V.slice bb 0 10 (.k 10) = b at *
  have hxc := (hx.keep hk0).len
  simp [tail542, gL5, gL2, g5, g2, g4, g1, upd, hxc]
  refine Wc_upM (M := [17, 18, 19, 20, 21, 22, 23, 24]) rfl c.heard.deeds.length (fun i s => i ≤ c.heard.deeds.length ∧ s.σ 17 = .v (vi i) ∧ s.L 2 = L 2 ∧ s.L 4 = L 4 ∧ (∃ d, s.L 5 = (1, [a, b, d]) ∧ Out H.length s.h d (List.replicate i (-1 : Int))) ∧ Keeps H s.h ∧ H.length ≤ s.h.length) 0
    ⟨by omega, by simp, rfl, rfl, ⟨.nils, gL5, by simpa using Out.nil (Nat.le_refl _)⟩, Keeps.refl _, Nat.le_refl _⟩ fun i s ⟨gi, g17, hL2, hL4, ⟨d, hL5, hs⟩, hk, hl⟩ hM J hJ => ?_
  by_cases hi : i < c.heard.deeds.length
  · obtain ⟨d', h1, e1, s1, k1, l1⟩ := hs.one (-1) (by simp; omega)
    have st : IntKind.i64.wrap ((i : Int) + 1) = i + 1 := by rw [IntWalk.i64_in] <;> omega
    have dc := s1.sl.cell
    have dcs := s1.sl.cells
    simp [g542_0, hM, g17, hL5, g5, hi, rdS_last, e1, st, upd, dc, dcs]
    exact hJ _ hi ⟨hi, by simp, by simp [upd, hL2], by simp [upd, hL4], ⟨d', by simp [upd], by rw [List.replicate_succ']; exact s1⟩, hs.far hk k1 (Nat.le_refl _), by show H.length ≤ h1.length; omega⟩
  · have : i = c.heard.deeds.length := by omega
    subst this
    have kk : Keeps h0 s.h := hk0.trans hk
    have hM1 := hM
    have sb1 := sb.keep hk
    have sa1 := sa.keep hk
    obtain ⟨Fd, sd, fd⟩ := hs.fr
    have ob : OwnB s.h bb := ⟨_, hk _ _ cb (by simp)⟩
    have hl0 : h0.length ≤ H.length := by omega
    simp [g542_0, hM, g17, g1, hp.len, upd]
    refine main542 (a := a) (b := b) (d := d) (Fb := [bb]) (Fd := Fd) hx hg hp hin _ _ (List.replicate 10 0, List.replicate c.heard.deeds.length (-1)) ⟨by simp, by simp, fun k hk => by simp only [List.mem_replicate] at hk; omega⟩ sb1 sd (by simpa using ob) fd.own (by simpa using gb) (fun i hi => Nat.le_trans hl0 (fd.ge i hi)) (fun i hi hm => by simp at hi; subst hi; have := fd.ge _ hm; omega) kk (by simpa using hL5) (by simpa [gL2] using hL2) (by simp [hM, g5]) (by simp [hM, g2]) (by simp) (by simp) (by simp) fun t hMt tL5 tL4 tb td to tk tl => ?_
    have t5 : t.σ 5 = .lp 5 1 0 := by rw [hMt 5 (by decide)]; simp [hM, g5]
    have t4 : t.σ 4 = .lp 4 1 0 := by rw [hMt 4 (by decide)]; simp [hM, g4]
    have tL4' : t.L 4 = (1, [.nils, .nils, .nils]) := by rw [tL4]; simpa [hL4] using gl4
    have tk' : KeepsP (fun i => i ∉ [bb] ∧ i ∉ Fd) s.h t.h := tk
    have kt : Keeps h0 t.h := Keeps.far (n := h0.length) kk tk' (Nat.le_refl _) fun j hj => ⟨by simp; omega, fun hm => by have := fd.ge j hm; omega⟩
    have pa : ∀ j ∈ Fa, j ∉ [bb] ∧ j ∉ Fd := fun j hj => ⟨by simp; intro e; subst e; exact ga hj, fun hm => by have := fd.ge j hm; have := (fa.own j hj).lt; omega⟩
    have sat := sa1.keeps (tk'.mono pa)
    have tbc := tb.cell
    have tdc := td.cell
    have tlen : h0.length ≤ t.h.length := by
      have : t.h.length = s.h.length := tl
      omega
    simp [t5, t4, tL5, tL4', upd, sat.cell, tbc, tdc]
    refine hK _ d (Fa ++ [bb] ++ Fd) (by simp [upd]) (by simp [t4]) ⟨a, b, d, Fa, [bb], Fd, rfl, rfl, sat, tb, td⟩ ⟨?_, fun j hj => ?_, fun j hj => ?_⟩ kt tlen
    · rw [List.nodup_append, List.nodup_append]
      refine ⟨⟨fa.nodup, by simp, fun u hu v hv e => by simp at hv; subst hv; subst e; exact ga hu⟩, fd.nodup, fun u hu v hv e => ?_⟩
      subst e
      have h1 := fd.ge u hv
      rcases List.mem_append.1 hu with hu | hu
      · have := (fa.own u hu).lt; omega
      · simp at hu; omega
    · rcases List.mem_append.1 hj with hj | hj
      · rcases List.mem_append.1 hj with hj | hj
        · exact fa.ge j hj
        · simp at hj; omega
      · have := fd.ge j hj; omega
    · rcases List.mem_append.1 hj with hj | hj
      · rcases List.mem_append.1 hj with hj | hj
        · exact to j ((fa.own j hj).keep hk)
        · simp at hj; subst hj; exact to _ ob
      · exact to j (fd.own j hj)
theorem outcome_ok {h : Heap} {v w : V} {c : Hs} {F : List Nat} (hc : HsV h v c F) (hg : goodH c.heard = true) {ps : List Int} (hp : Sl h w ps) (hin : ∀ p ∈ ps, 0 ≤ p ∧ p < (c.heard.deeds.length : Int)) (hl : ps.length ≤ 8) :
    ∃ r h', call p 542 [v, w] h = some (r, h') ∧ ∃ G, OcV h' r (outF c.heard ps) G ∧ Fresh h.length h' G ∧ Keeps h h' ∧ h.length ≤ h'.length := by
  obtain ⟨x, y, z, F1, F2, F3, rfl, rfl, hx, hy, hz⟩ := hc
  have c4 : (80 : Int) ≤ (room : Int) := by unfold room; omega
  have c5 : (10 : Int) ≤ (room : Int) := by unfold room; omega
  obtain ⟨a, h1, e1, l, Fa, rfl, sa, fa⟩ := cloneI_exact (hp.keeps (Keeps.append h [deadBlk])) (by omega)
  refine go (fn := g542) rfl rfl fun R hR => ?_
  show Wc p (.seq _ (.seq _ tail542)) _ _
  have hap : h ++ [deadBlk] ++ l = h ++ deadBlk :: l := by simp
  rw [hap] at e1 sa fa
  have d0 := isDeadA h (deadBlk :: l) 0
  have a0 := setA h (deadBlk :: l) 0 ⟨.own, List.replicate 10 (vi 0)⟩
  simp only [Nat.add_zero, List.set_cons_zero] at d0 a0
  have i0 : isDead (deadBlk :: l) 0 = true := rfl
  have ad : allDead (h ++ [deadBlk]) h.length (fun _ => false) [0] = true := by simp only [allDead, List.all_cons, List.all_nil, isDeadA]; rfl
  have ad2 : allDead (h ++ deadBlk :: l) h.length (fun _ => false) [0] = true := by simp only [allDead, List.all_cons, List.all_nil, isDeadA]; rfl
  have ne : ∀ j ∈ Fa, j ≠ h.length := fun j hj => by have := fa.ge j hj; simp at this; omega
  have kF : KeepsP (fun j => j ∈ Fa) (h ++ deadBlk :: l) (h ++ ⟨.own, List.replicate 10 (vi 0)⟩ :: l) := fun j bk hj hb _ => by
    rw [← a0, List.getElem?_set_ne (Ne.symm (ne j hj))]; exact hb
  have sa2 := sa.keeps kF
  have fa2 : Fresh h.length (h ++ ⟨.own, List.replicate 10 (vi 0)⟩ :: l) Fa := (fa.keeps kF).mono (by simp)
  simp [ad, ad2, g542, fillL, upd, begin_one, xop_m, hx.cells, hx.cell, hy.cells, hy.cell, hz.cells, hz.cell, e1, d0, a0, i0, c4, c5, sa.cells, sa.cell, mtR, -List.reduceReplicate]
  refine outTail (c := c) hx hg hp hin (bb := h.length) (Fa := Fa) _ _ sa2 fa2 (fun hm => ne _ hm rfl) (Nat.le_refl _) (by simp) (Keeps.append h _) rfl rfl rfl rfl rfl rfl rfl fun s d G g4 s4 hoc hG hk hl => ?_
  simp [s4, g4, resV, mkV]
  exact hR _ _ ⟨G, hoc, hG, hk, hl⟩
end GL

namespace GL
open Go

section
variable {h h' : Heap} {v w : V} {c : Oc} {F G : List Nat}
theorem OcV.keeps (hc : OcV h v c F) (hk : KeepsP (fun b => b ∈ F) h h') : OcV h' v c F := by
  obtain ⟨x, y, z, F1, F2, F3, rfl, rfl, h1, h2, h3⟩ := hc
  exact ⟨x, y, z, F1, F2, F3, rfl, rfl, h1.keeps (hk.mono fun b hb => by simp [hb]), h2.keeps (hk.mono fun b hb => by simp [hb]), h3.keeps (hk.mono fun b hb => by simp [hb])⟩
theorem OcV.keep (hc : OcV h v c F) (hk : Keeps h h') : OcV h' v c F := hc.keeps (hk.p _)
theorem OcV.lt (hc : OcV h v c F) {b : Nat} (hb : b ∈ F) : b < h.length := by
  obtain ⟨x, y, z, F1, F2, F3, rfl, rfl, h1, h2, h3⟩ := hc
  rcases List.mem_append.1 hb with hb | hb
  · rcases List.mem_append.1 hb with hb | hb
    · exact h1.ltF hb
    · exact h2.ltF hb
  · exact h3.ltF hb
theorem eqOutcome_same (hc : OcV h v c F) (hd : OcV h w c G) : call p 482 [v, w] h = some (.bool true, h) := by
  obtain ⟨x, y, z, F1, F2, F3, rfl, rfl, hx, hy, hz⟩ := hc
  obtain ⟨a, b, d, G1, G2, G3, rfl, rfl, ga, gb, gd⟩ := hd
  have e1 := eqIntS_eq hx.sl ga.sl
  have e2 := eqIntS_eq hy.sl gb.sl
  have e3 := eqIntS_eq hz.sl gd.sl
  rw [decide_eq_true rfl] at e1 e2 e3
  refine go_eq (fn := g482) rfl rfl fun R hR => ?_
  simp [g482, fillL, upd, hx.cells, hx.cell, hy.cells, hy.cell, hz.cells, hz.cell, ga.cells, ga.cell, gb.cells, gb.cell, gd.cells, gd.cell, e1, e2, e3]; exact hR
def mkOc (c : Oc) : Oc := ⟨mkI 1 c.order.length, mkI (1 + c.order.length) c.keys.length, mkI (1 + c.order.length + c.keys.length) c.seen.length⟩
def smO (c : Oc) : Prop := c.order.length ≤ 2 ^ 20 ∧ c.keys.length ≤ 2 ^ 20 ∧ c.seen.length ≤ 2 ^ 20
theorem markOutcome_ok {lo : Nat} (hc : OcV h v c F) (fr : Fresh lo h F) (hs : smO c) :
    ∃ r h', call p 483 [v, vi 1] h = some (r, h') ∧ r = vi (1 + c.order.length + c.keys.length + c.seen.length) ∧ OcV h' v (mkOc c) F ∧ KeepsP (fun b => b ∉ F) h h' ∧ h'.length = h.length := by
  obtain ⟨x, y, z, F1, F2, F3, rfl, rfl, hx, hy, hz⟩ := hc
  obtain ⟨s1, s2, s3⟩ := hs
  have hnd := List.nodup_append.1 fr.nodup
  have hnd1 := List.nodup_append.1 hnd.1
  have n12 : ∀ b ∈ F1, b ∉ F2 := fun b hb hb2 => hnd1.2.2 b hb b hb2 rfl
  have n13 : ∀ b ∈ F1, b ∉ F3 := fun b hb hb2 => hnd.2.2 b (List.mem_append_left _ hb) b hb2 rfl
  have n23 : ∀ b ∈ F2, b ∉ F3 := fun b hb hb2 => hnd.2.2 b (List.mem_append_right _ hb) b hb2 rfl
  obtain ⟨_, h1, e1, rfl, p1, k1, l1, o1⟩ := markIntS_ok hx (fun b hb => fr.own b (by simp [hb])) (k := 1) (by decide) (by omega)
  have hy' := hy.keeps (k1.mono fun b hb hb2 => n12 b hb2 hb)
  obtain ⟨_, h2, e2, rfl, p2, k2, l2, o2⟩ := markIntS_ok hy' (fun b hb => o1 b (fr.own b (by simp [hb]))) (k := 1 + c.order.length) (by omega) (by omega)
  have hz' := (hz.keeps (k1.mono fun b hb hb2 => n13 b hb2 hb)).keeps (k2.mono fun b hb hb2 => n23 b hb2 hb)
  obtain ⟨_, h3, e3, rfl, p3, k3, l3, o3⟩ := markIntS_ok hz' (fun b hb => o2 b (o1 b (fr.own b (by simp [hb])))) (k := 1 + c.order.length + c.keys.length) (by omega) (by omega)
  have q1 := (p1.keeps (k2.mono fun b hb => n12 b hb)).keeps (k3.mono fun b hb => n13 b hb)
  have q2 := p2.keeps (k3.mono fun b hb => n23 b hb)
  refine go (fn := g483) rfl rfl fun R hR => ?_
  simp [g483, fillL, upd, hx.cells, hx.cell, hy.cells, hy.cell, hz.cells, hz.cell, e1, e2, e3]
  exact hR _ _ ⟨rfl, ⟨x, y, z, F1, F2, F3, rfl, rfl, q1, q2, p3⟩, ((k1.mono fun b hb hb2 => hb (by simp [hb2])).trans (k2.mono fun b hb hb2 => hb (by simp [hb2]))).trans (k3.mono fun b hb hb2 => hb (by simp [hb2])), by omega⟩
theorem heldOutcome_eq (hc : OcV h v (mkOc c) F) (hs : smO c) : call p 484 [v, vi 1] h = some (vi (1 + c.order.length + c.keys.length + c.seen.length), h) := by
  obtain ⟨x, y, z, F1, F2, F3, rfl, rfl, hx, hy, hz⟩ := hc
  obtain ⟨s1, s2, s3⟩ := hs
  have e1 := heldIntS_eq hx.sl (by decide) (by omega)
  have e2 := heldIntS_eq hy.sl (by omega) (by omega)
  have e3 := heldIntS_eq hz.sl (by omega) (by omega)
  have n1 : ¬ 1 + (c.order.length : Int) < 0 := by omega
  have n2 : ¬ 1 + (c.order.length : Int) + c.keys.length < 0 := by omega
  have n3 : ¬ 1 + (c.order.length : Int) + c.keys.length + c.seen.length < 0 := by omega
  refine go_eq (fn := g484) rfl rfl fun R hR => ?_
  simp [g484, fillL, upd, hx.cells, hx.cell, hy.cells, hy.cell, hz.cells, hz.cell, e1, e2, e3, n1, n2, n3]; exact hR
end
def zO : Oc := ⟨[], [], []⟩
def outB (c : Hs) (ps : List Int) : Bool := houseB c && onceB c.heard.deeds.length ps
noncomputable def outR (c : Hs) (ps : List Int) : Oc := if outB c ps = true then outF c.heard ps else zO
theorem outB_facts {c : Hs} {ps : List Int} (h : outB c ps = true) : goodH c.heard = true ∧ (∀ p ∈ ps, 0 ≤ p ∧ p < (c.heard.deeds.length : Int)) ∧ ps.length ≤ 8 := by
  simp only [outB, Bool.and_eq_true, onceB, decide_eq_true_eq] at h
  obtain ⟨hg, hgl, h8⟩ := houseB_facts h.1
  have hin : ∀ p ∈ ps, 0 ≤ p ∧ p < (c.heard.deeds.length : Int) := fun p hp => ⟨(h.2.1 p hp).1, by have := (h.2.1 p hp).2; omega⟩
  have := nodup_len h.2.2 hin
  exact ⟨hg, hin, by omega⟩
theorem fold_ok {c : Hd} {n : Nat} (hn : n ≤ 1000) : ∀ {ps : List Int} {q : List Int × List Int}, (∀ p ∈ ps, 0 ≤ p ∧ p < (n : Int)) → OkO n q → OkO n (ps.foldl (stepO c) q)
  | [], _, _, hq => hq
  | p :: ps, q, h, hq => by
    have := h p (by simp)
    exact fold_ok hn (ps := ps) (fun p hp => h p (by simp [hp])) (stepO_ok hq (by omega))
theorem outR_sm (c : Hs) (ps : List Int) : smO (outR c ps) := by
  unfold outR
  split
  · rename_i hb
    obtain ⟨hg, hin, h8⟩ := outB_facts hb
    obtain ⟨_, hd8, _⟩ := goodH_facts hg
    obtain ⟨h1, h2, _⟩ := fold_ok (c := c.heard) (n := c.heard.deeds.length) (by omega) (ps := ps) (q := (List.replicate 10 0, List.replicate c.heard.deeds.length (-1))) hin ⟨by simp, by simp, fun k hk => by simp only [List.mem_replicate] at hk; omega⟩
    exact ⟨by simp only [outF]; omega, by simp only [outF]; omega, by simp only [outF]; omega⟩
  · exact ⟨by simp [zO], by simp [zO], by simp [zO]⟩
theorem zO_v (h : Heap) : OcV h (.agg [.nils, .nils, .nils]) zO [] := ⟨.nils, .nils, .nils, [], [], [], rfl, rfl, .nil, .nil, .nil⟩
theorem OutcomeBy_ok {h : Heap} {v w : V} {c : Hs} {F : List Nat} (hc : HsV h v c F) {ps : List Int} (hp : Sl h w ps) (hpl : ps.length ≤ 2 ^ 20) :
    ∃ r h', call p 481 [v, w] h = some (r, h') ∧ ∃ o G, r = .tup [o, .bool (outB c ps)] ∧ OcV h' o (outR c ps) G ∧ Fresh h.length h' G ∧ Keeps h h' ∧ h.length ≤ h'.length := by
  obtain ⟨_, h1, e1, rfl, k1, l1⟩ := GoodHouse_ok hc
  have hcc := hc.keep k1
  obtain ⟨x, y, z, F1, F2, F3, rfl, rfl, hx, hy, hz⟩ := hc
  refine go (fn := g481) rfl rfl fun R hR => ?_
  have fin : ∀ h', outB c ps = false → Keeps h h' → h.length ≤ h'.length → R (.tup [.agg [.nils, .nils, .nils], .bool false]) h' := fun h' hb hk hl => hR _ _ ⟨_, [], by rw [hb], by simp only [outR, hb]; exact zO_v h', Fresh.nil, hk, hl⟩
  cases hb : houseB c with
  | false =>
    rw [hb] at e1
    simp [g481, fillL, upd, hx.cells, hx.cell, hy.cells, hy.cell, hz.cells, hz.cell, e1, resV, mkV]
    exact fin _ (by simp [outB, hb]) k1 l1
  | true =>
    rw [hb] at e1
    obtain ⟨hg, hgl, h8⟩ := houseB_facts hb
    obtain ⟨_, h2, e2, rfl, k2, l2⟩ := areOnce_ok (hp.keeps k1) hpl (c.heard.deeds.length : Int) (by omega)
    cases ho : onceB c.heard.deeds.length ps with
    | false =>
      rw [ho] at e2
      simp [g481, fillL, upd, hx.cells, hx.cell, hy.cells, hy.cell, hz.cells, hz.cell, hx.len, e1, e2, resV, mkV]
      exact fin _ (by simp [outB, ho]) (k1.trans k2) (by omega)
    | true =>
      rw [ho] at e2
      have hob : outB c ps = true := by simp [outB, hb, ho]
      obtain ⟨_, hin, hl8⟩ := outB_facts hob
      obtain ⟨r3, h3, e3, G3, c3, f3, k3, l3⟩ := outcome_ok (hcc.keep k2) hg (hp.keeps (k1.trans k2)) hin hl8
      have c3' := c3
      obtain ⟨a, b, d, G1, G2, G4, rfl, _, ga, gb, gd⟩ := c3'
      simp [g481, fillL, upd, hx.cells, hx.cell, hy.cells, hy.cell, hz.cells, hz.cell, hx.len, e1, e2, e3, resV, mkV, ga.cells, ga.cell, gb.cells, gb.cell, gd.cells, gd.cell]
      exact hR _ _ ⟨_, G3, by rw [hob], by simp only [outR, hob, if_true]; exact c3, f3.mono (by omega), (k1.trans k2).trans k3, by omega⟩
theorem OutcomeByS_ok {h : Heap} {v w : V} {c : Hs} {F F9 : List Nat} (hc : HsV h v c F) {ps : List Int} (hp : SdF h w ps F9) :
    ∃ r h', call p 480 [v, w] h = some (r, h') ∧ ∃ o G, r = .tup [o, .bool (outB c ps)] ∧ OcV h' o (outR c ps) G ∧ (∀ i ∈ G, h.length ≤ i) ∧ Keeps h h' ∧ h.length ≤ h'.length := by
  obtain ⟨_, h1, e1, rfl, k1, l1⟩ := GoodHouseS_ok hc
  have hcc := hc.keep k1
  obtain ⟨x, y, z, F1, F2, F3, rfl, rfl, hx, hy, hz⟩ := hc
  refine go (fn := g480) rfl rfl fun R hR => ?_
  have fin : ∀ h', outB c ps = false → Keeps h h' → h.length ≤ h'.length → R (.tup [.agg [.nils, .nils, .nils], .bool false]) h' := fun h' hb hk hl => hR _ _ ⟨_, [], by rw [hb], by simp only [outR, hb]; exact zO_v h', by simp, hk, hl⟩
  cases hb : houseB c with
  | false =>
    rw [hb] at e1
    simp [g480, fillL, upd, hx.cells, hx.cell, hy.cells, hy.cell, hz.cells, hz.cell, e1, resV, mkV]
    exact fin _ (by simp [outB, hb]) k1 l1
  | true =>
    rw [hb] at e1
    obtain ⟨hg, hgl, h8⟩ := houseB_facts hb
    have e2 := l14Once_eq (hp.keep k1) (c.heard.deeds.length : Int) (by omega)
    cases ho : onceB c.heard.deeds.length ps with
    | false =>
      rw [ho] at e2
      simp [g480, fillL, upd, hx.cells, hx.cell, hy.cells, hy.cell, hz.cells, hz.cell, hx.len, e1, e2, resV, mkV]
      exact fin _ (by simp [outB, ho]) k1 l1
    | true =>
      rw [ho] at e2
      have hob : outB c ps = true := by simp [outB, hb, ho]
      obtain ⟨_, hin, hl8⟩ := outB_facts hob
      obtain ⟨r3, h3, e3, G3, c3, f3, k3, l3⟩ := l17By_ok hcc hg (hp.keep k1).sl hin hl8
      have c3' := c3
      obtain ⟨a, b, d, G1, G2, G4, rfl, _, ga, gb, gd⟩ := c3'
      simp [g480, fillL, upd, hx.cells, hx.cell, hy.cells, hy.cell, hz.cells, hz.cell, hx.len, e1, e2, e3, resV, mkV, ga.cells, ga.cell, gb.cells, gb.cell, gd.cells, gd.cell]
      exact hR _ _ ⟨_, G3, by rw [hob], by simp only [outR, hob, if_true]; exact c3, fun i hi => by have := f3 i hi; omega, k1.trans k3, by omega⟩
end GL

namespace GL
open Go

theorem FnExactOutcomeBy_ok {h : Heap} {va vb : V} {c : Hs} {F : List Nat} (hc : HsV h va c F) {ps : List Int} {F9 : List Nat} (hp : SdF h vb ps F9) : ∃ w h', call p 479 [va, vb] h = some (w, h') ∧ w = .bool true := by
  refine go (fn := g479) rfl rfl fun R hR => ?_
  obtain ⟨n, en, hn⟩ := szHouse_eq hc
  have hcc := hc
  obtain ⟨x, y, z, F1, F2, F3, rfl, hF, hx, hy, hz⟩ := hc
  by_cases hbig : (1048576 : Int) < ps.length
  · simp [g479, fillL, upd, hx.cells, hx.cell, hy.cells, hy.cell, hz.cells, hz.cell, hp.len, hbig]
    exact hR _ _ rfl
  · by_cases hneg : n < 0
    · simp [g479, fillL, upd, hx.cells, hx.cell, hy.cells, hy.cell, hz.cells, hz.cell, hp.len, hbig, en, hneg]
      exact hR _ _ rfl
    · have hsm : smS c := by
        rcases hn with h | h
        · exact absurd h hneg
        · exact h
      have hpl : ps.length ≤ 2 ^ 20 := by omega
      obtain ⟨r1, h1, e1, G1, c1, f1, k1, l1⟩ := toHouse_ok hcc hsm
      obtain ⟨r2, h2, e2, G2, s2, f2, k2, l2⟩ := toIntS_ok (hp.sl.keeps k1) hpl
      obtain ⟨_, h3, e3, o3, G3, rfl, s3, f3, k3, l3⟩ := OutcomeByS_ok (c1.keep k2) s2
      have k13 := (k1.trans k2).trans k3
      obtain ⟨r4, h4, e4, G4, c4, f4, k4, l4⟩ := toHouse_ok (hcc.keep k13) hsm
      obtain ⟨r5, h5, e5, G5, s5, f5, k5, l5⟩ := toIntS_ok (hp.sl.keeps (k13.trans k4)) hpl
      obtain ⟨_, h6, e6, o6, G6, rfl, s6, f6, k6, l6⟩ := OutcomeBy_ok (c4.keep k5) s5.sl hpl
      have k16 := ((k13.trans k4).trans k5).trans k6
      have s3_6 := s3.keep ((k4.trans k5).trans k6)
      have e7 := eqOutcome_same s6 s3_6
      obtain ⟨r8, h7, e8, G8, c8, f8, k8, l8⟩ := toHouse_ok (hcc.keep k16) hsm
      have e9 := eqHouse_same (c4.keep ((k5.trans k6).trans k8)) c8
      obtain ⟨r10, h8, e10, G10, s10, f10, k10, l10⟩ := toIntS_ok (hp.sl.keeps (k16.trans k8)) hpl
      have e11 := eqIntS_eq (s5.keep ((k6.trans k8).trans k10)).sl s10.sl
      rw [decide_eq_true rfl] at e11
      have k810 := k8.trans k10
      have k48 := (k5.trans k6).trans k810
      obtain ⟨_, h9, e12, ⟨m, rfl, m0, m1⟩, k12, l12⟩ := markHouse_ok (c4.keep k48) (f4.keeps (k48.p _)) hsm
      have lt3 : ∀ b ∈ G3, b < h3.length := fun b hb => s3.lt hb
      have lt5 : ∀ b ∈ G5, b < h5.length := fun b hb => s5.ltF hb
      have n5 : ∀ b ∈ G5, b ∉ G4 := fun b hb hb2 => by have := f5.ge b hb; have := c4.lt hb2; omega
      have n6 : ∀ b ∈ G6, b ∉ G4 := fun b hb hb2 => by have := f6.ge b hb; have := c4.lt hb2; omega
      have n65 : ∀ b ∈ G6, b ∉ G5 := fun b hb hb2 => by have := f6.ge b hb; have := lt5 b hb2; omega
      have n3 : ∀ b ∈ G3, b ∉ G4 := fun b hb hb2 => by have := f4.ge b hb2; have := lt3 b hb; omega
      have n35 : ∀ b ∈ G3, b ∉ G5 := fun b hb hb2 => by have := f5.ge b hb2; have := lt3 b hb; omega
      have n36 : ∀ b ∈ G3, b ∉ G6 := fun b hb hb2 => by have := f6.ge b hb2; have := lt3 b hb; omega
      have k610 := k6.trans k810
      have s5' := (s5.keep k610).keeps (k12.mono n5)
      have f5' := (f5.keeps (k610.p _)).keeps (k12.mono n5)
      obtain ⟨_, h10, e13, rfl, s13, k13', l13, o13⟩ := markIntS_ok s5' f5'.own (k := m) (by omega) (by omega)
      have s6' := ((s6.keep k810).keeps (k12.mono n6)).keeps (k13'.mono n65)
      have s3' := ((s3_6.keep k810).keeps (k12.mono n3)).keeps (k13'.mono n35)
      have e14 := eqOutcome_same s6' s3'
      have hso := outR_sm c ps
      have f6' := ((f6.keeps (k810.p _)).keeps (k12.mono n6)).keeps (k13'.mono n65)
      obtain ⟨_, h11, e15, rfl, s15, k15, l15⟩ := markOutcome_ok s6' f6' hso
      have e16 := heldOutcome_eq s15 hso
      have hF4 : ∀ b ∈ F, b ∉ G4 := fun b hb hb2 => by have := f4.ge b hb2; have := hcc.lt hb; omega
      have hF5 : ∀ b ∈ F, b ∉ G5 := fun b hb hb2 => by have := f5.ge b hb2; have := hcc.lt hb; omega
      have hF6 : ∀ b ∈ F, b ∉ G6 := fun b hb hb2 => by have := f6.ge b hb2; have := hcc.lt hb; omega
      have lt9 : ∀ b ∈ F9, b < h.length := fun b hb => hp.ltF hb
      have hP4 : ∀ b ∈ F9, b ∉ G4 := fun b hb hb2 => by have := f4.ge b hb2; have := lt9 b hb; omega
      have hP5 : ∀ b ∈ F9, b ∉ G5 := fun b hb hb2 => by have := f5.ge b hb2; have := lt9 b hb; omega
      have hP6 : ∀ b ∈ F9, b ∉ G6 := fun b hb hb2 => by have := f6.ge b hb2; have := lt9 b hb; omega
      have kin := k16.trans k810
      have hc11 := (((hcc.keep kin).keeps (k12.mono hF4)).keeps (k13'.mono hF5)).keeps (k15.mono hF6)
      have hp11 := (((hp.keep kin).keeps (k12.mono hP4)).keeps (k13'.mono hP5)).keeps (k15.mono hP6)
      obtain ⟨r17, h12, e17, G17, c17, f17, k17, l17⟩ := toHouse_ok hc11 hsm
      obtain ⟨r18, h13, e18, G18, s18, f18, k18, l18⟩ := toIntS_ok (hp11.sl.keeps k17) hpl
      obtain ⟨_, h14, e19, o19, G19, rfl, s19, f19, k19, l19⟩ := OutcomeBy_ok (c17.keep k18) s18.sl hpl
      have k1719 := (k17.trans k18).trans k19
      have e20 := eqOutcome_same s19 ((s3'.keeps (k15.mono n36)).keep k1719)
      have e21 := heldOutcome_eq (s15.keep k1719) hso
      generalize outB c ps = ok at *
      generalize outR c ps = dl at *
      obtain ⟨x1, y1, t1, _, _, _, rfl, _, p1, q1, u1⟩ := c1
      obtain ⟨x4, y4, t4, _, _, _, rfl, _, p4, q4, u4⟩ := c4
      obtain ⟨x8, y8, t8, _, _, _, rfl, _, p8, q8, u8⟩ := c8
      obtain ⟨x17, y17, t17, _, _, _, rfl, _, p17, q17, u17⟩ := c17
      obtain ⟨a3, b3, d3, _, _, _, rfl, _, ga3, gb3, gd3⟩ := s3
      obtain ⟨a6, b6, d6, _, _, _, rfl, _, ga6, gb6, gd6⟩ := s6
      obtain ⟨a19, b19, d19, _, _, _, rfl, _, ga19, gb19, gd19⟩ := s19
      have z2 : ¬ m + (ps.length : Int) < 0 := by omega
      have z3 : ¬ 1 + (dl.order.length : Int) + dl.keys.length + dl.seen.length < 0 := by omega
      simp [g479, fillL, upd, resV, mkV, hx.cells, hx.cell, hy.cells, hy.cell, hz.cells, hz.cell, hp.len, hbig, p1.cells, p1.cell, q1.cells, q1.cell, u1.cells, u1.cell, p4.cells, p4.cell, q4.cells, q4.cell, u4.cells, u4.cell, p8.cells, p8.cell, q8.cells, q8.cell, u8.cells, u8.cell, p17.cells, p17.cell, q17.cells, q17.cell, u17.cells, u17.cell,
        ga3.cells, ga3.cell, gb3.cells, gb3.cell, gd3.cells, gd3.cell, ga6.cells, ga6.cell, gb6.cells, gb6.cell, gd6.cells, gd6.cell, ga19.cells, ga19.cell, gb19.cells, gb19.cell, gd19.cells, gd19.cell,
        en, hneg, e1, e2, e3, e4, e5, e6, e7, e8, e9, e10, e11, e12, e13, e14, e15, e16, e17, e18, e19, e20, e21, z2, z3]
      exact hR _ _ rfl
theorem FnExactOutcomeBy_law {h : Heap} {x0 x1 : V} {c : Hs} {ps : List Int} {F0 F1 : List Nat} (r0 : RepA h x0 c F0 true) (r1 : RepA h x1 ps F1 false) : ∃ w h', call p 479 [x0, x1] h = some (w, h') ∧ w = .bool true := by
  obtain ⟨vs, rfl, _, x, y, z, G1, G2, G3, rfl, rfl, hx, hy, hz⟩ := r0
  obtain ⟨u2, _, e2, v, rfl, hs⟩ := r1
  have e2 := e2 rfl
  injection e2 with e2; subst e2
  exact FnExactOutcomeBy_ok (c := c) (F := G1 ++ G2 ++ G3) ⟨x, y, z, G1, G2, G3, rfl, rfl, hx, hy, hz⟩ hs
end GL

