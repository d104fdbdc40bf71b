import Derived.Shelf.SlSortCmp.NoneTotal
import Derived.WalkKit
import Derived.Deep.LoopGhost
import Derived.Deep.Draws
import Derived.Lib.Strings
import Derived.Lib.Slices
import Derived.Lib.Small
import Derived.Lib.Walk
import Derived.Test.YtkmggfhfefaehaaGreatLt
/- slices.SortFunc at lists of numbers, by slices.Compare: what they do. -/
namespace Go.Proofs
open Go.RowKit Go.Shelf Go.Sort

set_option maxHeartbeats 1000000 in
/-- which of two numbers is less -/
theorem Tryz.cmp_Compare_int (x y : Int) (w : World) :
    Calls Tryz.prog 116 #[.int .i64 x, .int .i64 y] w fun e w' => e = .returned (.int .i64 (Lib.compareInt x y)) ∧ w' = w := by
  go_enter Tryz.func116, Tryz.ntmps116
  go_wp2
  all_goals (go_ret; refine ⟨?_, rfl⟩; unfold Lib.compareInt; (repeat' split) <;> first | rfl | (exfalso; omega))


def Tryz.cmpT : List Int → List Int → Int
  | [], [] => 0
  | [], _ :: _ => -1
  | _ :: _, [] => 1
  | x :: xs, y :: ys => if x = y then Tryz.cmpT xs ys else if x < y then -1 else 1
theorem Tryz.cmpT_drop {xs ys : List Int} : ∀ (k : Nat), k ≤ xs.length → k ≤ ys.length → (∀ j, j < k → xs[j]?.getD 0 = ys[j]?.getD 0) → Tryz.cmpT xs ys = Tryz.cmpT (xs.drop k) (ys.drop k)
  | 0, _, _, _ => by simp
  | k + 1, h1, h2, h => by
    rw [Tryz.cmpT_drop k (by omega) (by omega) fun j hj => h j (by omega)]
    rw [List.drop_eq_getElem_cons (show k < xs.length by omega), List.drop_eq_getElem_cons (show k < ys.length by omega), Tryz.cmpT]
    have := h k (by omega)
    rw [List.getElem?_eq_getElem (show k < xs.length by omega), List.getElem?_eq_getElem (show k < ys.length by omega)] at this
    simp only [Option.getD_some] at this
    rw [if_pos this]
def Tryz.HoldsX (W : World) (A : Option Addr) (xs : List Int) : Prop := ∀ j, j < xs.length → ∃ b off, A = some ⟨b, off, none⟩ ∧ W.cell? ⟨b, off + j, none⟩ = some (.int .i64 (xs[j]?.getD 0))
set_option maxHeartbeats 2000000 in
set_option maxRecDepth 100000 in
theorem Tryz.compareC (A B : Option Addr) (c d : Nat) (xs ys : List Int) (w : World) (hl1 : xs.length ≤ 1099511627776) (_hl2 : ys.length ≤ 1099511627776) (hx : Tryz.HoldsX w A xs) (hy : Tryz.HoldsX w B ys) :
    Calls Tryz.prog 75 #[.slice A xs.length c, .slice B ys.length d] w fun e w' => e = .returned (.int .i64 (Tryz.cmpT xs ys)) ∧ ∃ q, w' = w.drewN q := by
  have hcon := fun a b W' => Tryz.cmp_Compare_int a b W'
  go_enter Tryz.func75, Tryz.ntmps75
  go_wp2
  go_loopg [11] xs.length (fun g s11 wr => ∃ k q : Nat, k ≤ xs.length ∧ k ≤ ys.length ∧ xs.length - k ≤ g ∧ s11 = .int .i64 k ∧ wr = w.drewN q ∧ ∀ j, j < k → xs[j]?.getD 0 = ys[j]?.getD 0)
  case atStart => exact ⟨0, 0, Nat.zero_le _, Nat.zero_le _, by omega, rfl, rfl, fun j hj => absurd hj (Nat.not_lt_zero _)⟩
  case round =>
    obtain ⟨k, q, hk, hky, hg, rfl, rfl, heq⟩ := hrel
    have hd := Tryz.cmpT_drop k hk hky heq
    have AA : Aside (∀ j, j < k → xs[j]?.getD 0 = ys[j]?.getD 0) := heq
    clear heq
    by_cases hlt : k < xs.length
    · obtain ⟨b1, o1, rfl, g1⟩ := hx k hlt
      by_cases hlt2 : k < ys.length
      · obtain ⟨b2, o2, rfl, g2⟩ := hy k hlt2
        rw [List.drop_eq_getElem_cons hlt, List.drop_eq_getElem_cons hlt2, Tryz.cmpT] at hd
        have e1 : xs[k]?.getD 0 = xs[k] := by rw [List.getElem?_eq_getElem hlt]; rfl
        have e2 : ys[k]?.getD 0 = ys[k] := by rw [List.getElem?_eq_getElem hlt2]; rfl
        rw [e1] at g1
        rw [e2] at g2
        have BB : Aside (xs[k]?.getD 0 = xs[k] ∧ ys[k]?.getD 0 = ys[k]) := ⟨e1, e2⟩
        clear e1 e2
        generalize xs[k] = x at *
        generalize ys[k] = y at *
        have DD : Aside (Tryz.cmpT xs ys = if x = y then Tryz.cmpT (xs.drop (k + 1)) (ys.drop (k + 1)) else if x < y then -1 else 1) := hd
        clear hd hx hy
        have hc := hcon x y
        clear hcon
        by_cases hxy : x = y
        · subst hxy
          have hz : Lib.compareInt x x = 0 := by simp [Lib.compareInt]
          rw [hz] at hc
          go_wp2_with (go_at_call 116; refine (hc _).mono ?_; rintro e w' ⟨rfl, rfl⟩)
          go_roundg (xs.length - (k + 1))
          case measure => omega
          case rel =>
            refine ⟨k + 1, q, by omega, by omega, by omega, by go_num, rfl, fun j hj => ?_⟩
            by_cases e : j = k
            · subst e
              rw [BB.out.1, BB.out.2]
            · exact AA.out j (by omega)
        · by_cases hxl : x < y
          · have hne : Lib.compareInt x y = -1 := by unfold Lib.compareInt; simp [hxl]
            have hr : Aside (Tryz.cmpT xs ys = -1) := by rw [DD.out, if_neg hxy, if_pos hxl]; exact rfl
            rw [hne] at hc
            clear hne
            go_wp2_with (go_at_call 116; refine (hc _).mono ?_; rintro e w' ⟨rfl, rfl⟩)
            go_ret
            exact ⟨by rw [hr.out]; rfl, q, rfl⟩
          · have hyl : y < x := by omega
            have hne : Lib.compareInt x y = 1 := by unfold Lib.compareInt; simp [hxl, hyl]
            have hr : Aside (Tryz.cmpT xs ys = 1) := by rw [DD.out, if_neg hxy, if_neg hxl]; exact rfl
            rw [hne] at hc
            clear hne
            go_wp2_with (go_at_call 116; refine (hc _).mono ?_; rintro e w' ⟨rfl, rfl⟩)
            go_ret
            exact ⟨by rw [hr.out]; rfl, q, rfl⟩
      · obtain rfl : k = ys.length := by omega
        have e3 : ys.drop ys.length = [] := List.drop_of_length_le (by omega)
        have hr : Aside (Tryz.cmpT xs ys = 1) := by
          rw [List.drop_eq_getElem_cons hlt, e3] at hd
          exact hd.trans rfl
        clear e3
        clear hd hx hy hcon
        go_wp2
        go_ret
        exact ⟨by rw [hr.out]; rfl, q, rfl⟩
    · have hke : k = xs.length := by omega
      subst hke
      by_cases hlt2 : xs.length < ys.length
      · have hr : Aside (Tryz.cmpT xs ys = -1) := by
          rw [List.drop_of_length_le (Nat.le_refl xs.length), List.drop_eq_getElem_cons hlt2] at hd
          exact hd.trans rfl
        clear hd hx hy hcon
        go_wp2
        go_ret
        exact ⟨by rw [hr.out]; rfl, q, rfl⟩
      · have e3 : ys.drop xs.length = [] := List.drop_of_length_le (by omega)
        have hr : Aside (Tryz.cmpT xs ys = 0) := by
          rw [List.drop_of_length_le (Nat.le_refl xs.length), e3] at hd
          exact hd.trans rfl
        clear e3
        clear hd hx hy hcon
        go_wp2
        go_ret
        exact ⟨by rw [hr.out]; rfl, q, rfl⟩
theorem Tryz.cmpInt_lt (x y : Int) : Lib.compareInt x y < 0 ↔ x < y := by
  unfold Lib.compareInt
  by_cases h1 : x < y
  · simp [h1]
  · by_cases h2 : y < x
    · simp [h1, h2]
    · simp [h1, h2]
theorem Tryz.cmpT_irr : ∀ xs : List Int, Tryz.cmpT xs xs = 0
  | [] => rfl
  | x :: xs => by rw [Tryz.cmpT, if_pos rfl]; exact Tryz.cmpT_irr xs
theorem Tryz.cmpT_swap : ∀ xs ys : List Int, Tryz.cmpT xs ys = - Tryz.cmpT ys xs
  | [], [] => rfl
  | [], _ :: _ => rfl
  | _ :: _, [] => rfl
  | x :: xs, y :: ys => by
    rw [Tryz.cmpT, Tryz.cmpT]
    by_cases h : x = y
    · rw [if_pos h, if_pos h.symm]; exact Tryz.cmpT_swap xs ys
    · rw [if_neg h, if_neg (Ne.symm h)]
      by_cases h1 : x < y
      · rw [if_pos h1, if_neg (by omega)]
      · rw [if_neg h1, if_pos (by omega)]; rfl
/-- not greater, and not greater again: not greater -/
theorem Tryz.cmpT_le : ∀ xs ys zs : List Int, 0 ≤ Tryz.cmpT xs ys → 0 ≤ Tryz.cmpT ys zs → 0 ≤ Tryz.cmpT xs zs
  | [], [], [], _, _ => by decide
  | [], [], _ :: _, _, h => by revert h; exact fun h => absurd h (by show ¬ (0 : Int) ≤ -1; decide)
  | [], _ :: _, _, h, _ => absurd h (by show ¬ (0 : Int) ≤ -1; decide)
  | _ :: _, _, [], _, _ => by show (0 : Int) ≤ 1; decide
  | _ :: _, [], _ :: _, _, h => absurd h (by show ¬ (0 : Int) ≤ -1; decide)
  | x :: xs, y :: ys, z :: zs, h1, h2 => by
    rw [Tryz.cmpT] at h1 h2 ⊢
    by_cases e1 : x = y
    · rw [if_pos e1] at h1
      by_cases e2 : y = z
      · rw [if_pos e2] at h2
        rw [if_pos (e1.trans e2)]
        exact Tryz.cmpT_le xs ys zs h1 h2
      · rw [if_neg e2] at h2
        rw [e1, if_neg e2]; exact h2
    · rw [if_neg e1] at h1
      by_cases q1 : x < y
      · rw [if_pos q1] at h1; exact absurd h1 (by decide)
      · by_cases e2 : y = z
        · rw [if_neg (by omega), if_neg (by omega)]; decide
        · rw [if_neg e2] at h2
          by_cases q2 : y < z
          · rw [if_pos q2] at h2; exact absurd h2 (by decide)
          · rw [if_neg (by omega), if_neg (by omega)]; decide
theorem Tryz.cmpT_zero : ∀ xs ys : List Int, Tryz.cmpT xs ys = 0 → xs = ys
  | [], [], _ => rfl
  | [], _ :: _, h => absurd h (by show ¬ (-1 : Int) = 0; decide)
  | _ :: _, [], h => absurd h (by show ¬ (1 : Int) = 0; decide)
  | x :: xs, y :: ys, h => by
    rw [Tryz.cmpT] at h
    by_cases e : x = y
    · rw [if_pos e] at h; rw [e, Tryz.cmpT_zero xs ys h]
    · rw [if_neg e] at h
      split at h <;> exact absurd h (by decide)
theorem Tryz.swoT (f : Nat → List Int) : SWO (ltOf fun i j : Nat => Tryz.cmpT (f i) (f j)) where
  irrefl x := by simp only [ltOf, Tryz.cmpT_irr]; rfl
  trans x y z h1 h2 := by
    simp only [ltOf, decide_eq_true_eq] at *
    by_cases h : Tryz.cmpT (f x) (f z) < 0
    · exact h
    · exfalso
      have a := Tryz.cmpT_swap (f x) (f y)
      have b := Tryz.cmpT_le (f y) (f x) (f z) (by omega) (by omega)
      have c := Tryz.cmpT_swap (f y) (f z)
      omega
  ntrans x y z h1 h2 := by
    simp only [ltOf, decide_eq_false_iff_not] at *
    have := Tryz.cmpT_le (f x) (f y) (f z) (by omega) (by omega)
    omega
/-- a value that holds numbers, not in block blk -/
def Tryz.HoldsL (W : World) (blk : Nat) (v : Value) (xs : List Int) : Prop :=
  xs.length ≤ 1099511627776 ∧ ((∃ A cap, v = .slice A 0 cap ∧ xs = []) ∨ ∃ b off cap, v = .slice (some ⟨b, off, none⟩) xs.length cap ∧ b ≠ blk ∧ b < W.heap.size ∧ ∀ j, j < xs.length → W.cell? ⟨b, off + j, none⟩ = some (.int .i64 (xs[j]?.getD 0)))
theorem Tryz.HoldsL.at' {W : World} {blk : Nat} {v : Value} {xs : List Int} (h : Tryz.HoldsL W blk v xs) {W' : World} (hW : ∀ b off, b ≠ blk → b < W.heap.size → W'.cell? ⟨b, off, none⟩ = W.cell? ⟨b, off, none⟩) : ∃ A cap, v = .slice A xs.length cap ∧ Tryz.HoldsX W' A xs := by
  rcases h.2 with ⟨A, cap, rfl, rfl⟩ | ⟨b, off, cap, rfl, h1, h2, h3⟩
  · exact ⟨A, cap, rfl, fun j hj => by simp at hj⟩
  · exact ⟨_, cap, rfl, fun j hj => ⟨b, off, rfl, (hW b (off + j) h1 h2).trans (h3 j hj)⟩⟩
theorem Tryz.sortTupC (blk off cap : Nat) (enc : Nat → Value) (cs : List (List Int)) (W : World) (hs : cs.length < 4611686018427387904) (hH : Holds enc W blk off (Array.range cs.length)) (hb : blk < W.heap.size) (hL : ∀ i, Tryz.HoldsL W blk (enc i) (cs.getD i [])) :
    Calls Tryz.prog 109 #[.slice (some ⟨blk, off, none⟩) cs.length cap, .func (.func 75) #[] #[]] W fun e w' => e = .returned (.tuple #[]) ∧ ∃ k os, w' = grow (putRow enc (Sort.ahead W k) blk off (pdq (ltOf fun i j : Nat => Tryz.cmpT (cs.getD i []) (cs.getD j [])) (Array.range cs.length) 0 cs.length (Lib.bitLen cs.length) true true).toList.toArray) os := by
  have eg : ∀ args w, (callFunc 75 args).run Tryz.prog w = .ok (.enter 75 args) w := enters_of Tryz.func75 (by kernel_rfl) rfl
  have hone : OneCell enc := fun i => by
    rcases (hL i).2 with ⟨A, cap, h, _⟩ | ⟨b, off, cap, h, _⟩ <;> rw [h] <;> rfl
  have hcmp : CmpLays1 Tryz.prog 75 #[] enc (fun i j : Nat => Tryz.cmpT (cs.getD i []) (cs.getD j [])) blk off (Array.range cs.length).size W := fun m os dk hdk i j => by
    have hW : ∀ b o, b ≠ blk → b < W.heap.size → (sortWorld enc W blk off m dk os).cell? ⟨b, o, none⟩ = W.cell? ⟨b, o, none⟩ := fun b o h1 h2 => by
      unfold sortWorld
      rw [cell?_grow _ _ _ (by rw [size_putRow]; exact h2), cell?_putRow_other enc _ blk off dk _ (Or.inl h1)]
      rfl
    obtain ⟨A, c, e1, x1⟩ := (hL i).at' hW
    obtain ⟨B, d, e2, x2⟩ := (hL j).at' hW
    have h := Tryz.compareC A B c d (cs.getD i []) (cs.getD j []) (sortWorld enc W blk off m dk os) (hL i).1 (hL j).1 x1 x2
    rw [e1, e2]
    refine h.mono ?_
    rintro e w' ⟨he, q, hw⟩
    exact ⟨he, q, #[], by rw [hw, grow_empty]⟩
  have h := Any.slices_SortFunc_eq Tryz.sortTup enc hone (fun i j : Nat => Tryz.cmpT (cs.getD i []) (cs.getD j [])) (Tryz.swoT fun i => cs.getD i []) 75 #[] blk off cap (Array.range cs.length) W eg hcmp hH hb (by simpa using hs)
  rw [Array.size_range] at h
  refine h.mono ?_
  rintro e w' ⟨he, n, os, hw⟩
  exact ⟨he, n, os, by rw [hw, sortWorld, Array.toArray_toList]⟩
theorem Tryz.sortTupNone (p : Option Addr) (cap : Nat) (W : World) : Calls Tryz.prog 109 #[.slice p 0 cap, .func (.func 75) #[] #[]] W fun e w' => e = .returned (.tuple #[]) ∧ w' = W :=
  AnyF.slices_SortFunc_none Tryz.sortTup0 p cap _ W
end Go.Proofs
