import Derived.Shelf.SlSortCmp.NoneTotal
import Derived.Lib.Strings
import Derived.Lib.Slices
import Derived.Lib.Small
import Derived.Lib.Walk
import Derived.Test.YtflbkhbfbcbcoaaLv
/- slices.SortFunc at values: a new order of what the slice holds, told by the program's own comparison. -/
namespace Go.Proofs
open Go.RowKit Go.Shelf Go.Sort

set_option maxHeartbeats 1000000 in
/-- which of two numbers is less -/
theorem Try.cmp_Compare_int (x y : Int) (w : World) :
    Calls Try.prog 127 #[.int .i64 x, .int .i64 y] w fun e w' => e = .returned (.int .i64 (Lib.compareInt x y)) ∧ w' = w := by
  go_enter Try.func127, Try.ntmps127
  go_wp2
  all_goals (go_ret; refine ⟨?_, rfl⟩; unfold Lib.compareInt; (repeat' split) <;> first | rfl | (exfalso; omega))


abbrev Try.Val2 := Bool × Int
def Try.encV (z : Try.Val2) : List Value := [.bool z.1, .int .i64 z.2]
def Try.cmpW (a b : Try.Val2) : Int := if a.1 = b.1 then Lib.compareInt a.2 b.2 else if a.1 = true then -1 else 1
theorem Try.cmpInt_lt (x y : Int) : Lib.compareInt x y < 0 ↔ x < y := by
  unfold Lib.compareInt
  by_cases h1 : x < y
  · simp [h1]
  · by_cases h2 : y < x
    · simp [h1, h2]
    · simp [h1, h2]
theorem Try.ltW (x y : Try.Val2) : ltOf Try.cmpW x y = true ↔ (x.1 = y.1 ∧ x.2 < y.2) ∨ (x.1 = true ∧ y.1 = false) := by
  obtain ⟨a, m⟩ := x
  obtain ⟨b, n⟩ := y
  simp only [ltOf, Try.cmpW, decide_eq_true_eq]
  cases a <;> cases b <;> simp [Try.cmpInt_lt]
theorem Try.ltW_no (x y : Try.Val2) : ltOf Try.cmpW x y = false ↔ (x.1 = y.1 ∧ y.2 ≤ x.2) ∨ (x.1 = false ∧ y.1 = true) := by
  have h := Try.ltW x y
  obtain ⟨a, m⟩ := x
  obtain ⟨b, n⟩ := y
  cases he : ltOf Try.cmpW (a, m) (b, n) with
  | true =>
    rw [he] at h
    have h' := h.1 rfl
    cases a <;> cases b <;> simp at h' ⊢ <;> omega
  | false =>
    rw [he] at h
    simp only [Bool.false_eq_true, false_iff] at h
    cases a <;> cases b <;> simp at h ⊢ <;> omega
theorem Try.swoW : SWO (ltOf Try.cmpW) where
  irrefl x := by rw [Try.ltW_no]; simp
  trans x y z h1 h2 := by
    rw [Try.ltW] at *
    obtain ⟨a, m⟩ := x
    obtain ⟨b, n⟩ := y
    obtain ⟨c, k⟩ := z
    cases a <;> cases b <;> cases c <;> simp at * <;> omega
  ntrans x y z h1 h2 := by
    rw [Try.ltW_no] at *
    obtain ⟨a, m⟩ := x
    obtain ⟨b, n⟩ := y
    obtain ⟨c, k⟩ := z
    cases a <;> cases b <;> cases c <;> simp at * <;> omega
theorem Try.totW (x y : Try.Val2) (h1 : ltOf Try.cmpW x y = false) (h2 : ltOf Try.cmpW y x = false) : x = y := by
  rw [Try.ltW_no] at h1 h2
  obtain ⟨a, m⟩ := x
  obtain ⟨b, n⟩ := y
  cases a <;> cases b <;> simp at * <;> omega

set_option maxHeartbeats 1000000 in
theorem Try.cmpValC (x y : Try.Val2) (W : World) : Calls Try.prog 126 #[.agg #[.bool x.1, .int .i64 x.2], .agg #[.bool y.1, .int .i64 y.2]] W fun e w' => e = .returned (.int .i64 (Try.cmpW x y)) ∧ ∃ q os', w' = grow (W.drewN q) os' := by
  have hcon := fun W' => Try.cmp_Compare_int x.2 y.2 W'
  obtain ⟨a, m⟩ := x
  obtain ⟨b, n⟩ := y
  simp only at hcon ⊢
  cases a <;> cases b <;> simp only [Try.cmpW, if_true, if_false, Bool.false_eq_true, Bool.true_eq_false, reduceCtorEq]
  · generalize Lib.compareInt m n = r at hcon ⊢
    go_enter Try.func126, Try.ntmps126
    go_wp2_with (go_at_call 127; refine (hcon _).mono ?_; rintro e w' ⟨rfl, rfl⟩)
    go_ret
    exact ⟨rfl, 0, _, by rw [alloc_eq_grow, alloc_eq_grow, grow_grow]; rfl⟩
  · go_enter Try.func126, Try.ntmps126
    go_wp2
    go_ret
    exact ⟨rfl, 0, _, by rw [alloc_eq_grow, alloc_eq_grow, grow_grow]; rfl⟩
  · go_enter Try.func126, Try.ntmps126
    go_wp2
    go_ret
    exact ⟨rfl, 0, _, by rw [alloc_eq_grow, alloc_eq_grow, grow_grow]; rfl⟩
  · generalize Lib.compareInt m n = r at hcon ⊢
    go_enter Try.func126, Try.ntmps126
    go_wp2_with (go_at_call 127; refine (hcon _).mono ?_; rintro e w' ⟨rfl, rfl⟩)
    go_ret
    exact ⟨rfl, 0, _, by rw [alloc_eq_grow, alloc_eq_grow, grow_grow]; rfl⟩
theorem Try.flatW (zs : List Try.Val2) : flatK Try.encV 2 zs.toArray = (zs.flatMap Try.encV).toArray := by
  have hs : ∀ zs : List Try.Val2, (zs.flatMap Try.encV).length = 2 * zs.length := by
    intro zs
    induction zs with
    | nil => rfl
    | cons z zs ih => simp only [Try.encV, List.flatMap_cons, List.length_append, List.length_cons, List.length_nil] at *; omega
  have hg : ∀ (zs : List Try.Val2) (i : Nat), i < 2 * zs.length → (zs.flatMap Try.encV)[i]? = (Try.encV (zs[i / 2]?.getD default))[i % 2]? := by
    intro zs
    induction zs with
    | nil => intro i hi; simp at hi
    | cons z zs ih =>
      intro i hi
      have e : (z :: zs).flatMap Try.encV = .bool z.1 :: .int .i64 z.2 :: zs.flatMap Try.encV := rfl
      rw [e]
      match i, hi with
      | 0, _ => rfl
      | 1, _ => rfl
      | i + 2, hi =>
        have := ih i (by simp at hi; omega)
        rw [show (i + 2) / 2 = i / 2 + 1 by omega, show (i + 2) % 2 = i % 2 by omega]
        simpa using this
  apply Array.ext
  · rw [size_flatK, List.size_toArray, List.size_toArray, hs]; omega
  · intro i h1 h2
    rw [size_flatK, List.size_toArray] at h1
    have q := get_flatK Try.encV 2 zs.toArray i (by simpa using h1)
    rw [getElem!_pos _ i (by rw [size_flatK]; simpa using h1)] at q
    rw [q]
    have hz := hg zs i (by omega)
    have hi2 : i / 2 < zs.length := by omega
    rw [List.getElem_toArray]
    have hl : i < (zs.flatMap Try.encV).length := by rw [hs]; omega
    rw [List.getElem?_eq_getElem hl, List.getElem?_eq_getElem hi2] at hz
    rw [getElem!_pos zs.toArray (i / 2) (by simpa using hi2), List.getElem_toArray]
    simp only [Option.getD_some] at hz
    have hm : i % 2 = 0 ∨ i % 2 = 1 := by omega
    rcases hm with hm | hm <;> rw [hm] at hz ⊢ <;> simp [Try.encV] at hz ⊢ <;> exact hz.symm
theorem Try.sortValC (blk off cap : Nat) (zs : List Try.Val2) (W : World) (hH : Holds id W blk off (zs.flatMap Try.encV).toArray) (hb : blk < W.heap.size) (hs : zs.length < 4611686018427387904) :
    Calls Try.prog 125 #[.slice (some ⟨blk, off, none⟩) zs.length cap, .func (.func 126) #[] #[]] W fun e w' => e = .returned (.tuple #[]) ∧ ∃ k os, w' = grow (putRow id (Sort.ahead W k) blk off ((zs.mergeSort fun x y => !(ltOf Try.cmpW y x)).flatMap Try.encV).toArray) os := by
  have eg : ∀ args w, (callFunc 126 args).run Try.prog w = .ok (.enter 126 args) w := enters_of Try.func126 (by kernel_rfl) rfl
  have h := AnyQ.slices_SortFunc_total Try.sortVal 2 Try.isAgg33 Try.sizeOf33 Try.encV (fun _ => rfl) (fun x v hv => by simp [Try.encV] at hv; rcases hv with rfl | rfl <;> rfl) Try.cmpW Try.swoW 126 #[] blk off cap zs.toArray W eg (fun _ _ _ _ x y => Try.cmpValC x y _) (by unfold HoldsK; rw [Try.flatW]; exact hH) hb (by simpa using hs) Try.totW
  refine h.mono ?_
  rintro e w' ⟨he, n, os, hw⟩
  refine ⟨he, n, os, ?_⟩
  rw [hw, sortWorldK, putRowK, Try.flatW]
theorem Try.sortValNone (p : Option Addr) (cap : Nat) (W : World) : Calls Try.prog 125 #[.slice p 0 cap, .func (.func 126) #[] #[]] W fun e w' => e = .returned (.tuple #[]) ∧ w' = W :=
  AnyF.slices_SortFunc_none Try.sortVal p cap _ W
end Go.Proofs
