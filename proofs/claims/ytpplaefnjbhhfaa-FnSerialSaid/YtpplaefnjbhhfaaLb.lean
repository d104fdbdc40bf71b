import Derived.RangeFuncBox
import Derived.RangeFuncNested
import Derived.RangeFuncLeaves
import Derived.Shelf.Abstract
import Derived.WalkKit
import Derived.OwnWalkIn
import Derived.TacticsInMore
import Derived.LoopNIn
import Derived.LoopIn
import Derived.Maps.AppendAt
import Derived.Sort.OwnSortedInts
import Derived.Test.YtpplaefnjbhhfaaChecked
/- slices.Backward over acts, and the last Write of an item: what they do. -/
namespace Go.Proofs
open Go.RowKit Go.Shelf Go.Sort

attribute [local go_sem] Oper.semAt_some

abbrev Try.Act3 := Int × Int × Bool
abbrev Try.actVal (a : Try.Act3) : Value := .agg #[.int .i64 a.1, .int .i64 a.2.1, .bool a.2.2]
def Try.zAct : Try.Act3 := (0, 0, false)
def Try.actAt (zs : List Try.Act3) (j : Nat) : Try.Act3 := zs[j]?.getD Try.zAct
def Try.actCells (w : World) (b off : Nat) (zs : List Try.Act3) : Prop := ∀ j, j < zs.length → w.cell? ⟨b, off + j * 3, none⟩ = some (.int .i64 (Try.actAt zs j).1) ∧ w.cell? ⟨b, off + j * 3 + 1, none⟩ = some (.int .i64 (Try.actAt zs j).2.1) ∧ w.cell? ⟨b, off + j * 3 + 2, none⟩ = some (.bool (Try.actAt zs j).2.2)
def Try.backT (zs : List Try.Act3) (m : Nat) : List (Nat × Try.Act3) := ((List.range zs.length).drop m).reverse.map fun j => (j, Try.actAt zs j)
theorem Try.backT_step (zs : List Try.Act3) {j : Nat} (hj : j < zs.length) : Try.backT zs j = Try.backT zs (j + 1) ++ [(j, Try.actAt zs j)] := by
  have h : j < (List.range zs.length).length := by simpa using hj
  simp only [Try.backT]
  rw [List.drop_eq_getElem_cons h]
  simp
theorem Try.backT_top (zs : List Try.Act3) : Try.backT zs zs.length = [] := by simp [Try.backT]
theorem Try.backT_len (zs : List Try.Act3) (m : Nat) : (Try.backT zs m).length = zs.length - m := by simp [Try.backT]

set_option maxRecDepth 100000 in
set_option maxHeartbeats 2000000 in
theorem Try.backward1_in (F : Fence) (n : Nat) (h7 : F.fn 163) (hro : F.round = none) (hn : 1 ≤ n) (l Bs Bo n₀ b off cap : Nat) (zs : List Try.Act3) (hreach : zs.length * 24 ≤ 140737488351232) (hb : b < n₀) (J Jx : List (Nat × Try.Act3) → World → Prop)
    (hY : ∀ pre x W, J pre W → pre.length < zs.length → YieldAt F (n - 1) Try.prog l #[.int .i64 ((x.1 : Nat) : Int), Try.actVal x.2] W fun e W' =>
      (e = .returned (.bool true) ∧ J (pre ++ [x]) W' ∧ Below n₀ W W') ∨ (e = .returned (.bool false) ∧ Jx (pre ++ [x]) W'))
    (W : World) (hBs : W.cell? ⟨Bs, Bo, none⟩ = some (.slice (some ⟨b, off, none⟩) zs.length cap)) (hBn : Bs < n₀) (hc : Try.actCells W b off zs) (h0 : J [] W) :
    CallsIn F n Try.prog 163 #[.func (.yield l) #[] #[], .pointer (some ⟨Bs, Bo, none⟩)] W fun e W' => (∃ v, e = .returned v) ∧
      ((∃ ys, ys = Try.backT zs 0 ∧ J ys W') ∨ (∃ pre, (∃ m, m < zs.length ∧ pre = Try.backT zs m) ∧ Jx pre W')) := by
  refine callsIn_of_wp Try.func163 rfl h7 ?_ hro
  simp only [Try.ntmps163, List.size_toArray, List.length_cons, List.length_nil, Nat.reduceAdd, Nat.reduceSub, Array.replicate_succ, Array.replicate_zero, List.push_toArray, List.append_toArray, List.nil_append, List.cons_append]
  gi_wp2
  gi_loopw [3] (fun i wr => ∃ m : Nat, m ≤ zs.length ∧ i = .int .i64 ((m : Int) - 1) ∧ J (Try.backT zs m) wr ∧ Below n₀ W wr)
    (fun i _ => (intOf i + 1).toNat)
  case atStart => exact ⟨zs.length, Nat.le_refl _, by first | rfl | simp, by rw [Try.backT_top]; exact h0, Below.refl _ _⟩
  case round =>
    obtain ⟨m, hm, rfl, hJs, hnx⟩ := hrel
    have hBsx := (hnx.cell (p := ⟨Bs, Bo, none⟩) hBn).trans hBs
    by_cases hlt : 0 < m
    · obtain ⟨j, rfl⟩ : ∃ j, m = j + 1 := ⟨m - 1, by omega⟩
      have hj : j < zs.length := by omega
      have e0 : ((j + 1 : Nat) : Int) - 1 = (j : Int) := by omega
      rw [e0]
      obtain ⟨q0, q1, q2⟩ := hc j hj
      have c0 := (hnx.cell (p := ⟨b, off + j * 3, none⟩) hb).trans q0
      have c1 := (hnx.cell (p := ⟨b, off + j * 3 + 1, none⟩) hb).trans q1
      have c2 := (hnx.cell (p := ⟨b, off + j * 3 + 2, none⟩) hb).trans q2
      have hst := Try.backT_step zs hj
      obtain ⟨fn, tmps, assign, body, hy, hR⟩ := hY _ (j, Try.actAt zs j) wr hJs (by rw [Try.backT_len]; omega)
      gi_wp2
      refine hR.mono ?_
      rintro e W3 (⟨rfl, hJ3, hk3⟩ | ⟨rfl, hJx3⟩)
      · gi_wp2
        go_roundw
        case rel => exact ⟨j, by omega, rfl, by rw [hst]; exact hJ3, hnx.trans hk3⟩
        case measure => first | (simp [intOf]; omega) | simp [intOf]
      · gi_wp2
        refine bodyPost_ret (results_none rfl _ _ _) rfl ?_
        exact ⟨⟨_, rfl⟩, .inr ⟨_, ⟨j, hj, hst.symm⟩, hJx3⟩⟩
    · obtain rfl : m = 0 := by omega
      gi_wp2
      go_end0
      exact ⟨⟨_, rfl⟩, .inl ⟨_, rfl, hJs⟩⟩

def Try.Acts (n₀ : Nat) (W : World) (sv : Value) (zs : List Try.Act3) : Prop :=
  (∃ A cap, sv = .slice A 0 cap ∧ zs = []) ∨ ∃ b off cap, sv = .slice (some ⟨b, off, none⟩) zs.length cap ∧ b < n₀ ∧ Try.actCells W b off zs
theorem Try.Acts.below {n₀ : Nat} {A B : World} (h : Below n₀ A B) {sv : Value} {zs : List Try.Act3} : Try.Acts n₀ A sv zs → Try.Acts n₀ B sv zs
  | .inl e => .inl e
  | .inr ⟨b, off, cap, e, hb, hc⟩ => .inr ⟨b, off, cap, e, hb, fun j hj => by
    obtain ⟨q0, q1, q2⟩ := hc j hj
    exact ⟨(h.cell (p := ⟨b, off + j * 3, none⟩) hb).trans q0, (h.cell (p := ⟨b, off + j * 3 + 1, none⟩) hb).trans q1, (h.cell (p := ⟨b, off + j * 3 + 2, none⟩) hb).trans q2⟩⟩

set_option maxRecDepth 100000 in
set_option maxHeartbeats 1000000 in
theorem Try.backward1_nil_in (F : Fence) (n : Nat) (h7 : F.fn 163) (hro : F.round = none) (A : Option Addr) (cap : Nat) (l Bs Bo : Nat) (J : List (Nat × Try.Act3) → World → Prop) (W : World) (hBs : W.cell? ⟨Bs, Bo, none⟩ = some (.slice A 0 cap)) (h0 : J [] W) :
    CallsIn F n Try.prog 163 #[.func (.yield l) #[] #[], .pointer (some ⟨Bs, Bo, none⟩)] W fun e W' => (∃ v, e = .returned v) ∧ J [] W' := by
  refine callsIn_of_wp Try.func163 rfl h7 ?_ hro
  simp only [Try.ntmps163, List.size_toArray, List.length_cons, List.length_nil, Nat.reduceAdd, Nat.reduceSub, Array.replicate_succ, Array.replicate_zero, List.push_toArray, List.append_toArray, List.nil_append, List.cons_append]
  gi_wp2
  gi_loopw [3] (fun i wr => i = .int .i64 (-1) ∧ J [] wr) (fun _ _ => 0)
  case atStart => exact ⟨rfl, h0⟩
  case round =>
    obtain ⟨rfl, hJs⟩ := hrel
    gi_wp2
    go_end0
    exact ⟨⟨_, rfl⟩, hJs⟩

set_option maxHeartbeats 1000000 in
theorem Try.backward_in (F : Fence) (n : Nat) (h5 : F.fn 134) (hro : F.round = none) (a : Option Addr) (len cap : Nat) (w : World) :
    CallsIn F n Try.prog 134 #[.slice a len cap] w fun e w' => e = .returned (.func (.func 163) #[] #[.pointer (some ⟨w.heap.size, 0, none⟩)]) ∧ w' = w.alloc (.cells #[.slice a len cap] 23) := by
  refine callsIn_of_wp Try.func134 rfl h5 ?_ hro
  simp only [Try.ntmps134, List.size_toArray, List.length_cons, List.length_nil, Nat.reduceAdd, Nat.reduceSub, Array.replicate_succ, Array.replicate_zero, List.push_toArray, List.append_toArray, List.nil_append, List.cons_append]
  gi_wp2
  go_ret
  exact ⟨rfl, rfl⟩

theorem Try.backward_stops (F : Fence) (n : Nat) (h7 : F.fn 163) (hro : F.round = none) (hn : 1 ≤ n) (Bs Bo n₀ : Nat) (sv : Value) (zs : List Try.Act3) (hreach : zs.length * 24 ≤ 140737488351232) (w : World) (hBs : Bs < w.heap.size) (hBn : Bs < n₀) (hn₀ : n₀ ≤ w.heap.size)
    (hc : w.cell? ⟨Bs, Bo, none⟩ = some sv) (hI : Try.Acts n₀ w sv zs) :
    SeqStopsK F n Try.prog 163 #[.pointer (some ⟨Bs, Bo, none⟩)] (fun x : Nat × Try.Act3 => #[Value.int .i64 ((x.1 : Nat) : Int), Try.actVal x.2]) (Below n₀) (fun ys => ys = Try.backT zs 0) (fun pre => ∃ m, m < zs.length ∧ pre = Try.backT zs m) zs.length w := fun l J Jx W hW _ _ hY h0 => by
  have hc' := (hW.cell (p := ⟨Bs, Bo, none⟩) hBs).trans hc
  rcases hI.below (hW.mono hn₀) with ⟨A, cap, rfl, rfl⟩ | ⟨b, off, cap, rfl, hb, hcs⟩
  · exact (Try.backward1_nil_in F n h7 hro A cap l Bs Bo J W hc' h0).mono fun e W' ⟨he, hj⟩ => ⟨he, .inl ⟨_, rfl, hj⟩⟩
  · exact (Try.backward1_in F n h7 hro hn l Bs Bo n₀ b off cap zs hreach hb J Jx hY W hc' hBn hcs h0).mono fun e W' h => h

theorem Try.Acts.wide {n₀ n₁ : Nat} (h : n₀ ≤ n₁) {W : World} {sv : Value} {zs : List Try.Act3} : Try.Acts n₀ W sv zs → Try.Acts n₁ W sv zs
  | .inl e => .inl e
  | .inr ⟨b, off, cap, e, hb, hc⟩ => .inr ⟨b, off, cap, e, by omega, hc⟩
def Try.isWr (a : Try.Act3) (x : Int) : Bool := a.2.2 && decide (a.2.1 = x)
def Try.lastIs (zs : List Try.Act3) (x r : Int) : Prop := (r = -1 ∧ ∀ q, q < zs.length → Try.isWr (Try.actAt zs q) x = false) ∨ ∃ k : Nat, k < zs.length ∧ r = k ∧ Try.isWr (Try.actAt zs k) x = true ∧ ∀ q, k < q → q < zs.length → Try.isWr (Try.actAt zs q) x = false
theorem Try.backT_mem {zs : List Try.Act3} {m q : Nat} (h1 : m ≤ q) (h2 : q < zs.length) : (q, Try.actAt zs q) ∈ Try.backT zs m := by
  simp only [Try.backT, List.mem_map, List.mem_reverse]
  refine ⟨q, ?_, rfl⟩
  rw [List.mem_drop_iff_getElem]
  exact ⟨q - m, by simp; omega, by simp; omega⟩

set_option maxRecDepth 100000 in
set_option maxHeartbeats 2000000 in
theorem Try.lastWrite_in (F : Fence) (n : Nat) (h4 : F.fn 73) (h6 : F.fn 134) (h8 : F.fn 163) (hro : F.round = none) (hn : 3 ≤ n) (a : Option Addr) (len cap : Nat) (zs : List Try.Act3) (x0 : Int) (hreach : zs.length * 24 ≤ 140737488351232) (w : World) (hI : Try.Acts w.heap.size w (.slice a len cap) zs) :
    CallsIn F n Try.prog 73 #[.slice a len cap, .int .i64 x0] w fun e W' => (∃ r, e = .returned (.int .i64 r) ∧ Try.lastIs zs x0 r) ∧ Below w.heap.size w W' := by
  have h1 : 1 ≤ n := by omega
  refine callsIn_of_wp_marks Try.func73 rfl h4 ?_ hro
  simp only [Try.ntmps73, List.size_toArray, List.length_cons, List.length_nil, Nat.reduceAdd, Nat.reduceSub, Array.replicate_succ, Array.replicate_zero, List.push_toArray, List.append_toArray, List.nil_append, List.cons_append]
  gi_wp2_with (gi_at_call 134; refine (Try.backward_in F (n - 1) h6 hro _ _ _ _).mono ?_; rintro e w' ⟨rfl, rfl⟩)
  have bI := Boxed.new w 3 (.int .i64 x0)
  have bR := Boxed.new (w.alloc (.cells #[.int .i64 x0] 3)) 3 (.int .i64 0)
  have bN := Boxed.new ((w.alloc (.cells #[.int .i64 x0] 3)).alloc (.cells #[.int .i64 0] 3)) 23 (.slice a len cap)
  rw [World.size_alloc] at bR bN
  rw [World.size_alloc] at bN
  have hB0 : Below w.heap.size w (((w.alloc (.cells #[.int .i64 x0] 3)).alloc (.cells #[.int .i64 0] 3)).alloc (.cells #[.slice a len cap] 23)) := (((Below.refl _ w).alloc (Nat.le_refl _) _).alloc (by simp) _).alloc (by simp; omega) _
  refine wpIn_rangeFunc_ownH hro h1 (gf := 163) (lb := #[.pointer (some ⟨w.heap.size + 1 + 1, 0, none⟩)]) rfl h8 (enters_of Try.func163 (by kernel_rfl) rfl)
    (Try.backward_stops F (n - 1) h8 hro (by omega) (w.heap.size + 1 + 1) 0 (w.heap.size + 1 + 1 + 1) _ zs hreach _ (by simp) (by omega) (by simp) bN.cell ((hI.below hB0).wide (by omega))) belowK_t (belowK_b (by simp)) (Below.refl _ _) (fun _ => rfl)
    (fun pre W => ((∀ p ∈ pre, Try.isWr p.2 x0 = false) ∧ W.cell? ⟨w.heap.size + 1, 0, none⟩ = some (.int .i64 0) ∧ W.frozen? ⟨w.heap.size + 1, 0, none⟩ = false ∧ W.cell? ⟨w.heap.size, 0, none⟩ = some (.int .i64 x0)) ∧ Below (w.heap.size + 1 + 1 + 1) (((w.alloc (.cells #[.int .i64 x0] 3)).alloc (.cells #[.int .i64 0] 3)).alloc (.cells #[.slice a len cap] 23)) W)
    (fun c pre W => (c = .ret ∧ ∃ ini last, pre = ini ++ [last] ∧ (∀ p ∈ ini, Try.isWr p.2 x0 = false) ∧ Try.isWr last.2 x0 = true ∧ W.cell? ⟨w.heap.size + 1, 0, none⟩ = some (.int .i64 (last.1 : Int))) ∧ Below w.heap.size w W)
    (OwnFrom.and (Own.from (fun s A B row hs hg hr => ⟨hs.1, cell_kept hs.2.1 hg hr, (frozen_kept hs.2.1 hg hr).trans hs.2.2.1, cell_kept hs.2.2.2 hg hr⟩) _) (ownFrom_below (by simp) (by simp)))
    (fun c => OwnFrom.and (Own.from (fun s A B row hs hg hr => by obtain ⟨hc, ini, last, e1, e2, e3, e4⟩ := hs; exact ⟨hc, ini, last, e1, e2, e3, cell_kept e4 hg hr⟩) _) (ownFrom_below (Nat.le_refl _) (by simp; omega)))
    ⟨⟨by simp, (bR.alloc _).cell, (bR.alloc _).frozen, ((bI.alloc _).alloc _).cell⟩, Below.refl _ _⟩
    (fun x a' W => ∃ g, a' = { tmps := #[.slice a len cap, .int .i64 x0, undef, .pointer (some ⟨w.heap.size, 0, none⟩), .pointer (some ⟨w.heap.size + 1, 0, none⟩), .int .i64 ((x.1 : Nat) : Int), .pointer (some ⟨g, 0, none⟩), .slice a len cap, .func (.func 163) #[] #[.pointer (some ⟨w.heap.size + 1 + 1, 0, none⟩)], .int .i64 ((x.1 : Nat) : Int), Try.actVal x.2, undef, undef, undef, undef, undef, undef, undef, undef, undef], defers := [] } ∧ W.cell? ⟨g, 1, none⟩ = some (.int .i64 x.2.2.1) ∧ W.cell? ⟨g, 2, none⟩ = some (.bool x.2.2.2))
    (fun x a' => Own.from (fun s A B row hs hg hr => by obtain ⟨g, e, c1, c2⟩ := hs; exact ⟨g, e, cell_kept c1 hg hr, cell_kept c2 hg hr⟩) _) ?assign ?body ?done ?stop
  case assign =>
    intro l pre x W K hI hK
    gi_wp2
    obtain ⟨⟨hp, hcr, hfr, hxr⟩, hB⟩ := hI
    have hz : w.heap.size + 1 + 1 + 1 ≤ W.heap.size := by have := hB.size; simpa using this
    have hA := World.grownBy_alloc W (.cells #[Value.int .i64 x.2.1, Value.int .i64 x.2.2.1, Value.bool x.2.2.2] 90) none
    have hb2 : Below (w.heap.size + 1 + 1 + 1) W (W.alloc (.cells #[Value.int .i64 x.2.1, Value.int .i64 x.2.2.1, Value.bool x.2.2.2] 90)) := (Below.refl _ W).alloc hz _
    have hnew := World.alloc_heap_new W (.cells #[Value.int .i64 x.2.1, Value.int .i64 x.2.2.1, Value.bool x.2.2.2] 90)
    refine hK _ _ (KeepsFrom.of_grownBy hA (by simp)) hb2 ⟨⟨hp, cell_kept hcr hA (by simp), (frozen_kept hcr hA (by simp)).trans hfr, cell_kept hxr hA (by simp)⟩, hB.trans hb2⟩ ⟨W.heap.size, rfl, ?_, ?_⟩
    · simp only [World.cell?, hnew]; rfl
    · simp only [World.cell?, hnew]; rfl
  case body =>
    rintro l pre x a' W hl _ ⟨⟨hp, hcr, hfr, hxr⟩, hB⟩ ⟨g, rfl, c1, c2⟩ _
    have hBw : Below w.heap.size w W := hB0.trans (hB.mono (by omega))
    cases hw : x.2.2.2 with
    | false =>
      rw [hw] at c2
      gi_wp2
      exact ⟨KeepsFrom.refl _ _, Below.refl _ _, ⟨fun p hp' => (List.mem_append.1 hp').elim (hp p) (fun e => by simp at e; subst e; rw [Try.isWr, hw]; rfl), hcr, hfr, hxr⟩, hB⟩
    | true =>
      rw [hw] at c2
      by_cases hi : x.2.2.1 = x0
      · gi_wp2
        exact ⟨(KeepsOthers.setCell _ _ _).from _, ⟨rfl, pre, x, rfl, hp, by rw [Try.isWr, hw, hi]; simp, World.cell?_setCell_same' _ _ _ (by rw [hcr]; rfl)⟩, hBw.setCell (p := ⟨w.heap.size + 1, 0, none⟩) (by simp) _⟩
      · gi_wp2
        exact ⟨KeepsFrom.refl _ _, Below.refl _ _, ⟨fun p hp' => (List.mem_append.1 hp').elim (hp p) (fun e => by simp at e; subst e; rw [Try.isWr, hw]; simp [hi]), hcr, hfr, hxr⟩, hB⟩
  case done =>
    rintro D ys W hD rfl ⟨⟨hne, hcr, hfr, hxr⟩, hB'⟩ hK
    have hB : Below w.heap.size w W := hB0.trans (hB'.mono (by omega))
    gi_wp2
    have hK' := (KeepsOthers.setCell W ⟨w.heap.size + 1, 0, none⟩ (.int .i64 (-1))).same D _ hK rfl
    refine ⟨by simp, .inl ⟨_, _, rfl, run_takeDeferred hK', ?_⟩⟩
    have hc5 := cell_kept (World.cell?_setCell_same' W ⟨w.heap.size + 1, 0, none⟩ (.int .i64 (-1)) (by rw [hcr]; rfl)) (grownBy_putObj' _ D (.deferred none)) (fun r e => by cases e; exact ⟨_, hK', rfl⟩)
    refine ⟨.int .i64 (-1), ?_, ⟨_, rfl, .inl ⟨rfl, fun j hj => hne (j, Try.actAt zs j) (Try.backT_mem (Nat.zero_le _) hj)⟩⟩, (hB.setCell (p := ⟨w.heap.size + 1, 0, none⟩) (by simp) _).trans (belowK_b (w := w) (Nat.le_refl _) _ D _ _ (by simp at hD; omega) hK' rfl rfl)⟩
    simp [results, Try.f73, go_sem, hc5]
  case stop =>
    rintro D c pre W hD ⟨m, hm, rfl⟩ ⟨⟨rfl, ini, last, e1, e2, e3, hcr⟩, hB⟩ hK
    gi_wp2
    refine ⟨by simp, .inl ⟨_, _, rfl, run_takeDeferred hK, ?_⟩⟩
    have hc5 := cell_kept hcr (grownBy_putObj' _ D (.deferred none)) (fun r e => by cases e; exact ⟨_, hK, rfl⟩)
    rw [Try.backT_step zs hm] at e1
    obtain ⟨rfl, e5⟩ := List.append_inj' e1 rfl
    obtain rfl : (m, Try.actAt zs m) = last := by simpa using e5
    refine ⟨.int .i64 (m : Int), ?_, ⟨_, rfl, .inr ⟨m, hm, rfl, e3, fun q h1 h2 => e2 (q, Try.actAt zs q) (Try.backT_mem h1 h2)⟩⟩, hB.trans (belowK_b (w := w) (Nat.le_refl _) W D _ _ (by simp at hD; omega) hK rfl rfl)⟩
    simp [results, Try.f73, go_sem, hc5]

/-- the last Write of an item: its number, or -1. -/
theorem Try.lastWriteC (sv : Value) (zs : List Try.Act3) (x0 : Int) (w : World) (hlen : zs.length ≤ 1099511627776)
    (hI : (∃ A cap, sv = .slice A 0 cap ∧ zs = []) ∨ ∃ b off cap, sv = .slice (some ⟨b, off, none⟩) zs.length cap ∧ b < w.heap.size ∧ Try.actCells w b off zs) :
    Calls Try.prog 73 #[sv, .int .i64 x0] w fun e W' => (∃ r, e = .returned (.int .i64 r) ∧ Try.lastIs zs x0 r) ∧ Below w.heap.size w W' := by
  have hr : zs.length * 24 ≤ 140737488351232 := by omega
  obtain ⟨a, len, cap, rfl⟩ : ∃ a len cap, sv = .slice a len cap := by
    rcases hI with ⟨A, cap, rfl, _⟩ | ⟨b, off, cap, rfl, _⟩
    · exact ⟨_, _, _, rfl⟩
    · exact ⟨_, _, _, rfl⟩
  exact (callsIn_wide (n := 6)).1 (Try.lastWrite_in Fence.wide 6 trivial trivial trivial rfl (by omega) a len cap zs x0 hr w hI)
end Go.Proofs
