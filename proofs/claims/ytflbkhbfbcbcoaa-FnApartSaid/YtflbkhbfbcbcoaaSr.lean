import Derived.Test.YtflbkhbfbcbcoaaGlK
import Derived.Test.YtflbkhbfbcbcoaaChecked
import Derived.WalkKit
import Derived.Lib.Walk
import Derived.Lib.AppendZeros
import Derived.Lib.Overlaps
import Derived.Deep.RegionLaw
import Derived.Laws.IdiomCopy
import Derived.Laws.Externs
/- slices.Replace of one list by two: its walk, turned from the kit's slices.Insert. -/
set_option linter.unusedSimpArgs false
set_option linter.unusedVariables false
namespace Go.Proofs
open Go.RowKit Go.Lib

theorem Try.wp_copyQ {P : Program} (w : World) {o : Oper} {a : Act} {K : Act → World → Prop} {Q : Exit → Act → World → Prop} (d s : Operand) (t t' : TypeId)
    (ho : o.op = .call { callee := .builtin .copy, args := #[d, s], argTypes := #[t, t'] }) (v u : Value) (hd : a.eval d = v) (hs : a.eval s = u) {v' : Value} {w' : World}
    (hr : (Builtin.copy_ #[t, t'] o.type #[v, u]).run P w = .ok v' w') (h : K (a.put o.dst v') w') : o.wp P a w K Q := by
  unfold Oper.wp execOp
  simp only [ho, resolve, invoke, builtin, Sem.run_bind, Sem.run_pure, Result.andThen_ok, List.map_toArray, List.map_cons, List.map_nil, hd, hs, hr]
  exact h
theorem Try.wpList_copyQ {P : Program} (w : World) {ops : Array Oper} {rest : List Oper} {o : Oper} {a : Act} {Q : Exit → Act → World → Prop} (hgd : o.guard = none) (d s : Operand) (t t' : TypeId)
    (ho : o.op = .call { callee := .builtin .copy, args := #[d, s], argTypes := #[t, t'] }) (v u : Value) (hd : a.eval d = v) (hs : a.eval s = u) {v' : Value} {w' : World}
    (hr : (Builtin.copy_ #[t, t'] o.type #[v, u]).run P w = .ok v' w') (h : wpList P ops Q rest (a.put o.dst v') w') : wpList P ops Q (o :: rest) a w :=
  wpList_plain hgd fun _ hK => Try.wp_copyQ w d s t t' ho v u hd hs hr (hK _ _ h)
theorem Try.step_copyQ {P : Program} {ops : Array Oper} {o : Oper} {a : Act} {w : World} {K : Act → World → Prop} {Q : Exit → Act → World → Prop} {E : Prop}
    (hg : o.guard = none) (d x : Operand) (dT sT : TypeId) (hop : o.op = Op.call { callee := Callee.builtin Builtin.copy, args := #[d, x], argTypes := #[dT, sT] })
    (v u : Value) (hd : a.eval d = v) (hx : a.eval x = u) {v' : Value} {w' : World} (hr : (Builtin.copy_ #[dT, sT] o.type #[v, u]).run P w = .ok v' w') (hK : K (a.put o.dst v') w') :
    if Region.wanted o (yielded ops a.tmps) = true then Oper.wp P o a w K Q else E := by
  have hw : Region.wanted o (yielded ops a.tmps) = true := by simp [Region.wanted, hg]
  rw [if_pos hw]
  unfold Oper.wp
  simp [execOp, hop, resolve, invoke, builtin, hd, hx, hr, Result.andThen]
  exact hK


set_option maxHeartbeats 1000000 in
set_option maxRecDepth 100000 in
theorem Try.repEnd (A V B : Addr) (i c G vc : Nat) (w w1 : World) (hn : i + 1 ≤ c) (hnb : i ≤ 1048576)
    (hrun : (Builtin.append_ #[66, 66] 66 #[.slice (some A) i c, .slice (some V) 2 vc]).run Try.prog w = .ok (.slice (some B) (i + 2) G) w1) :
    Calls Try.prog 100 #[.slice (some A) (i + 1) c, .int .i64 i, .int .i64 ((i + 1 : Nat) : Int), .slice (some V) 2 vc] w fun e w' => e = .returned (.slice (some B) (i + 2) G) ∧ w' = w1 := by
  have h1 : ¬ ((i : Int) = ((i + 1 : Nat) : Int)) := by omega
  have h2 : ¬ (((i + 2 : Nat) : Int) < ((i + 1 : Nat) : Int)) := by omega
  have h3 : (i : Int) ≤ ((i + 1 : Nat) : Int) := by omega
  have h4 : ((i + 1 : Nat) : Int) ≤ (c : Int) := by omega
  go_enter Try.func100, Try.ntmps100
  go_wp2_with (at_builtin; refine Lib.wpList_append_run _ rfl _ _ _ _ rfl _ _ rfl rfl _ _ hrun ?_)
  all_goals (go_ret; exact ⟨rfl, rfl⟩)

set_option maxHeartbeats 1000000 in
set_option maxRecDepth 100000 in
theorem Try.repGrow (cb co i N G : Nat) (V : Addr) (n c vc : Nat) (w w1 w2 w3 : World) (hi : i + 1 < n) (hn : n ≤ c) (hroom : c < n + 1) (hnb : n ≤ 1048576) (hG : n + 1 ≤ G)
    (hrz : (Builtin.append_ #[66, 3] 66 #[.slice (some ⟨cb, co, none⟩) i c, .int .i64 ((n : Int) + 1 - i)]).run Try.prog w.drew = .ok (.slice (some ⟨N, 0, none⟩) (n + 1) G) w1)
    (hcA : (Builtin.copy_ #[66, 66] 3 #[.slice (some ⟨N, i, none⟩) (n + 1 - i) (G - i), .slice (some V) 2 vc]).run Try.prog w1 = .ok (goInt 2) w2)
    (hcB : (Builtin.copy_ #[66, 66] 3 #[.slice (some ⟨N, i + 2, none⟩) (n + 1 - (i + 2)) (G - (i + 2)), .slice (some ⟨cb, co + (i + 1), none⟩) (n - (i + 1)) (c - (i + 1))]).run Try.prog w2.drew = .ok (goInt ((n - (i + 1) : Nat) : Int)) w3) :
    Calls Try.prog 100 #[.slice (some ⟨cb, co, none⟩) n c, .int .i64 i, .int .i64 ((i + 1 : Nat) : Int), .slice (some V) 2 vc] w fun e w' => e = .returned (.slice (some ⟨N, 0, none⟩) (n + 1) G) ∧ w' = w3 := by
  have h1 : ¬ ((i : Int) = ((i + 1 : Nat) : Int)) := by omega
  have h2 : ¬ (((i + 1 : Nat) : Int) = (n : Int)) := by omega
  have h3 : (i : Int) ≤ ((i + 1 : Nat) : Int) := by omega
  have h4 : ((i + 1 : Nat) : Int) ≤ (n : Int) := by omega
  have h5 : (i : Int) ≤ (n : Int) := by omega
  have hci : ¬ (c = i + 1) := by omega
  have hc0 : ¬ (c = i) := by omega
  have hGi : ¬ (G = i) := by omega
  have hG2 : ¬ (G = i + 2) := by omega
  have h6 : (c : Int) < (n : Int) + 1 := by omega
  have h7 : (0 : Int) ≤ (i : Int) + 1 := by omega
  have h8 : (i : Int) + 1 ≤ (n : Int) := by omega
  have htot : (i : Int) + 2 + ((n - (i + 1) : Nat) : Int) = (n : Int) + 1 := by omega
  have hw1 : IntKind.i64.wrap ((i : Int) + 2) = (i : Int) + 2 := by rw [IntKind.wrap_i64]; omega
  have hb1 : (0 : Int) ≤ (i : Int) + 2 := by omega
  have htn : ((i : Int) + 2).toNat = i + 2 := by omega
  have hb2 : (i : Int) + 2 ≤ (n : Int) + 1 := by omega
  go_enter Try.func100, Try.ntmps100
  go_wp2
  go_region
  go_wp2_with (first
    | (at_builtin; refine Lib.wpList_append_run _ rfl _ _ _ _ rfl _ _ rfl rfl _ _ hrz ?_)
    | (refine Try.wpList_copyQ _ rfl _ _ 66 66 rfl _ _ rfl rfl hcA ?_))
  go_region_law (refine Try.step_copyQ rfl _ _ 66 66 rfl (.slice (some ⟨N, i + 2, none⟩) (n + 1 - (i + 2)) (G - (i + 2))) (.slice (some ⟨cb, co + (i + 1), none⟩) (n - (i + 1)) (c - (i + 1))) (by simp [Act.eval, Act.put]) (by simp [Act.eval, Act.put]) hcB ?_)
  go_wp2
  go_ret
  exact ⟨rfl, rfl⟩

set_option maxHeartbeats 1000000 in
set_option maxRecDepth 100000 in
theorem Try.repRoom (cb co i : Nat) (V : Addr) (n c vc : Nat) (w w1 w2 : World) (hi : i + 1 < n) (hroom : n + 1 ≤ c) (hnb : n ≤ 1048576)
    (hov : ∀ lb cb', (callFunc 148 #[.slice (some ⟨cb, co + (i + 2), none⟩) lb cb', .slice (some V) 2 vc]).run Try.prog w.drew = .ok (.value (.bool false)) w.drew)
    (hcA : (Builtin.copy_ #[66, 66] 3 #[.slice (some ⟨cb, co + (i + 2), none⟩) (n + 1 - (i + 2)) (c - (i + 2)), .slice (some ⟨cb, co + (i + 1), none⟩) (n - (i + 1)) (c - (i + 1))]).run Try.prog w.drew.drew = .ok (goInt ((n - (i + 1) : Nat) : Int)) w1)
    (hcB : (Builtin.copy_ #[66, 66] 3 #[.slice (some ⟨cb, co + i, none⟩) (n + 1 - i) (c - i), .slice (some V) 2 vc]).run Try.prog w1 = .ok (goInt 2) w2) :
    Calls Try.prog 100 #[.slice (some ⟨cb, co, none⟩) n c, .int .i64 i, .int .i64 ((i + 1 : Nat) : Int), .slice (some V) 2 vc] w fun e w' => e = .returned (.slice (some ⟨cb, co, none⟩) (n + 1) c) ∧ w' = w2 := by
  have h1 : ¬ ((i : Int) = ((i + 1 : Nat) : Int)) := by omega
  have h2 : ¬ (((i + 1 : Nat) : Int) = (n : Int)) := by omega
  have h3 : (i : Int) ≤ ((i + 1 : Nat) : Int) := by omega
  have h4 : ((i + 1 : Nat) : Int) ≤ (n : Int) := by omega
  have h5 : (i : Int) ≤ (n : Int) := by omega
  have hci : ¬ (c = i + 1) := by omega
  have hc0 : ¬ (c = i) := by omega
  have hc2 : ¬ (c = i + 2) := by omega
  have h6 : ¬ ((c : Int) < (n : Int) + 1) := by omega
  have h7 : (0 : Int) ≤ (i : Int) + 1 := by omega
  have h8 : (i : Int) + 1 ≤ (n : Int) := by omega
  have htot : (i : Int) + 2 + ((n - (i + 1) : Nat) : Int) = (n : Int) + 1 := by omega
  have hw1 : IntKind.i64.wrap ((i : Int) + 2) = (i : Int) + 2 := by rw [IntKind.wrap_i64]; omega
  have hb1 : (0 : Int) ≤ (i : Int) + 2 := by omega
  have htn : ((i : Int) + 2).toNat = i + 2 := by omega
  have hb2 : (i : Int) + 2 ≤ (n : Int) + 1 := by omega
  have hb4 : (i : Int) ≤ (n : Int) + 1 := by omega
  have hb3 : ¬ ((i : Int) + 2 ≤ (i : Int) + 1) := by omega
  go_enter Try.func100, Try.ntmps100
  go_wp2
  go_region
  go_wp2_with (first
    | (simp only [hov])
    | (refine Try.wpList_copyQ _ rfl _ _ 66 66 rfl _ _ rfl rfl hcB ?_))
  go_region_law (refine Try.step_copyQ rfl _ _ 66 66 rfl _ _ (by simp [Act.eval, Act.put]) (by simp [Act.eval, Act.put]) hcA ?_)
  go_wp2_with (refine Try.wpList_copyQ _ rfl _ _ 66 66 rfl _ _ rfl rfl hcB ?_)
  go_ret
  exact ⟨rfl, rfl⟩

theorem Try.overR (w : World) (vb vo cb o la ca lb cb' : Nat) (hne : vb ≠ cb) (arr arr2 : Array Value) (T T2 : TypeId) (ha : w.heap[cb]? = some (.cells arr T (0, 0))) (hv : w.heap[vb]? = some (.cells arr2 T2 (0, 0))) (hk : arr2.size ≠ 0) :
    (callFunc 148 #[.slice (some ⟨cb, o, none⟩) lb cb', .slice (some ⟨vb, vo, none⟩) la ca]).run Try.prog w = .ok (.value (.bool false)) w := by
  obtain ⟨e, z, hT, _⟩ := GL.appTMt_sound (P := Try.prog) (t := 66) (u := 66) (k := 1) (bytes := 24) (by kernel_rfl)
  have hu := hT.hu
  rw [run_callFunc_extern Try.func148 (by kernel_rfl) (by kernel_rfl) (by kernel_rfl) (e := Extern.SlicesOverlaps.overlaps #[66, 66] #[4]) (by kernel_rfl),
    Lib.run_overlaps_apart w 66 4 e hu 1 (fun w => GL.run_sizeOf hT.hk) ⟨cb, o, none⟩ ⟨vb, vo, none⟩ lb cb' la ca (Ne.symm hne) T T2 arr.size arr2.size (by simp [World.shape?, ha]) (by simp [World.shape?, hv]) hk (by simp [World.frozen?, ha]) (by simp [World.frozen?, ha])]
  rfl
theorem Try.replaceC : GL.SplC Try.prog 100 1 2 1 fun s i v => #[s, .int .i64 i, .int .i64 ((i + 1 : Nat) : Int), v] := by
  intro n c i cb co vb vo vc A cs vs arr arr2 T T2 w p
  obtain ⟨e, z, hT, hu⟩ := GL.appTMt_sound (P := Try.prog) (t := 66) (u := 66) (k := 1) (bytes := 24) (by kernel_rfl)
  have hI : Try.prog.underlying 3 = some (.int .i64) := GL.intP_eq (by kernel_rfl)
  have hnb := p.hnb
  have hn := p.hn
  have hj : i + 1 ≤ n := p.hj
  by_cases hin : i + 1 = n
  · subst hin
    obtain ⟨B, G, w1, hrun, hpost⟩ := GL.endRuns hT hu (by decide) p (by decide) (by decide) (by omega)
    refine (Try.repEnd A ⟨vb, vo, none⟩ B i c G vc w w1 hn (by omega) hrun).mono ?_
    rintro e w' ⟨rfl, rfl⟩
    have e1 : i + 1 - (i + 1 - i) + 2 = i + 1 - 1 + 2 := by omega
    rw [e1] at hpost
    exact hpost
  · have hlt : i + 1 < n := by omega
    have e1 : n - (i + 1 - i) + 2 = n + 1 := by omega
    have e3 : n - 1 + 2 = n + 1 := by omega
    rw [e3]
    by_cases hroom : n + 1 ≤ c
    · obtain ⟨hA, w1, w2, hcA, hcB, hpost⟩ := GL.roomRuns hT p (by decide) hlt (by omega) (by omega) (w.drawn + 1 + 1) (n - (i + 1)) (by omega)
      simp only [e1, Nat.mul_one] at hcA hcB hpost ⊢
      rw [hA]
      rw [hA] at hpost
      have hvl := p.hvl
      have hvs : arr2.size ≠ 0 := fun h0 => by
        have hq := p.hvs 0 (vs[0]'(by omega)) (List.getElem?_eq_getElem _)
        rw [Array.getElem?_eq_none (by omega)] at hq; cases hq
      refine (Try.repRoom cb co i ⟨vb, vo, none⟩ n c vc w w1 w2 hlt hroom hnb (fun lb cb' => Try.overR w.drew vb vo cb _ 2 vc lb cb' p.hne arr arr2 T T2 p.ha p.hv hvs) (hcA 3) (hcB 3)).mono ?_
      rintro e w' ⟨rfl, rfl⟩
      exact hpost
    · obtain ⟨G, w1, w2, w3, hG, hrz, hcA, hcB, hpost⟩ := GL.growRuns hT hI (by decide) p (by decide) (by decide) hlt (by omega) (by omega) (w.drawn + 1)
      simp only [e1, Nat.mul_one] at hG hrz hcA hcB hpost ⊢
      rw [p.hA (by omega)]
      have e2 : ((n + 1 - i : Nat) : Int) = (n : Int) + 1 - i := by omega
      rw [e2] at hrz
      refine (Try.repGrow cb co i w.heap.size G ⟨vb, vo, none⟩ n c vc w w1 w2 w3 hlt hn (by omega) hnb hG hrz (hcA 3) (hcB 3)).mono ?_
      rintro e w' ⟨rfl, rfl⟩
      rw [p.hA (by omega)] at hpost
      exact hpost
end Go.Proofs
