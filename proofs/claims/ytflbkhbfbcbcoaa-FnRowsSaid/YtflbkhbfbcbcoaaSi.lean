import Derived.Test.YtflbkhbfbcbcoaaGlK
import Derived.Test.YtflbkhbfbcbcoaaChecked
import Derived.WalkKit
import Derived.Lib.Walk
import Derived.Lib.AppendZeros
import Derived.Lib.Overlaps
import Derived.Deep.RegionLaw
import Derived.Laws.IdiomCopy
import Derived.Laws.Externs
/- slices.Insert of one row: its walk, turned from the kit's at numbers. -/
set_option linter.unusedSimpArgs false
set_option linter.unusedVariables false
namespace Go.Proofs
open Go.RowKit Go.Lib

theorem Try.wp_copyR {P : Program} (w : World) {o : Oper} {a : Act} {K : Act → World → Prop} {Q : Exit → Act → World → Prop} (d s : Operand) (t t' : TypeId)
    (ho : o.op = .call { callee := .builtin .copy, args := #[d, s], argTypes := #[t, t'] }) (v u : Value) (hd : a.eval d = v) (hs : a.eval s = u) {v' : Value} {w' : World}
    (hr : (Builtin.copy_ #[t, t'] o.type #[v, u]).run P w = .ok v' w') (h : K (a.put o.dst v') w') : o.wp P a w K Q := by
  unfold Oper.wp execOp
  simp only [ho, resolve, invoke, builtin, Sem.run_bind, Sem.run_pure, Result.andThen_ok, List.map_toArray, List.map_cons, List.map_nil, hd, hs, hr]
  exact h
theorem Try.wpList_copyR {P : Program} (w : World) {ops : Array Oper} {rest : List Oper} {o : Oper} {a : Act} {Q : Exit → Act → World → Prop} (hgd : o.guard = none) (d s : Operand) (t t' : TypeId)
    (ho : o.op = .call { callee := .builtin .copy, args := #[d, s], argTypes := #[t, t'] }) (v u : Value) (hd : a.eval d = v) (hs : a.eval s = u) {v' : Value} {w' : World}
    (hr : (Builtin.copy_ #[t, t'] o.type #[v, u]).run P w = .ok v' w') (h : wpList P ops Q rest (a.put o.dst v') w') : wpList P ops Q (o :: rest) a w :=
  wpList_plain hgd fun _ hK => Try.wp_copyR w d s t t' ho v u hd hs hr (hK _ _ h)
theorem Try.step_copyR {P : Program} {ops : Array Oper} {o : Oper} {a : Act} {w : World} {K : Act → World → Prop} {Q : Exit → Act → World → Prop} {E : Prop}
    (hg : o.guard = none) (d x : Operand) (dT sT : TypeId) (hop : o.op = Op.call { callee := Callee.builtin Builtin.copy, args := #[d, x], argTypes := #[dT, sT] })
    (v u : Value) (hd : a.eval d = v) (hx : a.eval x = u) {v' : Value} {w' : World} (hr : (Builtin.copy_ #[dT, sT] o.type #[v, u]).run P w = .ok v' w') (hK : K (a.put o.dst v') w') :
    if Region.wanted o (yielded ops a.tmps) = true then Oper.wp P o a w K Q else E := by
  have hw : Region.wanted o (yielded ops a.tmps) = true := by simp [Region.wanted, hg]
  rw [if_pos hw]
  unfold Oper.wp
  simp [execOp, hop, resolve, invoke, builtin, hd, hx, hr, Result.andThen]
  exact hK

set_option maxHeartbeats 1000000 in
set_option maxRecDepth 100000 in
theorem Try.insEnd (A V : Addr) (n c vc : Nat) (w w1 : World) (r : Value) (hn : n ≤ c)
    (hrun : (Builtin.append_ #[23, 23] 23 #[.slice (some A) n c, .slice (some V) 1 vc]).run Try.prog w = .ok r w1) :
    Calls Try.prog 137 #[.slice (some A) n c, .int .i64 n, .slice (some V) 1 vc] w fun e w' => e = .returned r ∧ w' = w1 := by
  go_enter Try.func137, Try.ntmps137
  go_wp2_with (at_builtin; refine Lib.wpList_append_run _ rfl _ _ _ _ rfl _ _ rfl rfl _ _ hrun ?_)
  all_goals (go_ret; exact ⟨rfl, rfl⟩)

set_option maxHeartbeats 1000000 in
set_option maxRecDepth 100000 in
theorem Try.insGrow (cb co i N G : Nat) (V : Addr) (n c vc : Nat) (w w1 w2 w3 : World) (hi : i < n) (hn : n ≤ c) (hroom : c < n + 1) (hnb : n ≤ 1048576) (hG : n + 1 ≤ G)
    (hrz : (Builtin.append_ #[23, 3] 23 #[.slice (some ⟨cb, co, none⟩) i c, .int .i64 ((n : Int) + 1 - i)]).run Try.prog w = .ok (.slice (some ⟨N, 0, none⟩) (n + 1) G) w1)
    (hcA : (Builtin.copy_ #[23, 23] 3 #[.slice (some ⟨N, i * 2, none⟩) (n + 1 - i) (G - i), .slice (some V) 1 vc]).run Try.prog w1 = .ok (goInt 1) w2)
    (hcB : (Builtin.copy_ #[23, 23] 3 #[.slice (some ⟨N, (i + 1) * 2, none⟩) (n + 1 - (i + 1)) (G - (i + 1)), .slice (some ⟨cb, co + i * 2, none⟩) (n - i) (c - i)]).run Try.prog w2.drew = .ok (goInt ((n - i : Nat) : Int)) w3) :
    Calls Try.prog 137 #[.slice (some ⟨cb, co, none⟩) n c, .int .i64 i, .slice (some V) 1 vc] w fun e w' => e = .returned (.slice (some ⟨N, 0, none⟩) (n + 1) G) ∧ w' = w3 := by
  have hz2 : ¬ ((i : Int) = (n : Int)) := by omega
  have hz3 : (c : Int) < (n : Int) + 1 := by omega
  have hGi : ¬ (G = i) := by omega
  have hGim : ¬ (G = i + 1) := by omega
  have hci : ¬ (c = i) := by omega
  have hw1 : IntKind.i64.wrap ((i : Int) + 1) = (i : Int) + 1 := by rw [IntKind.wrap_i64]; omega
  have hb1 : (0 : Int) ≤ (i : Int) + 1 := by omega
  have hin : i ≤ n := by omega
  have htn : ((i : Int) + 1).toNat = i + 1 := by omega
  have hb3 : (i : Int) ≤ (n : Int) := by omega
  go_enter Try.func137, Try.ntmps137
  go_wp2_with (first
    | (at_builtin; refine Lib.wpList_append_run _ rfl _ _ _ _ rfl _ _ rfl rfl _ _ hrz ?_)
    | (refine Try.wpList_copyR _ rfl _ _ 23 23 rfl _ _ rfl rfl hcA ?_))
  go_region_law (refine Try.step_copyR rfl _ _ 23 23 rfl (.slice (some ⟨N, (i + 1) * 2, none⟩) (n + 1 - (i + 1)) (G - (i + 1))) (.slice (some ⟨cb, co + i * 2, none⟩) (n - i) (c - i)) (by simp [Act.eval, Act.put]) (by simp [Act.eval, Act.put]) hcB ?_)
  go_wp2
  go_ret
  exact ⟨rfl, rfl⟩

set_option maxHeartbeats 1000000 in
set_option maxRecDepth 100000 in
theorem Try.insRoom (cb co i : Nat) (V : Addr) (n c vc : Nat) (w w1 w2 : World) (hi : i < n) (hroom : n + 1 ≤ c) (hnb : n ≤ 1048576)
    (hov : ∀ lb cb', (callFunc 168 #[.slice (some V) 1 vc, .slice (some ⟨cb, co + (i + 1) * 2, none⟩) lb cb']).run Try.prog w = .ok (.value (.bool false)) w)
    (hcA : (Builtin.copy_ #[23, 23] 3 #[.slice (some ⟨cb, co + (i + 1) * 2, none⟩) (n + 1 - (i + 1)) (c - (i + 1)), .slice (some ⟨cb, co + i * 2, none⟩) (n + 1 - i) (c - i)]).run Try.prog w.drew = .ok (goInt ((n - i : Nat) : Int)) w1)
    (hcB : (Builtin.copy_ #[23, 23] 3 #[.slice (some ⟨cb, co + i * 2, none⟩) (n + 1 - i) (c - i), .slice (some V) 1 vc]).run Try.prog w1 = .ok (goInt 1) w2) :
    Calls Try.prog 137 #[.slice (some ⟨cb, co, none⟩) n c, .int .i64 i, .slice (some V) 1 vc] w fun e w' => e = .returned (.slice (some ⟨cb, co, none⟩) (n + 1) c) ∧ w' = w2 := by
  have hz2 : ¬ ((i : Int) = (n : Int)) := by omega
  have hw1 : IntKind.i64.wrap ((i : Int) + 1) = (i : Int) + 1 := by
    rw [IntKind.wrap_i64]; omega
  have hb1 : (0 : Int) ≤ (i : Int) + 1 := by omega
  have hin : i ≤ n := by omega
  have htn : ((i : Int) + 1).toNat = i + 1 := by omega
  have hb2 : ¬ (c = i + 1) := by omega
  have hb3 : (i : Int) ≤ (n : Int) + 1 := by omega
  have hb4 : ¬ (c = i) := by omega
  go_enter Try.func137, Try.ntmps137
  go_wp2_with (first
    | (simp only [hov])
    | (refine Try.wpList_copyR _ rfl _ _ 23 23 rfl _ _ rfl rfl hcB ?_))
  go_region_law (refine Try.step_copyR rfl _ _ 23 23 rfl _ _ (by simp [Act.eval, Act.put]) (by simp [Act.eval, Act.put]) hcA ?_)
  go_wp2_with (refine Try.wpList_copyR _ rfl _ _ 23 23 rfl _ _ rfl rfl hcB ?_)
  go_ret
  exact ⟨rfl, rfl⟩

theorem Try.overI (w : World) (vb vo cb o la ca lb cb' : Nat) (hne : vb ≠ cb) (arr arr2 : Array Value) (T T2 : TypeId) (ha : w.heap[cb]? = some (.cells arr T (0, 0))) (hv : w.heap[vb]? = some (.cells arr2 T2 (0, 0))) (hk : arr.size ≠ 0) :
    (callFunc 168 #[.slice (some ⟨vb, vo, none⟩) la ca, .slice (some ⟨cb, o, none⟩) lb cb']).run Try.prog w = .ok (.value (.bool false)) w := by
  obtain ⟨e, z, hT, _⟩ := GL.appTMt_sound (P := Try.prog) (t := 23) (u := 23) (k := 2) (bytes := 32) (by kernel_rfl)
  have hu := hT.hu
  rw [run_callFunc_extern Try.func168 (by kernel_rfl) (by kernel_rfl) (by kernel_rfl) (e := Extern.SlicesOverlaps.overlaps #[23, 23] #[4]) (by kernel_rfl),
    Lib.run_overlaps_apart w 23 4 e hu 2 (fun w => GL.run_sizeOf hT.hk) ⟨vb, vo, none⟩ ⟨cb, o, none⟩ la ca lb cb' hne T2 T arr2.size arr.size (by simp [World.shape?, hv]) (by simp [World.shape?, ha]) hk (by simp [World.frozen?, hv]) (by simp [World.frozen?, hv])]
  rfl
theorem Try.insertC : GL.SplC Try.prog 137 2 1 0 fun s i v => #[s, .int .i64 i, v] := by
  intro n c i cb co vb vo vc A cs vs arr arr2 T T2 w p
  obtain ⟨e, z, hT, hu⟩ := GL.appTMt_sound (P := Try.prog) (t := 23) (u := 23) (k := 2) (bytes := 32) (by kernel_rfl)
  have hI : Try.prog.underlying 3 = some (.int .i64) := GL.intP_eq (by kernel_rfl)
  have hnb := p.hnb
  have hn := p.hn
  have hj : i ≤ n := p.hj
  by_cases hin : i = n
  · subst hin
    obtain ⟨B, G, w1, hrun, hpost⟩ := GL.endRuns hT hu (by decide) p (by decide) (by decide) (by omega)
    refine (Try.insEnd A ⟨vb, vo, none⟩ i c vc w w1 _ hn hrun).mono ?_
    rintro e w' ⟨rfl, rfl⟩
    have e1 : i - (i - i) + 1 = i - 0 + 1 := by omega
    rw [e1] at hpost
    exact hpost
  · have hlt : i < n := by omega
    have e1 : n - (i - i) + 1 = n + 1 := by omega
    by_cases hroom : n + 1 ≤ c
    · have hk : arr.size ≠ 0 := by have h := p.hsz; omega
      obtain ⟨hA, w1, w2, hcA, hcB, hpost⟩ := GL.roomRuns hT p (by decide) hlt (by omega) (by omega) (w.drawn + 1) (n + 1 - i) (by omega)
      simp only [e1, Nat.add_zero] at hcA hcB hpost ⊢
      rw [hA]
      rw [hA] at hpost
      refine (Try.insRoom cb co i ⟨vb, vo, none⟩ n c vc w w1 w2 hlt hroom hnb (fun lb cb' => Try.overI w vb vo cb _ 1 vc lb cb' p.hne arr arr2 T T2 p.ha p.hv hk) (hcA 3) (hcB 3)).mono ?_
      rintro e w' ⟨rfl, rfl⟩
      exact hpost
    · obtain ⟨G, w1, w2, w3, hG, hrz, hcA, hcB, hpost⟩ := GL.growRuns hT hI (by decide) p (by decide) (by decide) hlt (by omega) (by omega) w.drawn
      simp only [e1, Nat.add_zero] at hG hrz hcA hcB hpost ⊢
      rw [p.hA (by omega)]
      have e2 : ((n + 1 - i : Nat) : Int) = (n : Int) + 1 - i := by omega
      rw [e2] at hrz
      refine (Try.insGrow cb co i w.heap.size G ⟨vb, vo, none⟩ n c vc w w1 w2 w3 hlt hn (by omega) hnb hG hrz (hcA 3) (hcB 3)).mono ?_
      rintro e w' ⟨rfl, rfl⟩
      rw [p.hA (by omega)] at hpost
      exact hpost
end Go.Proofs
