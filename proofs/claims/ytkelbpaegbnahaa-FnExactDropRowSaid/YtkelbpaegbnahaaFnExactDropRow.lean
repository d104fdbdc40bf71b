import Derived.Test.YtkelbpaegbnahaaRows
import Derived.WalkKit
import Derived.ProofKit
import Derived.OpenShut
import Derived.ShutString
import Derived.ChangeOld
import Derived.Below
import Derived.Test.YtkelbpaegbnahaaGuFnExactDropRow
/- The law 'FnExactDropRow' holds: its row, from the machine's run. -/
set_option linter.unusedSimpArgs false
set_option linter.unusedVariables false
namespace Go.Proofs.Ytkelbpaegbnahaa.fnExactDropRow
open Go.ChangeShapes Go.WideShapes Go.ChangeAt Go.RowKit
set_option linter.unusedVariables false

theorem own : ownKnob Try.prog.godebug = none := by kernel_rfl
theorem laidOut : laidOutB Try.prog = true := by kernel_rfl
theorem A3 : GL.ArgT Try.prog 3 Int := GL.ArgT.int Try.underlying3
theorem A4 : GL.ArgT Try.prog 4 Bool := GL.ArgT.bool Try.underlying4
theorem A138 : GL.ArgT Try.prog 138 GL.Val := GL.ArgT.struct Try.underlying138 (tot := 2) (by kernel_rfl) (GL.OpensF.cons A4 (by kernel_rfl) (GL.OpensF.last A3 (by kernel_rfl) (by kernel_rfl))) GL.Val.of GL.Val.of_rep
theorem A109 : GL.ArgT Try.prog 109 (List GL.Val) := GL.ArgT.list (A := A138) Try.underlying109 (by kernel_rfl)
theorem A111 : GL.ArgT Try.prog 111 GL.Rw := GL.ArgT.struct Try.underlying111 (tot := 2) (by kernel_rfl) (GL.OpensF.cons A3 (by kernel_rfl) (GL.OpensF.last A109 (by kernel_rfl) (by kernel_rfl))) GL.Rw.of GL.Rw.of_rep
theorem A75 : GL.ArgT Try.prog 75 (List GL.Rw) := GL.ArgT.list (A := A111) Try.underlying75 (by kernel_rfl)

def fidL : List (Nat × Nat) := [(40, 7), (25, 29), (26, 30), (41, 51), (43, 52), (42, 53), (44, 54), (45, 55), (46, 56), (47, 57), (98, 70), (100, 72), (102, 74), (107, 79), (53, 93), (63, 94), (110, 95), (112, 96), (111, 97), (54, 98), (64, 99), (113, 100), (57, 101), (114, 102), (115, 103), (118, 117), (119, 118), (116, 119), (121, 120), (62, 121), (126, 122), (127, 123), (128, 124), (133, 125), (131, 126), (144, 127), (123, 128), (130, 132), (49, 133), (122, 134), (147, 135), (148, 136), (149, 137), (150, 138), (146, 139)]
def fid : Nat → FuncId := fun i => (fidL.lookup i).getD 0
def eqs : List (TypeId × List (Option IntKind)) := []
theorem m7 : GL.fnMt Try.prog fid eqs Try.f7 GL.g40 = true := by kernel_rfl
theorem m29 : GL.fnMt Try.prog fid eqs Try.f29 GL.g25 = true := by kernel_rfl
theorem m30 : GL.fnMt Try.prog fid eqs Try.f30 GL.g26 = true := by kernel_rfl
theorem m51 : GL.fnMt Try.prog fid eqs Try.f51 GL.g41 = true := by kernel_rfl
theorem m52 : GL.fnMt Try.prog fid eqs Try.f52 GL.g43 = true := by kernel_rfl
theorem m53 : GL.fnMt Try.prog fid eqs Try.f53 GL.g42 = true := by kernel_rfl
theorem m54 : GL.fnMt Try.prog fid eqs Try.f54 GL.g44 = true := by kernel_rfl
theorem m55 : GL.fnMt Try.prog fid eqs Try.f55 GL.g45 = true := by kernel_rfl
theorem m56 : GL.fnMt Try.prog fid eqs Try.f56 GL.g46 = true := by kernel_rfl
theorem m57 : GL.fnMt Try.prog fid eqs Try.f57 GL.g47 = true := by kernel_rfl
theorem m70 : GL.fnMt Try.prog fid eqs Try.f70 GL.g98 = true := by kernel_rfl
theorem m72 : GL.fnMt Try.prog fid eqs Try.f72 GL.g100 = true := by kernel_rfl
theorem m74 : GL.fnMt Try.prog fid eqs Try.f74 GL.g102 = true := by kernel_rfl
theorem m79 : GL.fnMt Try.prog fid eqs Try.f79 GL.g107 = true := by kernel_rfl
theorem m93 : GL.fnMt Try.prog fid eqs Try.f93 GL.g53 = true := by kernel_rfl
theorem m94 : GL.fnMt Try.prog fid eqs Try.f94 GL.g63 = true := by kernel_rfl
theorem m95 : GL.fnMt Try.prog fid eqs Try.f95 GL.g110 = true := by kernel_rfl
theorem m96 : GL.fnMt Try.prog fid eqs Try.f96 GL.g112 = true := by kernel_rfl
theorem m97 : GL.fnMt Try.prog fid eqs Try.f97 GL.g111 = true := by kernel_rfl
theorem m98 : GL.fnMt Try.prog fid eqs Try.f98 GL.g54 = true := by kernel_rfl
theorem m99 : GL.fnMt Try.prog fid eqs Try.f99 GL.g64 = true := by kernel_rfl
theorem m100 : GL.fnMt Try.prog fid eqs Try.f100 GL.g113 = true := by kernel_rfl
theorem m101 : GL.fnMt Try.prog fid eqs Try.f101 GL.g57 = true := by kernel_rfl
theorem m102 : GL.fnMt Try.prog fid eqs Try.f102 GL.g114 = true := by kernel_rfl
theorem m103 : GL.fnMt Try.prog fid eqs Try.f103 GL.g115 = true := by kernel_rfl
theorem m117 : GL.fnMt Try.prog fid eqs Try.f117 GL.g118 = true := by kernel_rfl
theorem m118 : GL.fnMt Try.prog fid eqs Try.f118 GL.g119 = true := by kernel_rfl
theorem m119 : GL.fnMt Try.prog fid eqs Try.f119 GL.g116 = true := by kernel_rfl
theorem m120 : GL.fnMt Try.prog fid eqs Try.f120 GL.g121 = true := by kernel_rfl
theorem m121 : GL.fnMt Try.prog fid eqs Try.f121 GL.g62 = true := by kernel_rfl
theorem m122 : GL.fnMt Try.prog fid eqs Try.f122 GL.g126 = true := by kernel_rfl
theorem m123 : GL.fnMt Try.prog fid eqs Try.f123 GL.g127 = true := by kernel_rfl
theorem m124 : GL.fnMt Try.prog fid eqs Try.f124 GL.g128 = true := by kernel_rfl
theorem m125 : GL.fnMt Try.prog fid eqs Try.f125 GL.g133 = true := by kernel_rfl
theorem m126 : GL.fnMt Try.prog fid eqs Try.f126 GL.g131 = true := by kernel_rfl
theorem m127 : GL.fnMt Try.prog fid eqs Try.f127 GL.g144 = true := by kernel_rfl
theorem m128 : GL.fnMt Try.prog fid eqs Try.f128 GL.g123 = true := by kernel_rfl
theorem m132 : GL.fnMt Try.prog fid eqs Try.f132 GL.g130 = true := by kernel_rfl
theorem m133 : GL.fnMt Try.prog fid eqs Try.f133 GL.g49 = true := by kernel_rfl
theorem m134 : GL.fnMt Try.prog fid eqs Try.f134 GL.g122 = true := by kernel_rfl
theorem m135 : GL.fnMt Try.prog fid eqs Try.f135 GL.g147 = true := by kernel_rfl
theorem m136 : GL.fnMt Try.prog fid eqs Try.f136 GL.g148 = true := by kernel_rfl
theorem m137 : GL.fnMt Try.prog fid eqs Try.f137 GL.g149 = true := by kernel_rfl
theorem m138 : GL.fnMt Try.prog fid eqs Try.f138 GL.g150 = true := by kernel_rfl
theorem m139 : GL.fnMt Try.prog fid eqs Try.f139 GL.g146 = true := by kernel_rfl
theorem allOK : GL.AllOK Try.prog fid eqs GL.fnL :=
  .cons Try.func7 rfl m7 (
  .cons Try.func29 rfl m29 (
  .cons Try.func30 rfl m30 (
  .cons Try.func51 rfl m51 (
  .cons Try.func52 rfl m52 (
  .cons Try.func53 rfl m53 (
  .cons Try.func54 rfl m54 (
  .cons Try.func55 rfl m55 (
  .cons Try.func56 rfl m56 (
  .cons Try.func57 rfl m57 (
  .cons Try.func70 rfl m70 (
  .cons Try.func72 rfl m72 (
  .cons Try.func74 rfl m74 (
  .cons Try.func79 rfl m79 (
  .cons Try.func93 rfl m93 (
  .cons Try.func94 rfl m94 (
  .cons Try.func95 rfl m95 (
  .cons Try.func96 rfl m96 (
  .cons Try.func97 rfl m97 (
  .cons Try.func98 rfl m98 (
  .cons Try.func99 rfl m99 (
  .cons Try.func100 rfl m100 (
  .cons Try.func101 rfl m101 (
  .cons Try.func102 rfl m102 (
  .cons Try.func103 rfl m103 (
  .cons Try.func117 rfl m117 (
  .cons Try.func118 rfl m118 (
  .cons Try.func119 rfl m119 (
  .cons Try.func120 rfl m120 (
  .cons Try.func121 rfl m121 (
  .cons Try.func122 rfl m122 (
  .cons Try.func123 rfl m123 (
  .cons Try.func124 rfl m124 (
  .cons Try.func125 rfl m125 (
  .cons Try.func126 rfl m126 (
  .cons Try.func127 rfl m127 (
  .cons Try.func128 rfl m128 (
  .cons Try.func132 rfl m132 (
  .cons Try.func133 rfl m133 (
  .cons Try.func134 rfl m134 (
  .cons Try.func135 rfl m135 (
  .cons Try.func136 rfl m136 (
  .cons Try.func137 rfl m137 (
  .cons Try.func138 rfl m138 (
  .cons Try.func139 rfl m139 (.nil)))))))))))))))))))))))))))))))))))))))))))))
theorem progOK : GL.ProgOK Try.prog fid eqs GL.p :=
  ⟨by kernel_rfl, (GL.eqs_sound (by kernel_rfl)), allOK.fn, (fun f e h => by cases h)⟩
/-! ### THE ROW -/
set_option maxRecDepth 100000 in
theorem lifted (os : Os) (started : os.Started) (H : Type) (enc : TypeId × Value → H) :
    ReturnsInHanded {} Try.checked os 7 .any (Rows.fnExactDropRowSpec.pre6 enc Try.prog Try.f7 Rows.fnExactDropRowRow.domain false) (Rows.fnExactDropRowSpec.post enc Try.prog Try.f7 false true false false) := by
  refine returnsInHanded_of_change (C := Try.checked) own started (by kernel_rfl) Try.func7
    (ChangeSpec.witness6 (enc := enc) (C := Try.checked) false ⟨#[], #[.slice none 0 0, .int .i64 0], []⟩ 12 (by kernel_rfl) (by kernel_rfl) (by kernel_rfl) (by kernel_rfl)) ?_
  intro W base args ds gs before hval0 hW hcnd _
  have hval : ∀ (j : Nat) t v, Try.f7.params[j]? = some t → args[j]? = some v → Value.okWide Try.prog W .any base t v := hval0
  have hW' := hW
  obtain ⟨p, q, hA0, hV, rfl, hfz, hnd⟩ := hW
  have hA : DataW.TrodAll enc Try.prog W 0 (fun _ => true) true Try.f7.params.toList args.toList ds p := hA0
  rw [Try.params7] at hA hval
  obtain ⟨v0, vs0, d0, ds0, p0, q0, hargs, rfl, rfl, h0, r0⟩ := trodAll_cons hA
  obtain ⟨v1, vs1, d1, ds1, p1, q1, rfl, rfl, rfl, h1, r1⟩ := trodAll_cons r0
  obtain ⟨rfl, rfl, rfl⟩ := trodAll_nil r1
  obtain rfl : args = #[v0, v1] := by cases args; simp_all
  obtain ⟨rfl, rfl⟩ := trodVars_none hV
  obtain ⟨sa0, sl0, sc0, rfl⟩ := okWide_slice Try.underlying75 (hval 0 75 v0 rfl rfl)
  have k0 := h0
  have lt0 : ∀ x ∈ p0, x.block < W.heap.size := by obtain ⟨m, hm⟩ := k0; exact DataW.trod_lt m _ _ _ hm
  obtain ⟨x0, ss0, a0, F0, i0⟩ := A75.arg1 (by rfl) h0 (0)
  obtain ⟨n1, rfl⟩ := okWide_int Try.underlying3 (hval 1 3 v1 rfl rfl)
  have k1 := h1
  have lt1 : ∀ x ∈ p1, x.block < W.heap.size := by obtain ⟨m, hm⟩ := k1; exact DataW.trod_lt m _ _ _ hm
  obtain ⟨x1, ss1, a1, F1, i1⟩ := A3.arg1 (by rfl) h1 (0 + ss0.length)
  refine (GL.law2 progOK (f := 40) i0 i1 fun h t0 t1 => GL.FnExactDropRow_law t0 t1).mono fun e W' ⟨he, bel⟩ => ?_
  subst he
  exact ⟨_, rfl, _, _, _, [], _, [], hW', trodAll_mk1 (shut_bool Try.underlying4 _), (trodAll_cons_mk (Below.trod laidOut (by kernel_rfl) (of_decide_eq_true (by kernel_rfl)) k0 bel lt0) (trodAll_cons_mk (Below.trod laidOut (by kernel_rfl) (of_decide_eq_true (by kernel_rfl)) k1 bel lt1) trodAll_mk0)), rfl, bel.frame _, fun h => by cases h⟩

theorem over : Rows.fnExactDropRowRow.holds Try.pinned (OpenSpec.ofChange Rows.fnExactDropRowSpec) :=
  OpenClaim.holds_of_wide 7 Try.f7 rfl rfl rfl rfl rfl rfl rfl ⟨rfl, rfl, rfl, rfl, rfl⟩ rfl rfl rfl rfl rfl (by kernel_rfl) Try.func7 (by kernel_rfl)
    (of_decide_eq_true (by kernel_rfl)) (by unfold Func.isWrapper; first | (rw [if_pos (by decide +kernel)]; kernel_rfl) | (rw [if_neg (by decide +kernel)]; exact ⟨rfl, rfl⟩))
    (fun os started H enc _ => lifted os started H enc)

theorem proved : Rows.FnExactDropRowSaid := over
#print axioms proved
end Go.Proofs.Ytkelbpaegbnahaa.fnExactDropRow
