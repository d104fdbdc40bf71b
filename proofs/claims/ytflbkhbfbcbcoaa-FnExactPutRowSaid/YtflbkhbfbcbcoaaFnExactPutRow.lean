import Derived.Test.YtflbkhbfbcbcoaaRows
import Derived.WalkKit
import Derived.ProofKit
import Derived.OpenShut
import Derived.ShutString
import Derived.ChangeOld
import Derived.Below
import Derived.Test.YtflbkhbfbcbcoaaSi
import Derived.Test.YtflbkhbfbcbcoaaGuFnExactPutRow
/- The law 'FnExactPutRow' holds: its row, from the machine's run. -/
set_option linter.unusedSimpArgs false
set_option linter.unusedVariables false
set_option linter.unnecessarySimpa false
namespace Go.Proofs.Ytflbkhbfbcbcoaa.fnExactPutRow
open Go.ChangeShapes Go.WideShapes Go.ChangeAt Go.RowKit
set_option linter.unusedVariables false

theorem own : ownKnob Try.prog.godebug = none := by kernel_rfl
theorem laidOut : laidOutB Try.prog = true := by kernel_rfl
theorem A3 : GL.ArgT Try.prog 3 Int := GL.ArgT.int Try.underlying3
theorem A4 : GL.ArgT Try.prog 4 Bool := GL.ArgT.bool Try.underlying4
theorem A141 : GL.ArgT Try.prog 141 GL.Val := GL.ArgT.struct Try.underlying141 (tot := 2) (by kernel_rfl) (GL.OpensF.cons A4 (by kernel_rfl) (GL.OpensF.last A3 (by kernel_rfl) (by kernel_rfl))) GL.Val.of GL.Val.of_rep
theorem A44 : GL.ArgT Try.prog 44 (List GL.Val) := GL.ArgT.list (A := A141) Try.underlying44 (by kernel_rfl)
theorem A46 : GL.ArgT Try.prog 46 GL.Rw := GL.ArgT.struct Try.underlying46 (tot := 2) (by kernel_rfl) (GL.OpensF.cons A3 (by kernel_rfl) (GL.OpensF.last A44 (by kernel_rfl) (by kernel_rfl))) GL.Rw.of GL.Rw.of_rep
theorem A43 : GL.ArgT Try.prog 43 (List GL.Rw) := GL.ArgT.list (A := A46) Try.underlying43 (by kernel_rfl)

def fidL : List (Nat × Nat) := [(52, 4), (62, 12), (41, 18), (53, 19), (55, 20), (42, 21), (54, 22), (56, 23), (45, 24), (57, 25), (46, 26), (58, 27), (47, 28), (63, 30), (107, 54), (100, 61), (98, 62), (26, 66), (102, 67), (122, 68), (25, 74), (118, 77), (119, 78), (112, 79), (120, 80), (121, 81), (117, 82), (123, 83), (114, 84), (115, 85), (126, 88), (127, 89), (128, 90), (111, 94), (130, 95), (149, 124), (116, 134), (49, 135), (131, 136), (145, 137), (146, 138), (147, 139), (148, 140)]
def fid : Nat → FuncId := fun i => (fidL.lookup i).getD 0
def eqs : List (TypeId × List (Option IntKind)) := []
theorem m4 : GL.fnMt Try.prog fid eqs Try.f4 GL.g52 = true := by kernel_rfl
theorem m12 : GL.fnMt Try.prog fid eqs Try.f12 GL.g62 = true := by kernel_rfl
theorem m18 : GL.fnMt Try.prog fid eqs Try.f18 GL.g41 = true := by kernel_rfl
theorem m19 : GL.fnMt Try.prog fid eqs Try.f19 GL.g53 = true := by kernel_rfl
theorem m20 : GL.fnMt Try.prog fid eqs Try.f20 GL.g55 = true := by kernel_rfl
theorem m21 : GL.fnMt Try.prog fid eqs Try.f21 GL.g42 = true := by kernel_rfl
theorem m22 : GL.fnMt Try.prog fid eqs Try.f22 GL.g54 = true := by kernel_rfl
theorem m23 : GL.fnMt Try.prog fid eqs Try.f23 GL.g56 = true := by kernel_rfl
theorem m24 : GL.fnMt Try.prog fid eqs Try.f24 GL.g45 = true := by kernel_rfl
theorem m25 : GL.fnMt Try.prog fid eqs Try.f25 GL.g57 = true := by kernel_rfl
theorem m26 : GL.fnMt Try.prog fid eqs Try.f26 GL.g46 = true := by kernel_rfl
theorem m27 : GL.fnMt Try.prog fid eqs Try.f27 GL.g58 = true := by kernel_rfl
theorem m28 : GL.fnMt Try.prog fid eqs Try.f28 GL.g47 = true := by kernel_rfl
theorem m30 : GL.fnMt Try.prog fid eqs Try.f30 GL.g63 = true := by kernel_rfl
theorem m54 : GL.fnMt Try.prog fid eqs Try.f54 GL.g107 = true := by kernel_rfl
theorem m61 : GL.fnMt Try.prog fid eqs Try.f61 GL.g100 = true := by kernel_rfl
theorem m62 : GL.fnMt Try.prog fid eqs Try.f62 GL.g98 = true := by kernel_rfl
theorem m66 : GL.fnMt Try.prog fid eqs Try.f66 GL.g26 = true := by kernel_rfl
theorem m67 : GL.fnMt Try.prog fid eqs Try.f67 GL.g102 = true := by kernel_rfl
theorem m68 : GL.fnMt Try.prog fid eqs Try.f68 GL.g122 = true := by kernel_rfl
theorem m74 : GL.fnMt Try.prog fid eqs Try.f74 GL.g25 = true := by kernel_rfl
theorem m77 : GL.fnMt Try.prog fid eqs Try.f77 GL.g118 = true := by kernel_rfl
theorem m78 : GL.fnMt Try.prog fid eqs Try.f78 GL.g119 = true := by kernel_rfl
theorem m79 : GL.fnMt Try.prog fid eqs Try.f79 GL.g112 = true := by kernel_rfl
theorem m80 : GL.fnMt Try.prog fid eqs Try.f80 GL.g120 = true := by kernel_rfl
theorem m81 : GL.fnMt Try.prog fid eqs Try.f81 GL.g121 = true := by kernel_rfl
theorem m82 : GL.fnMt Try.prog fid eqs Try.f82 GL.g117 = true := by kernel_rfl
theorem m83 : GL.fnMt Try.prog fid eqs Try.f83 GL.g123 = true := by kernel_rfl
theorem m84 : GL.fnMt Try.prog fid eqs Try.f84 GL.g114 = true := by kernel_rfl
theorem m85 : GL.fnMt Try.prog fid eqs Try.f85 GL.g115 = true := by kernel_rfl
theorem m88 : GL.fnMt Try.prog fid eqs Try.f88 GL.g126 = true := by kernel_rfl
theorem m89 : GL.fnMt Try.prog fid eqs Try.f89 GL.g127 = true := by kernel_rfl
theorem m90 : GL.fnMt Try.prog fid eqs Try.f90 GL.g128 = true := by kernel_rfl
theorem m94 : GL.fnMt Try.prog fid eqs Try.f94 GL.g111 = true := by kernel_rfl
theorem m95 : GL.fnMt Try.prog fid eqs Try.f95 GL.g130 = true := by kernel_rfl
theorem m124 : GL.fnMt Try.prog fid eqs Try.f124 GL.g149 = true := by kernel_rfl
theorem m134 : GL.fnMt Try.prog fid eqs Try.f134 GL.g116 = true := by kernel_rfl
theorem m135 : GL.fnMt Try.prog fid eqs Try.f135 GL.g49 = true := by kernel_rfl
theorem m136 : GL.fnMt Try.prog fid eqs Try.f136 GL.g131 = true := by kernel_rfl
theorem m138 : GL.fnMt Try.prog fid eqs Try.f138 GL.g146 = true := by kernel_rfl
theorem m139 : GL.fnMt Try.prog fid eqs Try.f139 GL.g147 = true := by kernel_rfl
theorem m140 : GL.fnMt Try.prog fid eqs Try.f140 GL.g148 = true := by kernel_rfl
theorem inF : GL.CallOK Try.prog fid fun g args h => if g = 145 then GL.insE args h else none := GL.insE_ok ⟨_, Try.func137, by kernel_rfl, by kernel_rfl⟩ Try.insertC
theorem extOK : ∀ f e, GL.p.ext f = some e → GL.CallOK Try.prog fid fun g args h => if g = f then e args h else none := fun f e h => by
  have h : (bif Nat.beq f 145 then some GL.insE else none) = some e := h
  rcases GL.bif_some h with ⟨rfl, h⟩ | ⟨_, h⟩
  · cases h; exact inF
  cases h
theorem allOK : GL.AllOK Try.prog fid eqs GL.fnL :=
  .cons Try.func4 rfl m4 (
  .cons Try.func12 rfl m12 (
  .cons Try.func18 rfl m18 (
  .cons Try.func19 rfl m19 (
  .cons Try.func20 rfl m20 (
  .cons Try.func21 rfl m21 (
  .cons Try.func22 rfl m22 (
  .cons Try.func23 rfl m23 (
  .cons Try.func24 rfl m24 (
  .cons Try.func25 rfl m25 (
  .cons Try.func26 rfl m26 (
  .cons Try.func27 rfl m27 (
  .cons Try.func28 rfl m28 (
  .cons Try.func30 rfl m30 (
  .cons Try.func54 rfl m54 (
  .cons Try.func61 rfl m61 (
  .cons Try.func62 rfl m62 (
  .cons Try.func66 rfl m66 (
  .cons Try.func67 rfl m67 (
  .cons Try.func68 rfl m68 (
  .cons Try.func74 rfl m74 (
  .cons Try.func77 rfl m77 (
  .cons Try.func78 rfl m78 (
  .cons Try.func79 rfl m79 (
  .cons Try.func80 rfl m80 (
  .cons Try.func81 rfl m81 (
  .cons Try.func82 rfl m82 (
  .cons Try.func83 rfl m83 (
  .cons Try.func84 rfl m84 (
  .cons Try.func85 rfl m85 (
  .cons Try.func88 rfl m88 (
  .cons Try.func89 rfl m89 (
  .cons Try.func90 rfl m90 (
  .cons Try.func94 rfl m94 (
  .cons Try.func95 rfl m95 (
  .cons Try.func124 rfl m124 (
  .cons Try.func134 rfl m134 (
  .cons Try.func135 rfl m135 (
  .cons Try.func136 rfl m136 (
  .cons Try.func138 rfl m138 (
  .cons Try.func139 rfl m139 (
  .cons Try.func140 rfl m140 (.nil))))))))))))))))))))))))))))))))))))))))))
theorem progOK : GL.ProgOK Try.prog fid eqs GL.p :=
  ⟨by kernel_rfl, (GL.eqs_sound (by kernel_rfl)), allOK.fn, extOK⟩
/-! ### THE ROW -/
set_option maxRecDepth 100000 in
theorem lifted (os : Os) (started : os.Started) (H : Type) (enc : TypeId × Value → H) :
    ReturnsInHanded {} Try.checked os 4 .any (Rows.fnExactPutRowSpec.pre6 enc Try.prog Try.f4 Rows.fnExactPutRowRow.domain false) (Rows.fnExactPutRowSpec.post enc Try.prog Try.f4 false true false false) := by
  refine returnsInHanded_of_change (C := Try.checked) own started (by kernel_rfl) Try.func4
    (ChangeSpec.witness6 (enc := enc) (C := Try.checked) false ⟨#[], #[.slice none 0 0, .agg #[.int .i64 0, .slice none 0 0]], []⟩ 12 (by kernel_rfl) (by kernel_rfl) (by kernel_rfl) (by kernel_rfl)) ?_
  intro W base args ds gs before hval0 hW hcnd _
  have hval : ∀ (j : Nat) t v, Try.f4.params[j]? = some t → args[j]? = some v → Value.okWide Try.prog W .any base t v := hval0
  have hW' := hW
  obtain ⟨p, q, hA0, hV, rfl, hfz, hnd⟩ := hW
  have hA : DataW.TrodAll enc Try.prog W 0 (fun _ => true) true Try.f4.params.toList args.toList ds p := hA0
  rw [Try.params4] at hA hval
  obtain ⟨v0, vs0, d0, ds0, p0, q0, hargs, rfl, rfl, h0, r0⟩ := trodAll_cons hA
  obtain ⟨v1, vs1, d1, ds1, p1, q1, rfl, rfl, rfl, h1, r1⟩ := trodAll_cons r0
  obtain ⟨rfl, rfl, rfl⟩ := trodAll_nil r1
  obtain rfl : args = #[v0, v1] := by cases args; simp_all
  obtain ⟨rfl, rfl⟩ := trodVars_none hV
  obtain ⟨sa0, sl0, sc0, rfl⟩ := okWide_slice Try.underlying43 (hval 0 43 v0 rfl rfl)
  have k0 := h0
  have lt0 : ∀ x ∈ p0, x.block < W.heap.size := by obtain ⟨m, hm⟩ := k0; exact DataW.trod_lt m _ _ _ hm
  obtain ⟨x0, ss0, a0, F0, i0⟩ := A43.arg1 (by rfl) h0 (0)
  obtain ⟨arr1, rfl, _⟩ := okWide_struct Try.underlying46 (hval 1 46 v1 rfl rfl)
  have k1 := h1
  have lt1 : ∀ x ∈ p1, x.block < W.heap.size := by obtain ⟨m, hm⟩ := k1; exact DataW.trod_lt m _ _ _ hm
  obtain ⟨x1, ss1, a1, F1, i1⟩ := A46.argS h1 (0 + ss0.length)
  refine (GL.law2 progOK (f := 52) i0 i1 fun h t0 t1 => GL.FnExactPutRow_law t0 t1).mono fun e W' ⟨he, bel⟩ => ?_
  subst he
  exact ⟨_, rfl, _, _, _, [], _, [], hW', trodAll_mk1 (shut_bool Try.underlying4 _), (trodAll_cons_mk (Below.trod laidOut (by kernel_rfl) (of_decide_eq_true (by kernel_rfl)) k0 bel lt0) (trodAll_cons_mk (Below.trod laidOut (by kernel_rfl) (of_decide_eq_true (by kernel_rfl)) k1 bel lt1) trodAll_mk0)), rfl, bel.frame _, fun h => by cases h⟩

theorem over : Rows.fnExactPutRowRow.holds Try.pinned (OpenSpec.ofChange Rows.fnExactPutRowSpec) :=
  OpenClaim.holds_of_wide 4 Try.f4 rfl rfl rfl rfl rfl rfl rfl ⟨rfl, rfl, rfl, rfl, rfl⟩ rfl rfl rfl rfl rfl (by kernel_rfl) Try.func4 (by kernel_rfl)
    (of_decide_eq_true (by kernel_rfl)) (by unfold Func.isWrapper; first | (rw [if_pos (by decide +kernel)]; kernel_rfl) | (rw [if_neg (by decide +kernel)]; exact ⟨rfl, rfl⟩))
    (fun os started H enc _ => lifted os started H enc)

theorem proved : Rows.FnExactPutRowSaid := over
#print axioms proved
end Go.Proofs.Ytflbkhbfbcbcoaa.fnExactPutRow
