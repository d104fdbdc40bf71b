import Derived.Test.YtiikknacnbbbjaaRows
import Derived.WalkKit
import Derived.ProofKit
import Derived.OpenShut
import Derived.ShutString
import Derived.ChangeOld
import Derived.Below
import Derived.Test.YtiikknacnbbbjaaGuFnExactSetColumn
/- The law 'FnExactSetColumn' holds: its row, from the machine's run. -/
set_option linter.unusedSimpArgs false
set_option linter.unusedVariables false
namespace Go.Proofs.Ytiikknacnbbbjaa.fnExactSetColumn
open Go.ChangeShapes Go.WideShapes Go.ChangeAt Go.RowKit
set_option linter.unusedVariables false

theorem own : ownKnob Try.prog.godebug = none := by kernel_rfl
theorem laidOut : laidOutB Try.prog = true := by kernel_rfl
theorem A3 : GL.ArgT Try.prog 3 Int := GL.ArgT.int Try.underlying3
theorem A4 : GL.ArgT Try.prog 4 Bool := GL.ArgT.bool Try.underlying4
theorem A70 : GL.ArgT Try.prog 70 GL.Val := GL.ArgT.struct Try.underlying70 (tot := 2) (by kernel_rfl) (GL.OpensF.cons A4 (by kernel_rfl) (GL.OpensF.last A3 (by kernel_rfl) (by kernel_rfl))) GL.Val.of GL.Val.of_rep
theorem A74 : GL.ArgT Try.prog 74 (List GL.Val) := GL.ArgT.list (A := A70) Try.underlying74 (by kernel_rfl)
theorem A76 : GL.ArgT Try.prog 76 GL.Rw := GL.ArgT.struct Try.underlying76 (tot := 2) (by kernel_rfl) (GL.OpensF.cons A3 (by kernel_rfl) (GL.OpensF.last A74 (by kernel_rfl) (by kernel_rfl))) GL.Rw.of GL.Rw.of_rep
theorem A61 : GL.ArgT Try.prog 61 (List GL.Rw) := GL.ArgT.list (A := A76) Try.underlying61 (by kernel_rfl)

def fidL : List (Nat × Nat) := [(48, 7), (25, 33), (26, 34), (41, 47), (42, 49), (45, 51), (46, 52), (47, 53), (50, 54), (49, 55), (51, 56), (53, 57), (54, 59), (57, 61), (62, 65), (63, 66), (64, 67), (98, 99), (100, 101), (102, 103), (107, 108), (110, 111), (114, 115), (115, 116), (116, 117), (117, 118), (118, 119), (119, 120), (121, 122), (122, 123), (123, 124), (126, 127), (127, 128), (128, 129), (130, 131), (131, 133), (145, 146), (146, 147), (147, 148), (148, 149), (149, 150), (155, 157), (156, 158), (161, 162), (172, 173)]
def fid : Nat → FuncId := fun i => (fidL.lookup i).getD 0
def eqs : List (TypeId × List (Option IntKind)) := []
theorem m7 : GL.fnMt Try.prog fid eqs Try.f7 GL.g48 = true := by kernel_rfl
theorem m33 : GL.fnMt Try.prog fid eqs Try.f33 GL.g25 = true := by kernel_rfl
theorem m34 : GL.fnMt Try.prog fid eqs Try.f34 GL.g26 = true := by kernel_rfl
theorem m47 : GL.fnMt Try.prog fid eqs Try.f47 GL.g41 = true := by kernel_rfl
theorem m49 : GL.fnMt Try.prog fid eqs Try.f49 GL.g42 = true := by kernel_rfl
theorem m51 : GL.fnMt Try.prog fid eqs Try.f51 GL.g45 = true := by kernel_rfl
theorem m52 : GL.fnMt Try.prog fid eqs Try.f52 GL.g46 = true := by kernel_rfl
theorem m53 : GL.fnMt Try.prog fid eqs Try.f53 GL.g47 = true := by kernel_rfl
theorem m54 : GL.fnMt Try.prog fid eqs Try.f54 GL.g50 = true := by kernel_rfl
theorem m55 : GL.fnMt Try.prog fid eqs Try.f55 GL.g49 = true := by kernel_rfl
theorem m56 : GL.fnMt Try.prog fid eqs Try.f56 GL.g51 = true := by kernel_rfl
theorem m57 : GL.fnMt Try.prog fid eqs Try.f57 GL.g53 = true := by kernel_rfl
theorem m59 : GL.fnMt Try.prog fid eqs Try.f59 GL.g54 = true := by kernel_rfl
theorem m61 : GL.fnMt Try.prog fid eqs Try.f61 GL.g57 = true := by kernel_rfl
theorem m65 : GL.fnMt Try.prog fid eqs Try.f65 GL.g62 = true := by kernel_rfl
theorem m66 : GL.fnMt Try.prog fid eqs Try.f66 GL.g63 = true := by kernel_rfl
theorem m67 : GL.fnMt Try.prog fid eqs Try.f67 GL.g64 = true := by kernel_rfl
theorem m99 : GL.fnMt Try.prog fid eqs Try.f99 GL.g98 = true := by kernel_rfl
theorem m101 : GL.fnMt Try.prog fid eqs Try.f101 GL.g100 = true := by kernel_rfl
theorem m103 : GL.fnMt Try.prog fid eqs Try.f103 GL.g102 = true := by kernel_rfl
theorem m108 : GL.fnMt Try.prog fid eqs Try.f108 GL.g107 = true := by kernel_rfl
theorem m111 : GL.fnMt Try.prog fid eqs Try.f111 GL.g110 = true := by kernel_rfl
theorem m115 : GL.fnMt Try.prog fid eqs Try.f115 GL.g114 = true := by kernel_rfl
theorem m116 : GL.fnMt Try.prog fid eqs Try.f116 GL.g115 = true := by kernel_rfl
theorem m117 : GL.fnMt Try.prog fid eqs Try.f117 GL.g116 = true := by kernel_rfl
theorem m118 : GL.fnMt Try.prog fid eqs Try.f118 GL.g117 = true := by kernel_rfl
theorem m119 : GL.fnMt Try.prog fid eqs Try.f119 GL.g118 = true := by kernel_rfl
theorem m120 : GL.fnMt Try.prog fid eqs Try.f120 GL.g119 = true := by kernel_rfl
theorem m122 : GL.fnMt Try.prog fid eqs Try.f122 GL.g121 = true := by kernel_rfl
theorem m123 : GL.fnMt Try.prog fid eqs Try.f123 GL.g122 = true := by kernel_rfl
theorem m124 : GL.fnMt Try.prog fid eqs Try.f124 GL.g123 = true := by kernel_rfl
theorem m127 : GL.fnMt Try.prog fid eqs Try.f127 GL.g126 = true := by kernel_rfl
theorem m128 : GL.fnMt Try.prog fid eqs Try.f128 GL.g127 = true := by kernel_rfl
theorem m129 : GL.fnMt Try.prog fid eqs Try.f129 GL.g128 = true := by kernel_rfl
theorem m131 : GL.fnMt Try.prog fid eqs Try.f131 GL.g130 = true := by kernel_rfl
theorem m133 : GL.fnMt Try.prog fid eqs Try.f133 GL.g131 = true := by kernel_rfl
theorem m146 : GL.fnMt Try.prog fid eqs Try.f146 GL.g145 = true := by kernel_rfl
theorem m147 : GL.fnMt Try.prog fid eqs Try.f147 GL.g146 = true := by kernel_rfl
theorem m148 : GL.fnMt Try.prog fid eqs Try.f148 GL.g147 = true := by kernel_rfl
theorem m149 : GL.fnMt Try.prog fid eqs Try.f149 GL.g148 = true := by kernel_rfl
theorem m150 : GL.fnMt Try.prog fid eqs Try.f150 GL.g149 = true := by kernel_rfl
theorem m158 : GL.fnMt Try.prog fid eqs Try.f158 GL.g156 = true := by kernel_rfl
theorem m162 : GL.fnMt Try.prog fid eqs Try.f162 GL.g161 = true := by kernel_rfl
theorem m173 : GL.fnMt Try.prog fid eqs Try.f173 GL.g172 = true := by kernel_rfl
theorem allOK : GL.AllOK Try.prog fid eqs GL.fnL :=
  .cons Try.func7 rfl m7 (
  .cons Try.func33 rfl m33 (
  .cons Try.func34 rfl m34 (
  .cons Try.func47 rfl m47 (
  .cons Try.func49 rfl m49 (
  .cons Try.func51 rfl m51 (
  .cons Try.func52 rfl m52 (
  .cons Try.func53 rfl m53 (
  .cons Try.func54 rfl m54 (
  .cons Try.func55 rfl m55 (
  .cons Try.func56 rfl m56 (
  .cons Try.func57 rfl m57 (
  .cons Try.func59 rfl m59 (
  .cons Try.func61 rfl m61 (
  .cons Try.func65 rfl m65 (
  .cons Try.func66 rfl m66 (
  .cons Try.func67 rfl m67 (
  .cons Try.func99 rfl m99 (
  .cons Try.func101 rfl m101 (
  .cons Try.func103 rfl m103 (
  .cons Try.func108 rfl m108 (
  .cons Try.func111 rfl m111 (
  .cons Try.func115 rfl m115 (
  .cons Try.func116 rfl m116 (
  .cons Try.func117 rfl m117 (
  .cons Try.func118 rfl m118 (
  .cons Try.func119 rfl m119 (
  .cons Try.func120 rfl m120 (
  .cons Try.func122 rfl m122 (
  .cons Try.func123 rfl m123 (
  .cons Try.func124 rfl m124 (
  .cons Try.func127 rfl m127 (
  .cons Try.func128 rfl m128 (
  .cons Try.func129 rfl m129 (
  .cons Try.func131 rfl m131 (
  .cons Try.func133 rfl m133 (
  .cons Try.func146 rfl m146 (
  .cons Try.func147 rfl m147 (
  .cons Try.func148 rfl m148 (
  .cons Try.func149 rfl m149 (
  .cons Try.func150 rfl m150 (
  .cons Try.func158 rfl m158 (
  .cons Try.func162 rfl m162 (
  .cons Try.func173 rfl m173 (.nil))))))))))))))))))))))))))))))))))))))))))))
theorem progOK : GL.ProgOK Try.prog fid eqs GL.p :=
  ⟨by kernel_rfl, (GL.eqs_sound (by kernel_rfl)), allOK.fn, (fun f e h => by cases h)⟩
/-! ### THE ROW -/
set_option maxRecDepth 100000 in
theorem lifted (os : Os) (started : os.Started) (H : Type) (enc : TypeId × Value → H) :
    ReturnsInHanded {} Try.checked os 7 .any (Rows.fnExactSetColumnSpec.pre6 enc Try.prog Try.f7 Rows.fnExactSetColumnRow.domain false) (Rows.fnExactSetColumnSpec.post enc Try.prog Try.f7 false true false false) := by
  refine returnsInHanded_of_change (C := Try.checked) own started (by kernel_rfl) Try.func7
    (ChangeSpec.witness6 (enc := enc) (C := Try.checked) false ⟨#[], #[.slice none 0 0, .int .i64 0, .int .i64 0, .agg #[.bool false, .int .i64 0]], []⟩ 12 (by kernel_rfl) (by kernel_rfl) (by kernel_rfl) (by kernel_rfl)) ?_
  intro W base args ds gs before hval0 hW hcnd _
  have hval : ∀ (j : Nat) t v, Try.f7.params[j]? = some t → args[j]? = some v → Value.okWide Try.prog W .any base t v := hval0
  have hW' := hW
  obtain ⟨p, q, hA0, hV, rfl, hfz, hnd⟩ := hW
  have hA : DataW.TrodAll enc Try.prog W 0 (fun _ => true) true Try.f7.params.toList args.toList ds p := hA0
  rw [Try.params7] at hA hval
  obtain ⟨v0, vs0, d0, ds0, p0, q0, hargs, rfl, rfl, h0, r0⟩ := trodAll_cons hA
  obtain ⟨v1, vs1, d1, ds1, p1, q1, rfl, rfl, rfl, h1, r1⟩ := trodAll_cons r0
  obtain ⟨v2, vs2, d2, ds2, p2, q2, rfl, rfl, rfl, h2, r2⟩ := trodAll_cons r1
  obtain ⟨v3, vs3, d3, ds3, p3, q3, rfl, rfl, rfl, h3, r3⟩ := trodAll_cons r2
  obtain ⟨rfl, rfl, rfl⟩ := trodAll_nil r3
  obtain rfl : args = #[v0, v1, v2, v3] := by cases args; simp_all
  obtain ⟨rfl, rfl⟩ := trodVars_none hV
  obtain ⟨sa0, sl0, sc0, rfl⟩ := okWide_slice Try.underlying61 (hval 0 61 v0 rfl rfl)
  have k0 := h0
  have lt0 : ∀ x ∈ p0, x.block < W.heap.size := by obtain ⟨m, hm⟩ := k0; exact DataW.trod_lt m _ _ _ hm
  obtain ⟨x0, ss0, a0, F0, i0⟩ := A61.arg1 (by rfl) h0 (0)
  obtain ⟨n1, rfl⟩ := okWide_int Try.underlying3 (hval 1 3 v1 rfl rfl)
  have k1 := h1
  have lt1 : ∀ x ∈ p1, x.block < W.heap.size := by obtain ⟨m, hm⟩ := k1; exact DataW.trod_lt m _ _ _ hm
  obtain ⟨x1, ss1, a1, F1, i1⟩ := A3.arg1 (by rfl) h1 (0 + ss0.length)
  obtain ⟨n2, rfl⟩ := okWide_int Try.underlying3 (hval 2 3 v2 rfl rfl)
  have k2 := h2
  have lt2 : ∀ x ∈ p2, x.block < W.heap.size := by obtain ⟨m, hm⟩ := k2; exact DataW.trod_lt m _ _ _ hm
  obtain ⟨x2, ss2, a2, F2, i2⟩ := A3.arg1 (by rfl) h2 (0 + ss0.length + ss1.length)
  obtain ⟨arr3, rfl, _⟩ := okWide_struct Try.underlying70 (hval 3 70 v3 rfl rfl)
  have k3 := h3
  have lt3 : ∀ x ∈ p3, x.block < W.heap.size := by obtain ⟨m, hm⟩ := k3; exact DataW.trod_lt m _ _ _ hm
  obtain ⟨x3, ss3, a3, F3, i3⟩ := A70.argS h3 (0 + ss0.length + ss1.length + ss2.length)
  refine (GL.law4 progOK (f := 48) i0 i1 i2 i3 fun h t0 t1 t2 t3 => GL.FnExactSetColumn_law t0 t1 t2 t3).mono fun e W' ⟨he, bel⟩ => ?_
  subst he
  exact ⟨_, rfl, _, _, _, [], _, [], hW', trodAll_mk1 (shut_bool Try.underlying4 _), (trodAll_cons_mk (Below.trod laidOut (by kernel_rfl) (of_decide_eq_true (by kernel_rfl)) k0 bel lt0) (trodAll_cons_mk (Below.trod laidOut (by kernel_rfl) (of_decide_eq_true (by kernel_rfl)) k1 bel lt1) (trodAll_cons_mk (Below.trod laidOut (by kernel_rfl) (of_decide_eq_true (by kernel_rfl)) k2 bel lt2) (trodAll_cons_mk (Below.trod laidOut (by kernel_rfl) (of_decide_eq_true (by kernel_rfl)) k3 bel lt3) trodAll_mk0)))), rfl, bel.frame _, fun h => by cases h⟩

theorem over : Rows.fnExactSetColumnRow.holds Try.pinned (OpenSpec.ofChange Rows.fnExactSetColumnSpec) :=
  OpenClaim.holds_of_wide 7 Try.f7 rfl rfl rfl rfl rfl rfl rfl ⟨rfl, rfl, rfl, rfl, rfl⟩ rfl rfl rfl rfl rfl (by kernel_rfl) Try.func7 (by kernel_rfl)
    (of_decide_eq_true (by kernel_rfl)) (by unfold Func.isWrapper; first | (rw [if_pos (by decide +kernel)]; kernel_rfl) | (rw [if_neg (by decide +kernel)]; exact ⟨rfl, rfl⟩))
    (fun os started H enc _ => lifted os started H enc)

theorem proved : Rows.FnExactSetColumnSaid := over
#print axioms proved
end Go.Proofs.Ytiikknacnbbbjaa.fnExactSetColumn
