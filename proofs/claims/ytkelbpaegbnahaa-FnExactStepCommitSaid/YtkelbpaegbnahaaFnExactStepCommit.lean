import Derived.Test.YtkelbpaegbnahaaRows
import Derived.WalkKit
import Derived.ProofKit
import Derived.OpenShut
import Derived.ShutString
import Derived.ChangeOld
import Derived.Below
import Derived.Test.YtkelbpaegbnahaaGuFnExactStepCommit
/- The law 'FnExactStepCommit' holds: its row, from the machine's run. -/
set_option linter.unusedSimpArgs false
set_option linter.unusedVariables false
namespace Go.Proofs.Ytkelbpaegbnahaa.fnExactStepCommit
open Go.ChangeShapes Go.WideShapes Go.ChangeAt Go.RowKit
set_option linter.unusedVariables false

theorem own : ownKnob Try.prog.godebug = none := by kernel_rfl
theorem laidOut : laidOutB Try.prog = true := by kernel_rfl
theorem A3 : GL.ArgT Try.prog 3 Int := GL.ArgT.int Try.underlying3
theorem A29 : GL.ArgT Try.prog 29 (List Int) := GL.ArgT.list (A := A3) Try.underlying29 (by kernel_rfl)
theorem A62 : GL.ArgT Try.prog 62 GL.Cm := GL.ArgT.struct Try.underlying62 (tot := 3) (by kernel_rfl) (GL.OpensF.cons A29 (by kernel_rfl) (GL.OpensF.cons A29 (by kernel_rfl) (GL.OpensF.last A3 (by kernel_rfl) (by kernel_rfl)))) GL.Cm.of GL.Cm.of_rep
theorem A64 : GL.ArgT Try.prog 64 GL.Tk := GL.ArgT.struct Try.underlying64 (tot := 3) (by kernel_rfl) (GL.OpensF.cons A3 (by kernel_rfl) (GL.OpensF.cons A3 (by kernel_rfl) (GL.OpensF.last A3 (by kernel_rfl) (by kernel_rfl)))) GL.Tk.of GL.Tk.of_rep

def fidL : List (Nat × Nat) := [(179, 6), (180, 43), (183, 44), (181, 45), (182, 46), (184, 47), (185, 48), (186, 49), (187, 50), (94, 66), (98, 70), (107, 79), (290, 82), (192, 83), (292, 84), (291, 85), (293, 86), (191, 87), (294, 88), (295, 89), (296, 90), (297, 91), (298, 92), (302, 108), (388, 109), (306, 110), (301, 111), (389, 112), (303, 113), (307, 114), (308, 115), (305, 116), (390, 129), (304, 130), (392, 131), (391, 140)]
def fid : Nat → FuncId := fun i => (fidL.lookup i).getD 0
def eqs : List (TypeId × List (Option IntKind)) := []
theorem m6 : GL.fnMt Try.prog fid eqs Try.f6 GL.g179 = true := by kernel_rfl
theorem m43 : GL.fnMt Try.prog fid eqs Try.f43 GL.g180 = true := by kernel_rfl
theorem m44 : GL.fnMt Try.prog fid eqs Try.f44 GL.g183 = true := by kernel_rfl
theorem m45 : GL.fnMt Try.prog fid eqs Try.f45 GL.g181 = true := by kernel_rfl
theorem m46 : GL.fnMt Try.prog fid eqs Try.f46 GL.g182 = true := by kernel_rfl
theorem m47 : GL.fnMt Try.prog fid eqs Try.f47 GL.g184 = true := by kernel_rfl
theorem m48 : GL.fnMt Try.prog fid eqs Try.f48 GL.g185 = true := by kernel_rfl
theorem m49 : GL.fnMt Try.prog fid eqs Try.f49 GL.g186 = true := by kernel_rfl
theorem m50 : GL.fnMt Try.prog fid eqs Try.f50 GL.g187 = true := by kernel_rfl
theorem m66 : GL.fnMt Try.prog fid eqs Try.f66 GL.g94 = true := by kernel_rfl
theorem m70 : GL.fnMt Try.prog fid eqs Try.f70 GL.g98 = true := by kernel_rfl
theorem m79 : GL.fnMt Try.prog fid eqs Try.f79 GL.g107 = true := by kernel_rfl
theorem m82 : GL.fnMt Try.prog fid eqs Try.f82 GL.g290 = true := by kernel_rfl
theorem m83 : GL.fnMt Try.prog fid eqs Try.f83 GL.g192 = true := by kernel_rfl
theorem m84 : GL.fnMt Try.prog fid eqs Try.f84 GL.g292 = true := by kernel_rfl
theorem m85 : GL.fnMt Try.prog fid eqs Try.f85 GL.g291 = true := by kernel_rfl
theorem m86 : GL.fnMt Try.prog fid eqs Try.f86 GL.g293 = true := by kernel_rfl
theorem m87 : GL.fnMt Try.prog fid eqs Try.f87 GL.g191 = true := by kernel_rfl
theorem m88 : GL.fnMt Try.prog fid eqs Try.f88 GL.g294 = true := by kernel_rfl
theorem m89 : GL.fnMt Try.prog fid eqs Try.f89 GL.g295 = true := by kernel_rfl
theorem m90 : GL.fnMt Try.prog fid eqs Try.f90 GL.g296 = true := by kernel_rfl
theorem m91 : GL.fnMt Try.prog fid eqs Try.f91 GL.g297 = true := by kernel_rfl
theorem m92 : GL.fnMt Try.prog fid eqs Try.f92 GL.g298 = true := by kernel_rfl
theorem m108 : GL.fnMt Try.prog fid eqs Try.f108 GL.g302 = true := by kernel_rfl
theorem m109 : GL.fnMt Try.prog fid eqs Try.f109 GL.g388 = true := by kernel_rfl
theorem m110 : GL.fnMt Try.prog fid eqs Try.f110 GL.g306 = true := by kernel_rfl
theorem m111 : GL.fnMt Try.prog fid eqs Try.f111 GL.g301 = true := by kernel_rfl
theorem m112 : GL.fnMt Try.prog fid eqs Try.f112 GL.g389 = true := by kernel_rfl
theorem m113 : GL.fnMt Try.prog fid eqs Try.f113 GL.g303 = true := by kernel_rfl
theorem m114 : GL.fnMt Try.prog fid eqs Try.f114 GL.g307 = true := by kernel_rfl
theorem m115 : GL.fnMt Try.prog fid eqs Try.f115 GL.g308 = true := by kernel_rfl
theorem m116 : GL.fnMt Try.prog fid eqs Try.f116 GL.g305 = true := by kernel_rfl
theorem m129 : GL.fnMt Try.prog fid eqs Try.f129 GL.g390 = true := by kernel_rfl
theorem m130 : GL.fnMt Try.prog fid eqs Try.f130 GL.g304 = true := by kernel_rfl
theorem m131 : GL.fnMt Try.prog fid eqs Try.f131 GL.g392 = true := by kernel_rfl
theorem m140 : GL.fnMt Try.prog fid eqs Try.f140 GL.g391 = true := by kernel_rfl
theorem allOK : GL.AllOK Try.prog fid eqs GL.fnL :=
  .cons Try.func6 rfl m6 (
  .cons Try.func43 rfl m43 (
  .cons Try.func44 rfl m44 (
  .cons Try.func45 rfl m45 (
  .cons Try.func46 rfl m46 (
  .cons Try.func47 rfl m47 (
  .cons Try.func48 rfl m48 (
  .cons Try.func49 rfl m49 (
  .cons Try.func50 rfl m50 (
  .cons Try.func66 rfl m66 (
  .cons Try.func70 rfl m70 (
  .cons Try.func79 rfl m79 (
  .cons Try.func82 rfl m82 (
  .cons Try.func83 rfl m83 (
  .cons Try.func84 rfl m84 (
  .cons Try.func85 rfl m85 (
  .cons Try.func86 rfl m86 (
  .cons Try.func87 rfl m87 (
  .cons Try.func88 rfl m88 (
  .cons Try.func89 rfl m89 (
  .cons Try.func90 rfl m90 (
  .cons Try.func91 rfl m91 (
  .cons Try.func92 rfl m92 (
  .cons Try.func108 rfl m108 (
  .cons Try.func109 rfl m109 (
  .cons Try.func110 rfl m110 (
  .cons Try.func111 rfl m111 (
  .cons Try.func112 rfl m112 (
  .cons Try.func113 rfl m113 (
  .cons Try.func114 rfl m114 (
  .cons Try.func115 rfl m115 (
  .cons Try.func116 rfl m116 (
  .cons Try.func129 rfl m129 (
  .cons Try.func130 rfl m130 (
  .cons Try.func131 rfl m131 (
  .cons Try.func140 rfl m140 (.nil))))))))))))))))))))))))))))))))))))
theorem progOK : GL.ProgOK Try.prog fid eqs GL.p :=
  ⟨by kernel_rfl, (GL.eqs_sound (by kernel_rfl)), allOK.fn, (fun f e h => by cases h)⟩
/-! ### THE ROW -/
set_option maxRecDepth 100000 in
theorem lifted (os : Os) (started : os.Started) (H : Type) (enc : TypeId × Value → H) :
    ReturnsInHanded {} Try.checked os 6 .any (Rows.fnExactStepCommitSpec.pre6 enc Try.prog Try.f6 Rows.fnExactStepCommitRow.domain false) (Rows.fnExactStepCommitSpec.post enc Try.prog Try.f6 false true false false) := by
  refine returnsInHanded_of_change (C := Try.checked) own started (by kernel_rfl) Try.func6
    (ChangeSpec.witness6 (enc := enc) (C := Try.checked) false ⟨#[], #[.agg #[.slice none 0 0, .slice none 0 0, .int .i64 0], .agg #[.int .i64 0, .int .i64 0, .int .i64 0]], []⟩ 12 (by kernel_rfl) (by kernel_rfl) (by kernel_rfl) (by kernel_rfl)) ?_
  intro W base args ds gs before hval0 hW hcnd _
  have hval : ∀ (j : Nat) t v, Try.f6.params[j]? = some t → args[j]? = some v → Value.okWide Try.prog W .any base t v := hval0
  have hW' := hW
  obtain ⟨p, q, hA0, hV, rfl, hfz, hnd⟩ := hW
  have hA : DataW.TrodAll enc Try.prog W 0 (fun _ => true) true Try.f6.params.toList args.toList ds p := hA0
  rw [Try.params6] at hA hval
  obtain ⟨v0, vs0, d0, ds0, p0, q0, hargs, rfl, rfl, h0, r0⟩ := trodAll_cons hA
  obtain ⟨v1, vs1, d1, ds1, p1, q1, rfl, rfl, rfl, h1, r1⟩ := trodAll_cons r0
  obtain ⟨rfl, rfl, rfl⟩ := trodAll_nil r1
  obtain rfl : args = #[v0, v1] := by cases args; simp_all
  obtain ⟨rfl, rfl⟩ := trodVars_none hV
  obtain ⟨arr0, rfl, _⟩ := okWide_struct Try.underlying62 (hval 0 62 v0 rfl rfl)
  have k0 := h0
  have lt0 : ∀ x ∈ p0, x.block < W.heap.size := by obtain ⟨m, hm⟩ := k0; exact DataW.trod_lt m _ _ _ hm
  obtain ⟨x0, ss0, a0, F0, i0⟩ := A62.argS h0 (0)
  obtain ⟨arr1, rfl, _⟩ := okWide_struct Try.underlying64 (hval 1 64 v1 rfl rfl)
  have k1 := h1
  have lt1 : ∀ x ∈ p1, x.block < W.heap.size := by obtain ⟨m, hm⟩ := k1; exact DataW.trod_lt m _ _ _ hm
  obtain ⟨x1, ss1, a1, F1, i1⟩ := A64.argS h1 (0 + ss0.length)
  refine (GL.law2 progOK (f := 179) i0 i1 fun h t0 t1 => GL.FnExactStepCommit_law t0 t1).mono fun e W' ⟨he, bel⟩ => ?_
  subst he
  exact ⟨_, rfl, _, _, _, [], _, [], hW', trodAll_mk1 (shut_bool Try.underlying4 _), (trodAll_cons_mk (Below.trod laidOut (by kernel_rfl) (of_decide_eq_true (by kernel_rfl)) k0 bel lt0) (trodAll_cons_mk (Below.trod laidOut (by kernel_rfl) (of_decide_eq_true (by kernel_rfl)) k1 bel lt1) trodAll_mk0)), rfl, bel.frame _, fun h => by cases h⟩

theorem over : Rows.fnExactStepCommitRow.holds Try.pinned (OpenSpec.ofChange Rows.fnExactStepCommitSpec) :=
  OpenClaim.holds_of_wide 6 Try.f6 rfl rfl rfl rfl rfl rfl rfl ⟨rfl, rfl, rfl, rfl, rfl⟩ rfl rfl rfl rfl rfl (by kernel_rfl) Try.func6 (by kernel_rfl)
    (of_decide_eq_true (by kernel_rfl)) (by unfold Func.isWrapper; first | (rw [if_pos (by decide +kernel)]; kernel_rfl) | (rw [if_neg (by decide +kernel)]; exact ⟨rfl, rfl⟩))
    (fun os started H enc _ => lifted os started H enc)

theorem proved : Rows.FnExactStepCommitSaid := over
#print axioms proved
end Go.Proofs.Ytkelbpaegbnahaa.fnExactStepCommit
