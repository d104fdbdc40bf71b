import Derived.Test.YtmgbbehacaldlaaRows
import Derived.WalkKit
import Derived.ProofKit
import Derived.OpenShut
import Derived.ShutString
import Derived.ChangeOld
import Derived.Below
import Derived.Test.YtmgbbehacaldlaaLs
import Derived.Test.YtmgbbehacaldlaaGuFnExactAskLock
/- The law 'FnExactAskLock' holds: its row, from the machine's run. -/
set_option linter.unusedSimpArgs false
set_option linter.unusedVariables false
set_option linter.unnecessarySimpa false
namespace Go.Proofs.Ytmgbbehacaldlaa.fnExactAskLock
open Go.ChangeShapes Go.WideShapes Go.ChangeAt Go.RowKit
set_option linter.unusedVariables false

theorem own : ownKnob Try.prog.godebug = none := by kernel_rfl
theorem laidOut : laidOutB Try.prog = true := by kernel_rfl
theorem A3 : GL.ArgT Try.prog 3 Int := GL.ArgT.int Try.underlying3
theorem A33 : GL.ArgT Try.prog 33 (List Int) := GL.ArgT.list (A := A3) Try.underlying33 (by kernel_rfl)
theorem A24 : GL.ArgT Try.prog 24 (List (List Int)) := GL.ArgT.list (A := A33) Try.underlying24 (by kernel_rfl)
theorem A66 : GL.ArgT Try.prog 66 GL.Lk := GL.ArgT.struct Try.underlying66 (tot := 3) (by kernel_rfl) (GL.OpensF.cons A24 (by kernel_rfl) (GL.OpensF.cons A33 (by kernel_rfl) (GL.OpensF.last A33 (by kernel_rfl) (by kernel_rfl)))) GL.Lk.of GL.Lk.of_rep
theorem A4 : GL.ArgT Try.prog 4 Bool := GL.ArgT.bool Try.underlying4
theorem A68 : GL.ArgT Try.prog 68 GL.Ak := GL.ArgT.struct Try.underlying68 (tot := 4) (by kernel_rfl) (GL.OpensF.cons A3 (by kernel_rfl) (GL.OpensF.cons A3 (by kernel_rfl) (GL.OpensF.cons A4 (by kernel_rfl) (GL.OpensF.last A4 (by kernel_rfl) (by kernel_rfl))))) GL.Ak.of GL.Ak.of_rep

def fidL : List (Nat × Nat) := [(271, 6), (272, 43), (275, 44), (273, 45), (274, 46), (276, 47), (277, 48), (278, 49), (279, 50), (286, 56), (94, 97), (302, 98), (385, 100), (301, 102), (410, 113), (107, 119), (390, 124), (412, 132), (367, 137), (290, 138), (368, 139), (370, 140), (369, 141), (371, 142), (293, 143), (372, 144), (373, 145), (374, 146), (296, 147), (375, 148), (297, 149), (376, 150), (298, 151), (379, 154), (380, 155), (381, 156), (382, 157), (384, 158), (386, 159), (336, 160), (98, 166), (405, 186), (337, 194), (429, 205), (397, 208), (389, 209), (340, 211), (391, 212), (430, 217), (408, 218), (409, 219), (411, 220), (396, 224), (428, 233), (436, 236), (435, 245)]
def fid : Nat → FuncId := fun i => (fidL.lookup i).getD 0
def eqs : List (TypeId × List (Option IntKind)) := []
theorem m6 : GL.fnMt Try.prog fid eqs Try.f6 GL.g271 = true := by kernel_rfl
theorem m43 : GL.fnMt Try.prog fid eqs Try.f43 GL.g272 = true := by kernel_rfl
theorem m44 : GL.fnMt Try.prog fid eqs Try.f44 GL.g275 = true := by kernel_rfl
theorem m45 : GL.fnMt Try.prog fid eqs Try.f45 GL.g273 = true := by kernel_rfl
theorem m46 : GL.fnMt Try.prog fid eqs Try.f46 GL.g274 = true := by kernel_rfl
theorem m47 : GL.fnMt Try.prog fid eqs Try.f47 GL.g276 = true := by kernel_rfl
theorem m48 : GL.fnMt Try.prog fid eqs Try.f48 GL.g277 = true := by kernel_rfl
theorem m49 : GL.fnMt Try.prog fid eqs Try.f49 GL.g278 = true := by kernel_rfl
theorem m50 : GL.fnMt Try.prog fid eqs Try.f50 GL.g279 = true := by kernel_rfl
theorem m56 : GL.fnMt Try.prog fid eqs Try.f56 GL.g286 = true := by kernel_rfl
theorem m97 : GL.fnMt Try.prog fid eqs Try.f97 GL.g94 = true := by kernel_rfl
theorem m98 : GL.fnMt Try.prog fid eqs Try.f98 GL.g302 = true := by kernel_rfl
theorem m100 : GL.fnMt Try.prog fid eqs Try.f100 GL.g385 = true := by kernel_rfl
theorem m102 : GL.fnMt Try.prog fid eqs Try.f102 GL.g301 = true := by kernel_rfl
theorem m113 : GL.fnMt Try.prog fid eqs Try.f113 GL.g410 = true := by kernel_rfl
theorem m119 : GL.fnMt Try.prog fid eqs Try.f119 GL.g107 = true := by kernel_rfl
theorem m124 : GL.fnMt Try.prog fid eqs Try.f124 GL.g390 = true := by kernel_rfl
theorem m132 : GL.fnMt Try.prog fid eqs Try.f132 GL.g412 = true := by kernel_rfl
theorem m137 : GL.fnMt Try.prog fid eqs Try.f137 GL.g367 = true := by kernel_rfl
theorem m138 : GL.fnMt Try.prog fid eqs Try.f138 GL.g290 = true := by kernel_rfl
theorem m139 : GL.fnMt Try.prog fid eqs Try.f139 GL.g368 = true := by kernel_rfl
theorem m140 : GL.fnMt Try.prog fid eqs Try.f140 GL.g370 = true := by kernel_rfl
theorem m141 : GL.fnMt Try.prog fid eqs Try.f141 GL.g369 = true := by kernel_rfl
theorem m142 : GL.fnMt Try.prog fid eqs Try.f142 GL.g371 = true := by kernel_rfl
theorem m143 : GL.fnMt Try.prog fid eqs Try.f143 GL.g293 = true := by kernel_rfl
theorem m144 : GL.fnMt Try.prog fid eqs Try.f144 GL.g372 = true := by kernel_rfl
theorem m145 : GL.fnMt Try.prog fid eqs Try.f145 GL.g373 = true := by kernel_rfl
theorem m146 : GL.fnMt Try.prog fid eqs Try.f146 GL.g374 = true := by kernel_rfl
theorem m147 : GL.fnMt Try.prog fid eqs Try.f147 GL.g296 = true := by kernel_rfl
theorem m148 : GL.fnMt Try.prog fid eqs Try.f148 GL.g375 = true := by kernel_rfl
theorem m149 : GL.fnMt Try.prog fid eqs Try.f149 GL.g297 = true := by kernel_rfl
theorem m150 : GL.fnMt Try.prog fid eqs Try.f150 GL.g376 = true := by kernel_rfl
theorem m151 : GL.fnMt Try.prog fid eqs Try.f151 GL.g298 = true := by kernel_rfl
theorem m154 : GL.fnMt Try.prog fid eqs Try.f154 GL.g379 = true := by kernel_rfl
theorem m155 : GL.fnMt Try.prog fid eqs Try.f155 GL.g380 = true := by kernel_rfl
theorem m156 : GL.fnMt Try.prog fid eqs Try.f156 GL.g381 = true := by kernel_rfl
theorem m157 : GL.fnMt Try.prog fid eqs Try.f157 GL.g382 = true := by kernel_rfl
theorem m158 : GL.fnMt Try.prog fid eqs Try.f158 GL.g384 = true := by kernel_rfl
theorem m159 : GL.fnMt Try.prog fid eqs Try.f159 GL.g386 = true := by kernel_rfl
theorem m160 : GL.fnMt Try.prog fid eqs Try.f160 GL.g336 = true := by kernel_rfl
theorem m166 : GL.fnMt Try.prog fid eqs Try.f166 GL.g98 = true := by kernel_rfl
theorem m186 : GL.fnMt Try.prog fid eqs Try.f186 GL.g405 = true := by kernel_rfl
theorem m194 : GL.fnMt Try.prog fid eqs Try.f194 GL.g337 = true := by kernel_rfl
theorem m205 : GL.fnMt Try.prog fid eqs Try.f205 GL.g429 = true := by kernel_rfl
theorem m208 : GL.fnMt Try.prog fid eqs Try.f208 GL.g397 = true := by kernel_rfl
theorem m209 : GL.fnMt Try.prog fid eqs Try.f209 GL.g389 = true := by kernel_rfl
theorem m212 : GL.fnMt Try.prog fid eqs Try.f212 GL.g391 = true := by kernel_rfl
theorem m217 : GL.fnMt Try.prog fid eqs Try.f217 GL.g430 = true := by kernel_rfl
theorem m218 : GL.fnMt Try.prog fid eqs Try.f218 GL.g408 = true := by kernel_rfl
theorem m219 : GL.fnMt Try.prog fid eqs Try.f219 GL.g409 = true := by kernel_rfl
theorem m220 : GL.fnMt Try.prog fid eqs Try.f220 GL.g411 = true := by kernel_rfl
theorem m224 : GL.fnMt Try.prog fid eqs Try.f224 GL.g396 = true := by kernel_rfl
theorem m233 : GL.fnMt Try.prog fid eqs Try.f233 GL.g428 = true := by kernel_rfl
theorem m236 : GL.fnMt Try.prog fid eqs Try.f236 GL.g436 = true := by kernel_rfl
theorem m245 : GL.fnMt Try.prog fid eqs Try.f245 GL.g435 = true := by kernel_rfl
theorem sorF : GL.CallOK Try.prog fid fun g args h => if g = 340 then GL.sortE args h else none := GL.sortE_ok ⟨_, Try.func211, by kernel_rfl, by kernel_rfl⟩ (fun blk off cap ss W hH hb hs => Go.Proofs.AnyM.slices_Sort_int Try.sortA blk off cap ss W hH hb hs) (fun p cap W => Go.Proofs.AnyM.slices_Sort_int_none Try.sortA p cap W)
theorem extOK : ∀ f e, GL.p.ext f = some e → GL.CallOK Try.prog fid fun g args h => if g = f then e args h else none := fun f e h => by
  have h : (bif Nat.beq f 340 then some GL.sortE else none) = some e := h
  rcases GL.bif_some h with ⟨rfl, h⟩ | ⟨_, h⟩
  · cases h; exact sorF
  cases h
theorem allOK : GL.AllOK Try.prog fid eqs GL.fnL :=
  .cons Try.func6 rfl m6 (
  .cons Try.func43 rfl m43 (
  .cons Try.func44 rfl m44 (
  .cons Try.func45 rfl m45 (
  .cons Try.func46 rfl m46 (
  .cons Try.func47 rfl m47 (
  .cons Try.func48 rfl m48 (
  .cons Try.func49 rfl m49 (
  .cons Try.func50 rfl m50 (
  .cons Try.func56 rfl m56 (
  .cons Try.func97 rfl m97 (
  .cons Try.func98 rfl m98 (
  .cons Try.func100 rfl m100 (
  .cons Try.func102 rfl m102 (
  .cons Try.func113 rfl m113 (
  .cons Try.func119 rfl m119 (
  .cons Try.func124 rfl m124 (
  .cons Try.func132 rfl m132 (
  .cons Try.func137 rfl m137 (
  .cons Try.func138 rfl m138 (
  .cons Try.func139 rfl m139 (
  .cons Try.func140 rfl m140 (
  .cons Try.func141 rfl m141 (
  .cons Try.func142 rfl m142 (
  .cons Try.func143 rfl m143 (
  .cons Try.func144 rfl m144 (
  .cons Try.func145 rfl m145 (
  .cons Try.func146 rfl m146 (
  .cons Try.func147 rfl m147 (
  .cons Try.func148 rfl m148 (
  .cons Try.func149 rfl m149 (
  .cons Try.func150 rfl m150 (
  .cons Try.func151 rfl m151 (
  .cons Try.func154 rfl m154 (
  .cons Try.func155 rfl m155 (
  .cons Try.func156 rfl m156 (
  .cons Try.func157 rfl m157 (
  .cons Try.func158 rfl m158 (
  .cons Try.func159 rfl m159 (
  .cons Try.func160 rfl m160 (
  .cons Try.func166 rfl m166 (
  .cons Try.func186 rfl m186 (
  .cons Try.func194 rfl m194 (
  .cons Try.func205 rfl m205 (
  .cons Try.func208 rfl m208 (
  .cons Try.func209 rfl m209 (
  .cons Try.func212 rfl m212 (
  .cons Try.func217 rfl m217 (
  .cons Try.func218 rfl m218 (
  .cons Try.func219 rfl m219 (
  .cons Try.func220 rfl m220 (
  .cons Try.func224 rfl m224 (
  .cons Try.func233 rfl m233 (
  .cons Try.func236 rfl m236 (
  .cons Try.func245 rfl m245 (.nil)))))))))))))))))))))))))))))))))))))))))))))))))))))))
theorem progOK : GL.ProgOK Try.prog fid eqs GL.p :=
  ⟨by kernel_rfl, (GL.eqs_sound (by kernel_rfl)), allOK.fn, extOK⟩
/-! ### THE ROW -/
set_option maxRecDepth 100000 in
theorem lifted (os : Os) (started : os.Started) (H : Type) (enc : TypeId × Value → H) :
    ReturnsInHanded {} Try.checked os 6 .any (Rows.fnExactAskLockSpec.pre6 enc Try.prog Try.f6 Rows.fnExactAskLockRow.domain false) (Rows.fnExactAskLockSpec.post enc Try.prog Try.f6 false true false false) := by
  refine returnsInHanded_of_change (C := Try.checked) own started (by kernel_rfl) Try.func6
    (ChangeSpec.witness6 (enc := enc) (C := Try.checked) false ⟨#[], #[.agg #[.slice none 0 0, .slice none 0 0, .slice none 0 0], .agg #[.int .i64 0, .int .i64 0, .bool false, .bool false]], []⟩ 12 (by kernel_rfl) (by kernel_rfl) (by kernel_rfl) (by kernel_rfl)) ?_
  intro W base args ds gs before hval0 hW hcnd _
  have hval : ∀ (j : Nat) t v, Try.f6.params[j]? = some t → args[j]? = some v → Value.okWide Try.prog W .any base t v := hval0
  have hW' := hW
  obtain ⟨p, q, hA0, hV, rfl, hfz, hnd⟩ := hW
  have hA : DataW.TrodAll enc Try.prog W 0 (fun _ => true) true Try.f6.params.toList args.toList ds p := hA0
  rw [Try.params6] at hA hval
  obtain ⟨v0, vs0, d0, ds0, p0, q0, hargs, rfl, rfl, h0, r0⟩ := trodAll_cons hA
  obtain ⟨v1, vs1, d1, ds1, p1, q1, rfl, rfl, rfl, h1, r1⟩ := trodAll_cons r0
  obtain ⟨rfl, rfl, rfl⟩ := trodAll_nil r1
  obtain rfl : args = #[v0, v1] := by cases args; simp_all
  obtain ⟨rfl, rfl⟩ := trodVars_none hV
  obtain ⟨arr0, rfl, _⟩ := okWide_struct Try.underlying66 (hval 0 66 v0 rfl rfl)
  have k0 := h0
  have lt0 : ∀ x ∈ p0, x.block < W.heap.size := by obtain ⟨m, hm⟩ := k0; exact DataW.trod_lt m _ _ _ hm
  obtain ⟨x0, ss0, a0, F0, i0⟩ := A66.argS h0 (0)
  obtain ⟨arr1, rfl, _⟩ := okWide_struct Try.underlying68 (hval 1 68 v1 rfl rfl)
  have k1 := h1
  have lt1 : ∀ x ∈ p1, x.block < W.heap.size := by obtain ⟨m, hm⟩ := k1; exact DataW.trod_lt m _ _ _ hm
  obtain ⟨x1, ss1, a1, F1, i1⟩ := A68.argS h1 (0 + ss0.length)
  refine (GL.law2 progOK (f := 271) i0 i1 fun h t0 t1 => GL.FnExactAskLock_law t0 t1).mono fun e W' ⟨he, bel⟩ => ?_
  subst he
  exact ⟨_, rfl, _, _, _, [], _, [], hW', trodAll_mk1 (shut_bool Try.underlying4 _), (trodAll_cons_mk (Below.trod laidOut (by kernel_rfl) (of_decide_eq_true (by kernel_rfl)) k0 bel lt0) (trodAll_cons_mk (Below.trod laidOut (by kernel_rfl) (of_decide_eq_true (by kernel_rfl)) k1 bel lt1) trodAll_mk0)), rfl, bel.frame _, fun h => by cases h⟩

theorem over : Rows.fnExactAskLockRow.holds Try.pinned (OpenSpec.ofChange Rows.fnExactAskLockSpec) :=
  OpenClaim.holds_of_wide 6 Try.f6 rfl rfl rfl rfl rfl rfl rfl ⟨rfl, rfl, rfl, rfl, rfl⟩ rfl rfl rfl rfl rfl (by kernel_rfl) Try.func6 (by kernel_rfl)
    (of_decide_eq_true (by kernel_rfl)) (by unfold Func.isWrapper; first | (rw [if_pos (by decide +kernel)]; kernel_rfl) | (rw [if_neg (by decide +kernel)]; exact ⟨rfl, rfl⟩))
    (fun os started H enc _ => lifted os started H enc)

theorem proved : Rows.FnExactAskLockSaid := over
#print axioms proved
end Go.Proofs.Ytmgbbehacaldlaa.fnExactAskLock
