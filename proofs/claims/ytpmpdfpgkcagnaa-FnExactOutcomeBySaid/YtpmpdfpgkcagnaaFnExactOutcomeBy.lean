import Derived.Test.YtpmpdfpgkcagnaaRows
import Derived.WalkKit
import Derived.ProofKit
import Derived.OpenShut
import Derived.ShutString
import Derived.ChangeOld
import Derived.Below
import Derived.Test.YtpmpdfpgkcagnaaLw
import Derived.Test.YtpmpdfpgkcagnaaGuFnExactOutcomeBy
/- The law 'FnExactOutcomeBy' holds: its row, from the machine's run. -/
set_option linter.unusedSimpArgs false
set_option linter.unusedVariables false
set_option linter.unnecessarySimpa false
namespace Go.Proofs.Ytpmpdfpgkcagnaa.fnExactOutcomeBy
open Go.ChangeShapes Go.WideShapes Go.ChangeAt Go.RowKit
set_option linter.unusedVariables false

theorem own : ownKnob Try.prog.godebug = none := by kernel_rfl
theorem laidOut : laidOutB Try.prog = true := by kernel_rfl
theorem A3 : GL.ArgT Try.prog 3 Int := GL.ArgT.int Try.underlying3
theorem A4 : GL.ArgT Try.prog 4 Bool := GL.ArgT.bool Try.underlying4
theorem A141 : GL.ArgT Try.prog 141 GL.Dd := GL.ArgT.struct Try.underlying141 (tot := 2) (by kernel_rfl) (GL.OpensF.cons A3 (by kernel_rfl) (GL.OpensF.last A4 (by kernel_rfl) (by kernel_rfl))) GL.Dd.of GL.Dd.of_rep
theorem A22 : GL.ArgT Try.prog 22 (List GL.Dd) := GL.ArgT.list (A := A141) Try.underlying22 (by kernel_rfl)
theorem A27 : GL.ArgT Try.prog 27 (List Int) := GL.ArgT.list (A := A3) Try.underlying27 (by kernel_rfl)
theorem A23 : GL.ArgT Try.prog 23 (List (List Int)) := GL.ArgT.list (A := A27) Try.underlying23 (by kernel_rfl)
theorem A25 : GL.ArgT Try.prog 25 GL.Hd := GL.ArgT.struct Try.underlying25 (tot := 3) (by kernel_rfl) (GL.OpensF.cons A3 (by kernel_rfl) (GL.OpensF.cons A22 (by kernel_rfl) (GL.OpensF.last A23 (by kernel_rfl) (by kernel_rfl)))) GL.Hd.of GL.Hd.of_rep
theorem A52 : GL.ArgT Try.prog 52 GL.Hs := GL.ArgT.struct Try.underlying52 (tot := 4) (by kernel_rfl) (GL.OpensF.cons A25 (by kernel_rfl) (GL.OpensF.last A23 (by kernel_rfl) (by kernel_rfl))) GL.Hs.of GL.Hs.of_rep

def fidL : List (Nat × Nat) := [(479, 11), (439, 15), (440, 17), (296, 19), (443, 20), (444, 21), (297, 22), (298, 23), (293, 25), (455, 33), (457, 34), (456, 35), (458, 36), (459, 37), (462, 39), (463, 40), (464, 42), (465, 43), (474, 51), (374, 52), (475, 53), (375, 54), (480, 58), (481, 59), (482, 60), (483, 61), (484, 62), (514, 89), (367, 90), (98, 92), (516, 93), (517, 94), (371, 95), (107, 96), (519, 98), (520, 99), (521, 100), (522, 101), (314, 104), (525, 108), (526, 109), (527, 110), (318, 115), (530, 116), (531, 117), (538, 118), (335, 119), (532, 120), (541, 121), (321, 122), (533, 123), (94, 124), (302, 125), (385, 127), (535, 128), (537, 131), (539, 132), (540, 133), (542, 134), (337, 140), (429, 153), (410, 161), (290, 162), (564, 163), (340, 164), (565, 165), (333, 166), (322, 169), (412, 170), (569, 175), (395, 176), (407, 177), (406, 178), (389, 180), (436, 190), (430, 196), (427, 198)]
def fid : Nat → FuncId := fun i => (fidL.lookup i).getD 0
def eqs : List (TypeId × List (Option IntKind)) := []
theorem m11 : GL.fnMt Try.prog fid eqs Try.f11 GL.g479 = true := by kernel_rfl
theorem m15 : GL.fnMt Try.prog fid eqs Try.f15 GL.g439 = true := by kernel_rfl
theorem m17 : GL.fnMt Try.prog fid eqs Try.f17 GL.g440 = true := by kernel_rfl
theorem m19 : GL.fnMt Try.prog fid eqs Try.f19 GL.g296 = true := by kernel_rfl
theorem m20 : GL.fnMt Try.prog fid eqs Try.f20 GL.g443 = true := by kernel_rfl
theorem m21 : GL.fnMt Try.prog fid eqs Try.f21 GL.g444 = true := by kernel_rfl
theorem m22 : GL.fnMt Try.prog fid eqs Try.f22 GL.g297 = true := by kernel_rfl
theorem m23 : GL.fnMt Try.prog fid eqs Try.f23 GL.g298 = true := by kernel_rfl
theorem m25 : GL.fnMt Try.prog fid eqs Try.f25 GL.g293 = true := by kernel_rfl
theorem m33 : GL.fnMt Try.prog fid eqs Try.f33 GL.g455 = true := by kernel_rfl
theorem m34 : GL.fnMt Try.prog fid eqs Try.f34 GL.g457 = true := by kernel_rfl
theorem m35 : GL.fnMt Try.prog fid eqs Try.f35 GL.g456 = true := by kernel_rfl
theorem m36 : GL.fnMt Try.prog fid eqs Try.f36 GL.g458 = true := by kernel_rfl
theorem m37 : GL.fnMt Try.prog fid eqs Try.f37 GL.g459 = true := by kernel_rfl
theorem m39 : GL.fnMt Try.prog fid eqs Try.f39 GL.g462 = true := by kernel_rfl
theorem m40 : GL.fnMt Try.prog fid eqs Try.f40 GL.g463 = true := by kernel_rfl
theorem m42 : GL.fnMt Try.prog fid eqs Try.f42 GL.g464 = true := by kernel_rfl
theorem m43 : GL.fnMt Try.prog fid eqs Try.f43 GL.g465 = true := by kernel_rfl
theorem m51 : GL.fnMt Try.prog fid eqs Try.f51 GL.g474 = true := by kernel_rfl
theorem m52 : GL.fnMt Try.prog fid eqs Try.f52 GL.g374 = true := by kernel_rfl
theorem m53 : GL.fnMt Try.prog fid eqs Try.f53 GL.g475 = true := by kernel_rfl
theorem m54 : GL.fnMt Try.prog fid eqs Try.f54 GL.g375 = true := by kernel_rfl
theorem m58 : GL.fnMt Try.prog fid eqs Try.f58 GL.g480 = true := by kernel_rfl
theorem m59 : GL.fnMt Try.prog fid eqs Try.f59 GL.g481 = true := by kernel_rfl
theorem m60 : GL.fnMt Try.prog fid eqs Try.f60 GL.g482 = true := by kernel_rfl
theorem m61 : GL.fnMt Try.prog fid eqs Try.f61 GL.g483 = true := by kernel_rfl
theorem m62 : GL.fnMt Try.prog fid eqs Try.f62 GL.g484 = true := by kernel_rfl
theorem m89 : GL.fnMt Try.prog fid eqs Try.f89 GL.g514 = true := by kernel_rfl
theorem m90 : GL.fnMt Try.prog fid eqs Try.f90 GL.g367 = true := by kernel_rfl
theorem m92 : GL.fnMt Try.prog fid eqs Try.f92 GL.g98 = true := by kernel_rfl
theorem m93 : GL.fnMt Try.prog fid eqs Try.f93 GL.g516 = true := by kernel_rfl
theorem m94 : GL.fnMt Try.prog fid eqs Try.f94 GL.g517 = true := by kernel_rfl
theorem m95 : GL.fnMt Try.prog fid eqs Try.f95 GL.g371 = true := by kernel_rfl
theorem m96 : GL.fnMt Try.prog fid eqs Try.f96 GL.g107 = true := by kernel_rfl
theorem m98 : GL.fnMt Try.prog fid eqs Try.f98 GL.g519 = true := by kernel_rfl
theorem m99 : GL.fnMt Try.prog fid eqs Try.f99 GL.g520 = true := by kernel_rfl
theorem m100 : GL.fnMt Try.prog fid eqs Try.f100 GL.g521 = true := by kernel_rfl
theorem m101 : GL.fnMt Try.prog fid eqs Try.f101 GL.g522 = true := by kernel_rfl
theorem m104 : GL.fnMt Try.prog fid eqs Try.f104 GL.g314 = true := by kernel_rfl
theorem m108 : GL.fnMt Try.prog fid eqs Try.f108 GL.g525 = true := by kernel_rfl
theorem m109 : GL.fnMt Try.prog fid eqs Try.f109 GL.g526 = true := by kernel_rfl
theorem m110 : GL.fnMt Try.prog fid eqs Try.f110 GL.g527 = true := by kernel_rfl
theorem m115 : GL.fnMt Try.prog fid eqs Try.f115 GL.g318 = true := by kernel_rfl
theorem m116 : GL.fnMt Try.prog fid eqs Try.f116 GL.g530 = true := by kernel_rfl
theorem m117 : GL.fnMt Try.prog fid eqs Try.f117 GL.g531 = true := by kernel_rfl
theorem m118 : GL.fnMt Try.prog fid eqs Try.f118 GL.g538 = true := by kernel_rfl
theorem m119 : GL.fnMt Try.prog fid eqs Try.f119 GL.g335 = true := by kernel_rfl
theorem m120 : GL.fnMt Try.prog fid eqs Try.f120 GL.g532 = true := by kernel_rfl
theorem m121 : GL.fnMt Try.prog fid eqs Try.f121 GL.g541 = true := by kernel_rfl
theorem m122 : GL.fnMt Try.prog fid eqs Try.f122 GL.g321 = true := by kernel_rfl
theorem m123 : GL.fnMt Try.prog fid eqs Try.f123 GL.g533 = true := by kernel_rfl
theorem m124 : GL.fnMt Try.prog fid eqs Try.f124 GL.g94 = true := by kernel_rfl
theorem m125 : GL.fnMt Try.prog fid eqs Try.f125 GL.g302 = true := by kernel_rfl
theorem m127 : GL.fnMt Try.prog fid eqs Try.f127 GL.g385 = true := by kernel_rfl
theorem m128 : GL.fnMt Try.prog fid eqs Try.f128 GL.g535 = true := by kernel_rfl
theorem m131 : GL.fnMt Try.prog fid eqs Try.f131 GL.g537 = true := by kernel_rfl
theorem m132 : GL.fnMt Try.prog fid eqs Try.f132 GL.g539 = true := by kernel_rfl
theorem m133 : GL.fnMt Try.prog fid eqs Try.f133 GL.g540 = true := by kernel_rfl
theorem m134 : GL.fnMt Try.prog fid eqs Try.f134 GL.g542 = true := by kernel_rfl
theorem m140 : GL.fnMt Try.prog fid eqs Try.f140 GL.g337 = true := by kernel_rfl
theorem m153 : GL.fnMt Try.prog fid eqs Try.f153 GL.g429 = true := by kernel_rfl
theorem m161 : GL.fnMt Try.prog fid eqs Try.f161 GL.g410 = true := by kernel_rfl
theorem m162 : GL.fnMt Try.prog fid eqs Try.f162 GL.g290 = true := by kernel_rfl
theorem m163 : GL.fnMt Try.prog fid eqs Try.f163 GL.g564 = true := by kernel_rfl
theorem m165 : GL.fnMt Try.prog fid eqs Try.f165 GL.g565 = true := by kernel_rfl
theorem m166 : GL.fnMt Try.prog fid eqs Try.f166 GL.g333 = true := by kernel_rfl
theorem m169 : GL.fnMt Try.prog fid eqs Try.f169 GL.g322 = true := by kernel_rfl
theorem m170 : GL.fnMt Try.prog fid eqs Try.f170 GL.g412 = true := by kernel_rfl
theorem m175 : GL.fnMt Try.prog fid eqs Try.f175 GL.g569 = true := by kernel_rfl
theorem m176 : GL.fnMt Try.prog fid eqs Try.f176 GL.g395 = true := by kernel_rfl
theorem m180 : GL.fnMt Try.prog fid eqs Try.f180 GL.g389 = true := by kernel_rfl
theorem m190 : GL.fnMt Try.prog fid eqs Try.f190 GL.g436 = true := by kernel_rfl
theorem m196 : GL.fnMt Try.prog fid eqs Try.f196 GL.g430 = true := by kernel_rfl
theorem valF : GL.CallOK Try.prog fid fun g args h => if g = 406 then GL.valuesE args h else none := GL.valuesE_ok ⟨_, Try.func178, by kernel_rfl, by kernel_rfl⟩ (fun a len cap w => Try.valuesC a len cap w)
theorem srtF : GL.CallOK Try.prog fid fun g args h => if g = 407 then GL.sortedE args h else none := GL.sortedE_ok ⟨_, Try.func177, by kernel_rfl, by kernel_rfl⟩ (fun Bs Bo sv zs w hl hBs hc hI => Try.sortedVals Bs Bo sv zs (by unfold maxLen; omega) (by omega) w hBs hc hI)
theorem sorF : GL.CallOK Try.prog fid fun g args h => if g = 340 then GL.sortE args h else none := GL.sortE_ok ⟨_, Try.func164, by kernel_rfl, by kernel_rfl⟩ (fun blk off cap ss W hH hb hs => Go.Proofs.AnyM.slices_Sort_int Try.sortA blk off cap ss W hH hb hs) (fun p cap W => Go.Proofs.AnyM.slices_Sort_int_none Try.sortA p cap W)
theorem extOK : ∀ f e, GL.p.ext f = some e → GL.CallOK Try.prog fid fun g args h => if g = f then e args h else none := fun f e h => by
  have h : (bif Nat.beq f 340 then some GL.sortE else bif Nat.beq f 407 then some GL.sortedE else bif Nat.beq f 406 then some GL.valuesE else none) = some e := h
  rcases GL.bif_some h with ⟨rfl, h⟩ | ⟨_, h⟩
  · cases h; exact sorF
  rcases GL.bif_some h with ⟨rfl, h⟩ | ⟨_, h⟩
  · cases h; exact srtF
  rcases GL.bif_some h with ⟨rfl, h⟩ | ⟨_, h⟩
  · cases h; exact valF
  cases h
theorem allOK : GL.AllOK Try.prog fid eqs GL.fnL :=
  .cons Try.func11 rfl m11 (
  .cons Try.func15 rfl m15 (
  .cons Try.func17 rfl m17 (
  .cons Try.func19 rfl m19 (
  .cons Try.func20 rfl m20 (
  .cons Try.func21 rfl m21 (
  .cons Try.func22 rfl m22 (
  .cons Try.func23 rfl m23 (
  .cons Try.func25 rfl m25 (
  .cons Try.func33 rfl m33 (
  .cons Try.func34 rfl m34 (
  .cons Try.func35 rfl m35 (
  .cons Try.func36 rfl m36 (
  .cons Try.func37 rfl m37 (
  .cons Try.func39 rfl m39 (
  .cons Try.func40 rfl m40 (
  .cons Try.func42 rfl m42 (
  .cons Try.func43 rfl m43 (
  .cons Try.func51 rfl m51 (
  .cons Try.func52 rfl m52 (
  .cons Try.func53 rfl m53 (
  .cons Try.func54 rfl m54 (
  .cons Try.func58 rfl m58 (
  .cons Try.func59 rfl m59 (
  .cons Try.func60 rfl m60 (
  .cons Try.func61 rfl m61 (
  .cons Try.func62 rfl m62 (
  .cons Try.func89 rfl m89 (
  .cons Try.func90 rfl m90 (
  .cons Try.func92 rfl m92 (
  .cons Try.func93 rfl m93 (
  .cons Try.func94 rfl m94 (
  .cons Try.func95 rfl m95 (
  .cons Try.func96 rfl m96 (
  .cons Try.func98 rfl m98 (
  .cons Try.func99 rfl m99 (
  .cons Try.func100 rfl m100 (
  .cons Try.func101 rfl m101 (
  .cons Try.func104 rfl m104 (
  .cons Try.func108 rfl m108 (
  .cons Try.func109 rfl m109 (
  .cons Try.func110 rfl m110 (
  .cons Try.func115 rfl m115 (
  .cons Try.func116 rfl m116 (
  .cons Try.func117 rfl m117 (
  .cons Try.func118 rfl m118 (
  .cons Try.func119 rfl m119 (
  .cons Try.func120 rfl m120 (
  .cons Try.func121 rfl m121 (
  .cons Try.func122 rfl m122 (
  .cons Try.func123 rfl m123 (
  .cons Try.func124 rfl m124 (
  .cons Try.func125 rfl m125 (
  .cons Try.func127 rfl m127 (
  .cons Try.func128 rfl m128 (
  .cons Try.func131 rfl m131 (
  .cons Try.func132 rfl m132 (
  .cons Try.func133 rfl m133 (
  .cons Try.func134 rfl m134 (
  .cons Try.func140 rfl m140 (
  .cons Try.func153 rfl m153 (
  .cons Try.func161 rfl m161 (
  .cons Try.func162 rfl m162 (
  .cons Try.func163 rfl m163 (
  .cons Try.func165 rfl m165 (
  .cons Try.func166 rfl m166 (
  .cons Try.func169 rfl m169 (
  .cons Try.func170 rfl m170 (
  .cons Try.func175 rfl m175 (
  .cons Try.func176 rfl m176 (
  .cons Try.func180 rfl m180 (
  .cons Try.func190 rfl m190 (
  .cons Try.func196 rfl m196 (.nil)))))))))))))))))))))))))))))))))))))))))))))))))))))))))))))))))))))))))
theorem progOK : GL.ProgOK Try.prog fid eqs GL.p :=
  ⟨by kernel_rfl, (GL.eqs_sound (by kernel_rfl)), allOK.fn, extOK⟩
/-! ### THE ROW -/
set_option maxRecDepth 100000 in
theorem lifted (os : Os) (started : os.Started) (H : Type) (enc : TypeId × Value → H) :
    ReturnsInHanded {} Try.checked os 11 .any (Rows.fnExactOutcomeBySpec.pre6 enc Try.prog Try.f11 Rows.fnExactOutcomeByRow.domain false) (Rows.fnExactOutcomeBySpec.post enc Try.prog Try.f11 false true false false) := by
  refine returnsInHanded_of_change (C := Try.checked) own started (by kernel_rfl) Try.func11
    (ChangeSpec.witness6 (enc := enc) (C := Try.checked) false ⟨#[], #[.agg #[.int .i64 0, .slice none 0 0, .slice none 0 0, .slice none 0 0], .slice none 0 0], []⟩ 12 (by kernel_rfl) (by kernel_rfl) (by kernel_rfl) (by kernel_rfl)) ?_
  intro W base args ds gs before hval0 hW hcnd _
  have hval : ∀ (j : Nat) t v, Try.f11.params[j]? = some t → args[j]? = some v → Value.okWide Try.prog W .any base t v := hval0
  have hW' := hW
  obtain ⟨p, q, hA0, hV, rfl, hfz, hnd⟩ := hW
  have hA : DataW.TrodAll enc Try.prog W 0 (fun _ => true) true Try.f11.params.toList args.toList ds p := hA0
  rw [Try.params11] at hA hval
  obtain ⟨v0, vs0, d0, ds0, p0, q0, hargs, rfl, rfl, h0, r0⟩ := trodAll_cons hA
  obtain ⟨v1, vs1, d1, ds1, p1, q1, rfl, rfl, rfl, h1, r1⟩ := trodAll_cons r0
  obtain ⟨rfl, rfl, rfl⟩ := trodAll_nil r1
  obtain rfl : args = #[v0, v1] := by cases args; simp_all
  obtain ⟨rfl, rfl⟩ := trodVars_none hV
  obtain ⟨arr0, rfl, _⟩ := okWide_struct Try.underlying52 (hval 0 52 v0 rfl rfl)
  have k0 := h0
  have lt0 : ∀ x ∈ p0, x.block < W.heap.size := by obtain ⟨m, hm⟩ := k0; exact DataW.trod_lt m _ _ _ hm
  obtain ⟨x0, ss0, a0, F0, i0⟩ := A52.argS h0 (0)
  obtain ⟨sa1, sl1, sc1, rfl⟩ := okWide_slice Try.underlying27 (hval 1 27 v1 rfl rfl)
  have k1 := h1
  have lt1 : ∀ x ∈ p1, x.block < W.heap.size := by obtain ⟨m, hm⟩ := k1; exact DataW.trod_lt m _ _ _ hm
  obtain ⟨x1, ss1, a1, F1, i1⟩ := A27.arg1 (by rfl) h1 (0 + ss0.length)
  refine (GL.law2 progOK (f := 479) i0 i1 fun h t0 t1 => GL.FnExactOutcomeBy_law t0 t1).mono fun e W' ⟨he, bel⟩ => ?_
  subst he
  exact ⟨_, rfl, _, _, _, [], _, [], hW', trodAll_mk1 (shut_bool Try.underlying4 _), (trodAll_cons_mk (Below.trod laidOut (by kernel_rfl) (of_decide_eq_true (by kernel_rfl)) k0 bel lt0) (trodAll_cons_mk (Below.trod laidOut (by kernel_rfl) (of_decide_eq_true (by kernel_rfl)) k1 bel lt1) trodAll_mk0)), rfl, bel.frame _, fun h => by cases h⟩

theorem over : Rows.fnExactOutcomeByRow.holds Try.pinned (OpenSpec.ofChange Rows.fnExactOutcomeBySpec) :=
  OpenClaim.holds_of_wide 11 Try.f11 rfl rfl rfl rfl rfl rfl rfl ⟨rfl, rfl, rfl, rfl, rfl⟩ rfl rfl rfl rfl rfl (by kernel_rfl) Try.func11 (by kernel_rfl)
    (of_decide_eq_true (by kernel_rfl)) (by unfold Func.isWrapper; first | (rw [if_pos (by decide +kernel)]; kernel_rfl) | (rw [if_neg (by decide +kernel)]; exact ⟨rfl, rfl⟩))
    (fun os started H enc _ => lifted os started H enc)

theorem proved : Rows.FnExactOutcomeBySaid := over
#print axioms proved
end Go.Proofs.Ytpmpdfpgkcagnaa.fnExactOutcomeBy
