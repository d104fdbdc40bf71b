import Derived.Test.YthjglladgfjnfaaGreatRows
import Derived.WalkKit
import Derived.ProofKit
import Derived.OpenShut
import Derived.ShutString
import Derived.ChangeOld
import Derived.Below
import Derived.Test.YthjglladgfjnfaaGreatLw
import Derived.Test.YthjglladgfjnfaaGreatGuFnExactIsSerial
/- The law 'FnExactIsSerial' holds: its row, from the machine's run. -/
set_option linter.unusedSimpArgs false
set_option linter.unusedVariables false
set_option linter.unnecessarySimpa false
namespace Go.Proofs.YthjglladgfjnfaaGreat.fnExactIsSerial
open Go.ChangeShapes Go.WideShapes Go.ChangeAt Go.RowKit
set_option linter.unusedVariables false

theorem own : ownKnob Tryz.prog.godebug = none := by kernel_rfl
theorem laidOut : laidOutB Tryz.prog = true := by kernel_rfl
theorem A3 : GL.ArgT Tryz.prog 3 Int := GL.ArgT.int Tryz.underlying3
theorem A4 : GL.ArgT Tryz.prog 4 Bool := GL.ArgT.bool Tryz.underlying4
theorem A85 : GL.ArgT Tryz.prog 85 GL.Dd := GL.ArgT.struct Tryz.underlying85 (tot := 2) (by kernel_rfl) (GL.OpensF.cons A3 (by kernel_rfl) (GL.OpensF.last A4 (by kernel_rfl) (by kernel_rfl))) GL.Dd.of GL.Dd.of_rep
theorem A22 : GL.ArgT Tryz.prog 22 (List GL.Dd) := GL.ArgT.list (A := A85) Tryz.underlying22 (by kernel_rfl)
theorem A42 : GL.ArgT Tryz.prog 42 (List Int) := GL.ArgT.list (A := A3) Tryz.underlying42 (by kernel_rfl)
theorem A23 : GL.ArgT Tryz.prog 23 (List (List Int)) := GL.ArgT.list (A := A42) Tryz.underlying23 (by kernel_rfl)
theorem A25 : GL.ArgT Tryz.prog 25 GL.Hd := GL.ArgT.struct Tryz.underlying25 (tot := 3) (by kernel_rfl) (GL.OpensF.cons A3 (by kernel_rfl) (GL.OpensF.cons A22 (by kernel_rfl) (GL.OpensF.last A23 (by kernel_rfl) (by kernel_rfl)))) GL.Hd.of GL.Hd.of_rep
theorem A27 : GL.ArgT Tryz.prog 27 GL.Hs := GL.ArgT.struct Tryz.underlying27 (tot := 4) (by kernel_rfl) (GL.OpensF.cons A25 (by kernel_rfl) (GL.OpensF.last A23 (by kernel_rfl) (by kernel_rfl))) GL.Hs.of GL.Hs.of_rep

def fidL : List (Nat × Nat) := [(716, 3), (455, 4), (717, 5), (456, 6), (718, 7), (459, 8), (439, 9), (367, 10), (457, 11), (540, 12), (573, 13), (774, 14), (772, 15), (771, 16), (440, 17), (371, 18), (474, 19), (542, 20), (429, 21), (557, 22), (724, 23), (773, 24), (443, 25), (374, 26), (514, 27), (290, 28), (463, 29), (558, 30), (356, 31), (588, 32), (517, 33), (293, 34), (462, 35), (389, 36), (436, 37), (560, 38), (395, 39), (574, 40), (552, 41), (545, 42), (575, 43), (721, 44), (386, 45), (520, 46), (296, 47), (465, 48), (522, 49), (527, 50), (302, 51), (562, 52), (547, 53), (410, 54), (550, 55), (539, 56), (555, 57), (564, 58), (464, 59), (525, 60), (526, 61), (397, 62), (576, 63), (301, 64), (304, 65), (572, 66), (340, 67), (107, 68), (604, 69), (565, 70), (321, 71), (533, 72), (94, 73), (337, 74), (333, 75), (516, 76), (98, 77), (551, 78), (318, 79), (530, 80), (531, 81), (538, 82), (335, 83), (532, 84), (541, 85), (314, 86), (322, 87), (412, 88), (519, 89), (391, 90), (390, 91), (553, 94), (537, 95), (554, 96), (569, 97), (385, 98), (407, 99), (406, 100), (430, 101), (535, 102), (428, 114), (336, 115), (549, 116), (427, 118), (435, 125), (396, 126), (571, 127)]
def fid : Nat → FuncId := fun i => (fidL.lookup i).getD 0
def eqs : List (TypeId × List (Option IntKind)) := []
theorem m3 : GL.fnMt Tryz.prog fid eqs Tryz.f3 GL.g716 = true := by kernel_rfl
theorem m4 : GL.fnMt Tryz.prog fid eqs Tryz.f4 GL.g455 = true := by kernel_rfl
theorem m5 : GL.fnMt Tryz.prog fid eqs Tryz.f5 GL.g717 = true := by kernel_rfl
theorem m6 : GL.fnMt Tryz.prog fid eqs Tryz.f6 GL.g456 = true := by kernel_rfl
theorem m7 : GL.fnMt Tryz.prog fid eqs Tryz.f7 GL.g718 = true := by kernel_rfl
theorem m8 : GL.fnMt Tryz.prog fid eqs Tryz.f8 GL.g459 = true := by kernel_rfl
theorem m9 : GL.fnMt Tryz.prog fid eqs Tryz.f9 GL.g439 = true := by kernel_rfl
theorem m10 : GL.fnMt Tryz.prog fid eqs Tryz.f10 GL.g367 = true := by kernel_rfl
theorem m11 : GL.fnMt Tryz.prog fid eqs Tryz.f11 GL.g457 = true := by kernel_rfl
theorem m12 : GL.fnMt Tryz.prog fid eqs Tryz.f12 GL.g540 = true := by kernel_rfl
theorem m13 : GL.fnMt Tryz.prog fid eqs Tryz.f13 GL.g573 = true := by kernel_rfl
theorem m14 : GL.fnMt Tryz.prog fid eqs Tryz.f14 GL.g774 = true := by kernel_rfl
theorem m15 : GL.fnMt Tryz.prog fid eqs Tryz.f15 GL.g772 = true := by kernel_rfl
theorem m16 : GL.fnMt Tryz.prog fid eqs Tryz.f16 GL.g771 = true := by kernel_rfl
theorem m17 : GL.fnMt Tryz.prog fid eqs Tryz.f17 GL.g440 = true := by kernel_rfl
theorem m18 : GL.fnMt Tryz.prog fid eqs Tryz.f18 GL.g371 = true := by kernel_rfl
theorem m19 : GL.fnMt Tryz.prog fid eqs Tryz.f19 GL.g474 = true := by kernel_rfl
theorem m20 : GL.fnMt Tryz.prog fid eqs Tryz.f20 GL.g542 = true := by kernel_rfl
theorem m21 : GL.fnMt Tryz.prog fid eqs Tryz.f21 GL.g429 = true := by kernel_rfl
theorem m22 : GL.fnMt Tryz.prog fid eqs Tryz.f22 GL.g557 = true := by kernel_rfl
theorem m23 : GL.fnMt Tryz.prog fid eqs Tryz.f23 GL.g724 = true := by kernel_rfl
theorem m24 : GL.fnMt Tryz.prog fid eqs Tryz.f24 GL.g773 = true := by kernel_rfl
theorem m25 : GL.fnMt Tryz.prog fid eqs Tryz.f25 GL.g443 = true := by kernel_rfl
theorem m26 : GL.fnMt Tryz.prog fid eqs Tryz.f26 GL.g374 = true := by kernel_rfl
theorem m27 : GL.fnMt Tryz.prog fid eqs Tryz.f27 GL.g514 = true := by kernel_rfl
theorem m28 : GL.fnMt Tryz.prog fid eqs Tryz.f28 GL.g290 = true := by kernel_rfl
theorem m29 : GL.fnMt Tryz.prog fid eqs Tryz.f29 GL.g463 = true := by kernel_rfl
theorem m30 : GL.fnMt Tryz.prog fid eqs Tryz.f30 GL.g558 = true := by kernel_rfl
theorem m31 : GL.fnMt Tryz.prog fid eqs Tryz.f31 GL.g356 = true := by kernel_rfl
theorem m32 : GL.fnMt Tryz.prog fid eqs Tryz.f32 GL.g588 = true := by kernel_rfl
theorem m33 : GL.fnMt Tryz.prog fid eqs Tryz.f33 GL.g517 = true := by kernel_rfl
theorem m34 : GL.fnMt Tryz.prog fid eqs Tryz.f34 GL.g293 = true := by kernel_rfl
theorem m35 : GL.fnMt Tryz.prog fid eqs Tryz.f35 GL.g462 = true := by kernel_rfl
theorem m36 : GL.fnMt Tryz.prog fid eqs Tryz.f36 GL.g389 = true := by kernel_rfl
theorem m37 : GL.fnMt Tryz.prog fid eqs Tryz.f37 GL.g436 = true := by kernel_rfl
theorem m38 : GL.fnMt Tryz.prog fid eqs Tryz.f38 GL.g560 = true := by kernel_rfl
theorem m39 : GL.fnMt Tryz.prog fid eqs Tryz.f39 GL.g395 = true := by kernel_rfl
theorem m40 : GL.fnMt Tryz.prog fid eqs Tryz.f40 GL.g574 = true := by kernel_rfl
theorem m41 : GL.fnMt Tryz.prog fid eqs Tryz.f41 GL.g552 = true := by kernel_rfl
theorem m42 : GL.fnMt Tryz.prog fid eqs Tryz.f42 GL.g545 = true := by kernel_rfl
theorem m43 : GL.fnMt Tryz.prog fid eqs Tryz.f43 GL.g575 = true := by kernel_rfl
theorem m44 : GL.fnMt Tryz.prog fid eqs Tryz.f44 GL.g721 = true := by kernel_rfl
theorem m45 : GL.fnMt Tryz.prog fid eqs Tryz.f45 GL.g386 = true := by kernel_rfl
theorem m46 : GL.fnMt Tryz.prog fid eqs Tryz.f46 GL.g520 = true := by kernel_rfl
theorem m47 : GL.fnMt Tryz.prog fid eqs Tryz.f47 GL.g296 = true := by kernel_rfl
theorem m48 : GL.fnMt Tryz.prog fid eqs Tryz.f48 GL.g465 = true := by kernel_rfl
theorem m49 : GL.fnMt Tryz.prog fid eqs Tryz.f49 GL.g522 = true := by kernel_rfl
theorem m50 : GL.fnMt Tryz.prog fid eqs Tryz.f50 GL.g527 = true := by kernel_rfl
theorem m51 : GL.fnMt Tryz.prog fid eqs Tryz.f51 GL.g302 = true := by kernel_rfl
theorem m52 : GL.fnMt Tryz.prog fid eqs Tryz.f52 GL.g562 = true := by kernel_rfl
theorem m53 : GL.fnMt Tryz.prog fid eqs Tryz.f53 GL.g547 = true := by kernel_rfl
theorem m54 : GL.fnMt Tryz.prog fid eqs Tryz.f54 GL.g410 = true := by kernel_rfl
theorem m55 : GL.fnMt Tryz.prog fid eqs Tryz.f55 GL.g550 = true := by kernel_rfl
theorem m56 : GL.fnMt Tryz.prog fid eqs Tryz.f56 GL.g539 = true := by kernel_rfl
theorem m57 : GL.fnMt Tryz.prog fid eqs Tryz.f57 GL.g555 = true := by kernel_rfl
theorem m58 : GL.fnMt Tryz.prog fid eqs Tryz.f58 GL.g564 = true := by kernel_rfl
theorem m59 : GL.fnMt Tryz.prog fid eqs Tryz.f59 GL.g464 = true := by kernel_rfl
theorem m60 : GL.fnMt Tryz.prog fid eqs Tryz.f60 GL.g525 = true := by kernel_rfl
theorem m61 : GL.fnMt Tryz.prog fid eqs Tryz.f61 GL.g526 = true := by kernel_rfl
theorem m62 : GL.fnMt Tryz.prog fid eqs Tryz.f62 GL.g397 = true := by kernel_rfl
theorem m63 : GL.fnMt Tryz.prog fid eqs Tryz.f63 GL.g576 = true := by kernel_rfl
theorem m64 : GL.fnMt Tryz.prog fid eqs Tryz.f64 GL.g301 = true := by kernel_rfl
theorem m65 : GL.fnMt Tryz.prog fid eqs Tryz.f65 GL.g304 = true := by kernel_rfl
theorem m66 : GL.fnMt Tryz.prog fid eqs Tryz.f66 GL.g572 = true := by kernel_rfl
theorem m68 : GL.fnMt Tryz.prog fid eqs Tryz.f68 GL.g107 = true := by kernel_rfl
theorem m69 : GL.fnMt Tryz.prog fid eqs Tryz.f69 GL.g604 = true := by kernel_rfl
theorem m70 : GL.fnMt Tryz.prog fid eqs Tryz.f70 GL.g565 = true := by kernel_rfl
theorem m71 : GL.fnMt Tryz.prog fid eqs Tryz.f71 GL.g321 = true := by kernel_rfl
theorem m72 : GL.fnMt Tryz.prog fid eqs Tryz.f72 GL.g533 = true := by kernel_rfl
theorem m73 : GL.fnMt Tryz.prog fid eqs Tryz.f73 GL.g94 = true := by kernel_rfl
theorem m74 : GL.fnMt Tryz.prog fid eqs Tryz.f74 GL.g337 = true := by kernel_rfl
theorem m75 : GL.fnMt Tryz.prog fid eqs Tryz.f75 GL.g333 = true := by kernel_rfl
theorem m76 : GL.fnMt Tryz.prog fid eqs Tryz.f76 GL.g516 = true := by kernel_rfl
theorem m77 : GL.fnMt Tryz.prog fid eqs Tryz.f77 GL.g98 = true := by kernel_rfl
theorem m78 : GL.fnMt Tryz.prog fid eqs Tryz.f78 GL.g551 = true := by kernel_rfl
theorem m79 : GL.fnMt Tryz.prog fid eqs Tryz.f79 GL.g318 = true := by kernel_rfl
theorem m80 : GL.fnMt Tryz.prog fid eqs Tryz.f80 GL.g530 = true := by kernel_rfl
theorem m81 : GL.fnMt Tryz.prog fid eqs Tryz.f81 GL.g531 = true := by kernel_rfl
theorem m82 : GL.fnMt Tryz.prog fid eqs Tryz.f82 GL.g538 = true := by kernel_rfl
theorem m83 : GL.fnMt Tryz.prog fid eqs Tryz.f83 GL.g335 = true := by kernel_rfl
theorem m84 : GL.fnMt Tryz.prog fid eqs Tryz.f84 GL.g532 = true := by kernel_rfl
theorem m85 : GL.fnMt Tryz.prog fid eqs Tryz.f85 GL.g541 = true := by kernel_rfl
theorem m86 : GL.fnMt Tryz.prog fid eqs Tryz.f86 GL.g314 = true := by kernel_rfl
theorem m87 : GL.fnMt Tryz.prog fid eqs Tryz.f87 GL.g322 = true := by kernel_rfl
theorem m88 : GL.fnMt Tryz.prog fid eqs Tryz.f88 GL.g412 = true := by kernel_rfl
theorem m89 : GL.fnMt Tryz.prog fid eqs Tryz.f89 GL.g519 = true := by kernel_rfl
theorem m90 : GL.fnMt Tryz.prog fid eqs Tryz.f90 GL.g391 = true := by kernel_rfl
theorem m91 : GL.fnMt Tryz.prog fid eqs Tryz.f91 GL.g390 = true := by kernel_rfl
theorem m94 : GL.fnMt Tryz.prog fid eqs Tryz.f94 GL.g553 = true := by kernel_rfl
theorem m95 : GL.fnMt Tryz.prog fid eqs Tryz.f95 GL.g537 = true := by kernel_rfl
theorem m96 : GL.fnMt Tryz.prog fid eqs Tryz.f96 GL.g554 = true := by kernel_rfl
theorem m97 : GL.fnMt Tryz.prog fid eqs Tryz.f97 GL.g569 = true := by kernel_rfl
theorem m98 : GL.fnMt Tryz.prog fid eqs Tryz.f98 GL.g385 = true := by kernel_rfl
theorem m101 : GL.fnMt Tryz.prog fid eqs Tryz.f101 GL.g430 = true := by kernel_rfl
theorem m102 : GL.fnMt Tryz.prog fid eqs Tryz.f102 GL.g535 = true := by kernel_rfl
theorem m114 : GL.fnMt Tryz.prog fid eqs Tryz.f114 GL.g428 = true := by kernel_rfl
theorem m115 : GL.fnMt Tryz.prog fid eqs Tryz.f115 GL.g336 = true := by kernel_rfl
theorem m116 : GL.fnMt Tryz.prog fid eqs Tryz.f116 GL.g549 = true := by kernel_rfl
theorem m125 : GL.fnMt Tryz.prog fid eqs Tryz.f125 GL.g435 = true := by kernel_rfl
theorem m126 : GL.fnMt Tryz.prog fid eqs Tryz.f126 GL.g396 = true := by kernel_rfl
theorem m127 : GL.fnMt Tryz.prog fid eqs Tryz.f127 GL.g571 = true := by kernel_rfl
theorem valF : GL.CallOK Tryz.prog fid fun g args h => if g = 406 then GL.valuesE args h else none := GL.valuesE_ok ⟨_, Tryz.func100, by kernel_rfl, by kernel_rfl⟩ (fun a len cap w => Tryz.valuesC a len cap w)
theorem srtF : GL.CallOK Tryz.prog fid fun g args h => if g = 407 then GL.sortedE args h else none := GL.sortedE_ok ⟨_, Tryz.func99, by kernel_rfl, by kernel_rfl⟩ (fun Bs Bo sv zs w hl hBs hc hI => Tryz.sortedVals Bs Bo sv zs (by unfold maxLen; omega) (by omega) w hBs hc hI)
theorem sorF : GL.CallOK Tryz.prog fid fun g args h => if g = 340 then GL.sortE args h else none := GL.sortE_ok ⟨_, Tryz.func67, by kernel_rfl, by kernel_rfl⟩ (fun blk off cap ss W hH hb hs => Go.Proofs.AnyM.slices_Sort_int Tryz.sortA blk off cap ss W hH hb hs) (fun p cap W => Go.Proofs.AnyM.slices_Sort_int_none Tryz.sortA p cap W)
theorem extOK : ∀ f e, GL.p.ext f = some e → GL.CallOK Tryz.prog fid fun g args h => if g = f then e args h else none := fun f e h => by
  have h : (bif Nat.beq f 340 then some GL.sortE else bif Nat.beq f 407 then some GL.sortedE else bif Nat.beq f 406 then some GL.valuesE else none) = some e := h
  rcases GL.bif_some h with ⟨rfl, h⟩ | ⟨_, h⟩
  · cases h; exact sorF
  rcases GL.bif_some h with ⟨rfl, h⟩ | ⟨_, h⟩
  · cases h; exact srtF
  rcases GL.bif_some h with ⟨rfl, h⟩ | ⟨_, h⟩
  · cases h; exact valF
  cases h
theorem allOK : GL.AllOK Tryz.prog fid eqs GL.fnL :=
  .cons Tryz.func3 rfl m3 (
  .cons Tryz.func4 rfl m4 (
  .cons Tryz.func5 rfl m5 (
  .cons Tryz.func6 rfl m6 (
  .cons Tryz.func7 rfl m7 (
  .cons Tryz.func8 rfl m8 (
  .cons Tryz.func9 rfl m9 (
  .cons Tryz.func10 rfl m10 (
  .cons Tryz.func11 rfl m11 (
  .cons Tryz.func12 rfl m12 (
  .cons Tryz.func13 rfl m13 (
  .cons Tryz.func14 rfl m14 (
  .cons Tryz.func15 rfl m15 (
  .cons Tryz.func16 rfl m16 (
  .cons Tryz.func17 rfl m17 (
  .cons Tryz.func18 rfl m18 (
  .cons Tryz.func19 rfl m19 (
  .cons Tryz.func20 rfl m20 (
  .cons Tryz.func21 rfl m21 (
  .cons Tryz.func22 rfl m22 (
  .cons Tryz.func23 rfl m23 (
  .cons Tryz.func24 rfl m24 (
  .cons Tryz.func25 rfl m25 (
  .cons Tryz.func26 rfl m26 (
  .cons Tryz.func27 rfl m27 (
  .cons Tryz.func28 rfl m28 (
  .cons Tryz.func29 rfl m29 (
  .cons Tryz.func30 rfl m30 (
  .cons Tryz.func31 rfl m31 (
  .cons Tryz.func32 rfl m32 (
  .cons Tryz.func33 rfl m33 (
  .cons Tryz.func34 rfl m34 (
  .cons Tryz.func35 rfl m35 (
  .cons Tryz.func36 rfl m36 (
  .cons Tryz.func37 rfl m37 (
  .cons Tryz.func38 rfl m38 (
  .cons Tryz.func39 rfl m39 (
  .cons Tryz.func40 rfl m40 (
  .cons Tryz.func41 rfl m41 (
  .cons Tryz.func42 rfl m42 (
  .cons Tryz.func43 rfl m43 (
  .cons Tryz.func44 rfl m44 (
  .cons Tryz.func45 rfl m45 (
  .cons Tryz.func46 rfl m46 (
  .cons Tryz.func47 rfl m47 (
  .cons Tryz.func48 rfl m48 (
  .cons Tryz.func49 rfl m49 (
  .cons Tryz.func50 rfl m50 (
  .cons Tryz.func51 rfl m51 (
  .cons Tryz.func52 rfl m52 (
  .cons Tryz.func53 rfl m53 (
  .cons Tryz.func54 rfl m54 (
  .cons Tryz.func55 rfl m55 (
  .cons Tryz.func56 rfl m56 (
  .cons Tryz.func57 rfl m57 (
  .cons Tryz.func58 rfl m58 (
  .cons Tryz.func59 rfl m59 (
  .cons Tryz.func60 rfl m60 (
  .cons Tryz.func61 rfl m61 (
  .cons Tryz.func62 rfl m62 (
  .cons Tryz.func63 rfl m63 (
  .cons Tryz.func64 rfl m64 (
  .cons Tryz.func65 rfl m65 (
  .cons Tryz.func66 rfl m66 (
  .cons Tryz.func68 rfl m68 (
  .cons Tryz.func69 rfl m69 (
  .cons Tryz.func70 rfl m70 (
  .cons Tryz.func71 rfl m71 (
  .cons Tryz.func72 rfl m72 (
  .cons Tryz.func73 rfl m73 (
  .cons Tryz.func74 rfl m74 (
  .cons Tryz.func75 rfl m75 (
  .cons Tryz.func76 rfl m76 (
  .cons Tryz.func77 rfl m77 (
  .cons Tryz.func78 rfl m78 (
  .cons Tryz.func79 rfl m79 (
  .cons Tryz.func80 rfl m80 (
  .cons Tryz.func81 rfl m81 (
  .cons Tryz.func82 rfl m82 (
  .cons Tryz.func83 rfl m83 (
  .cons Tryz.func84 rfl m84 (
  .cons Tryz.func85 rfl m85 (
  .cons Tryz.func86 rfl m86 (
  .cons Tryz.func87 rfl m87 (
  .cons Tryz.func88 rfl m88 (
  .cons Tryz.func89 rfl m89 (
  .cons Tryz.func90 rfl m90 (
  .cons Tryz.func91 rfl m91 (
  .cons Tryz.func94 rfl m94 (
  .cons Tryz.func95 rfl m95 (
  .cons Tryz.func96 rfl m96 (
  .cons Tryz.func97 rfl m97 (
  .cons Tryz.func98 rfl m98 (
  .cons Tryz.func101 rfl m101 (
  .cons Tryz.func102 rfl m102 (
  .cons Tryz.func114 rfl m114 (
  .cons Tryz.func115 rfl m115 (
  .cons Tryz.func116 rfl m116 (
  .cons Tryz.func125 rfl m125 (
  .cons Tryz.func126 rfl m126 (
  .cons Tryz.func127 rfl m127 (.nil)))))))))))))))))))))))))))))))))))))))))))))))))))))))))))))))))))))))))))))))))))))))))))))))))))))
theorem progOK : GL.ProgOK Tryz.prog fid eqs GL.p :=
  ⟨by kernel_rfl, (GL.eqs_sound (by kernel_rfl)), allOK.fn, extOK⟩
/-! ### THE ROW -/
set_option maxRecDepth 100000 in
theorem lifted (os : Os) (started : os.Started) (H : Type) (enc : TypeId × Value → H) :
    ReturnsInHanded {} Tryz.checked os 3 .any (Rows.fnExactIsSerialSpec.pre6 enc Tryz.prog Tryz.f3 Rows.fnExactIsSerialRow.domain false) (Rows.fnExactIsSerialSpec.post enc Tryz.prog Tryz.f3 false true false false) := by
  refine returnsInHanded_of_change (C := Tryz.checked) own started (by kernel_rfl) Tryz.func3
    (ChangeSpec.witness6 (enc := enc) (C := Tryz.checked) false ⟨#[], #[.agg #[.int .i64 0, .slice none 0 0, .slice none 0 0, .slice none 0 0]], []⟩ 12 (by kernel_rfl) (by kernel_rfl) (by kernel_rfl) (by kernel_rfl)) ?_
  intro W base args ds gs before hval0 hW hcnd _
  have hval : ∀ (j : Nat) t v, Tryz.f3.params[j]? = some t → args[j]? = some v → Value.okWide Tryz.prog W .any base t v := hval0
  have hW' := hW
  obtain ⟨p, q, hA0, hV, rfl, hfz, hnd⟩ := hW
  have hA : DataW.TrodAll enc Tryz.prog W 0 (fun _ => true) true Tryz.f3.params.toList args.toList ds p := hA0
  rw [Tryz.params3] at hA hval
  obtain ⟨v0, vs0, d0, ds0, p0, q0, hargs, rfl, rfl, h0, r0⟩ := trodAll_cons hA
  obtain ⟨rfl, rfl, rfl⟩ := trodAll_nil r0
  obtain rfl : args = #[v0] := by cases args; simp_all
  obtain ⟨rfl, rfl⟩ := trodVars_none hV
  obtain ⟨arr0, rfl, _⟩ := okWide_struct Tryz.underlying27 (hval 0 27 v0 rfl rfl)
  have k0 := h0
  have lt0 : ∀ x ∈ p0, x.block < W.heap.size := by obtain ⟨m, hm⟩ := k0; exact DataW.trod_lt m _ _ _ hm
  obtain ⟨x0, ss0, a0, F0, i0⟩ := A27.argS h0 (0)
  refine (GL.law1 progOK (f := 716) i0 fun h t0 => GL.FnExactIsSerial_law t0).mono fun e W' ⟨he, bel⟩ => ?_
  subst he
  exact ⟨_, rfl, _, _, _, [], _, [], hW', trodAll_mk1 (shut_bool Tryz.underlying4 _), (trodAll_cons_mk (Below.trod laidOut (by kernel_rfl) (of_decide_eq_true (by kernel_rfl)) k0 bel lt0) trodAll_mk0), rfl, bel.frame _, fun h => by cases h⟩

theorem over : Rows.fnExactIsSerialRow.holds Tryz.pinned (OpenSpec.ofChange Rows.fnExactIsSerialSpec) :=
  OpenClaim.holds_of_wide 3 Tryz.f3 rfl rfl rfl rfl rfl rfl rfl ⟨rfl, rfl, rfl, rfl, rfl⟩ rfl rfl rfl rfl rfl (by kernel_rfl) Tryz.func3 (by kernel_rfl)
    (of_decide_eq_true (by kernel_rfl)) (by unfold Func.isWrapper; first | (rw [if_pos (by decide +kernel)]; kernel_rfl) | (rw [if_neg (by decide +kernel)]; exact ⟨rfl, rfl⟩))
    (fun os started H enc _ => lifted os started H enc)

theorem proved : Rows.FnExactIsSerialSaid := over
#print axioms proved
end Go.Proofs.YthjglladgfjnfaaGreat.fnExactIsSerial
