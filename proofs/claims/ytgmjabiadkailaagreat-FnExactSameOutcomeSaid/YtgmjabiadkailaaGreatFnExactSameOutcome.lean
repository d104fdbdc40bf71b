import Derived.Test.YtgmjabiadkailaaGreatRows
import Derived.WalkKit
import Derived.ProofKit
import Derived.OpenShut
import Derived.ShutString
import Derived.ChangeOld
import Derived.Below
import Derived.Test.YtgmjabiadkailaaGreatLw
import Derived.Test.YtgmjabiadkailaaGreatGuFnExactSameOutcome
/- The law 'FnExactSameOutcome' holds: its row, from the machine's run. -/
set_option linter.unusedSimpArgs false
set_option linter.unusedVariables false
set_option linter.unnecessarySimpa false
namespace Go.Proofs.YtgmjabiadkailaaGreat.fnExactSameOutcome
open Go.ChangeShapes Go.WideShapes Go.ChangeAt Go.RowKit
set_option linter.unusedVariables false

theorem own : ownKnob Tryz.prog.godebug = none := by kernel_rfl
theorem laidOut : laidOutB Tryz.prog = true := by kernel_rfl
theorem A3 : GL.ArgT Tryz.prog 3 Int := GL.ArgT.int Tryz.underlying3
theorem A4 : GL.ArgT Tryz.prog 4 Bool := GL.ArgT.bool Tryz.underlying4
theorem A155 : GL.ArgT Tryz.prog 155 GL.Dd := GL.ArgT.struct Tryz.underlying155 (tot := 2) (by kernel_rfl) (GL.OpensF.cons A3 (by kernel_rfl) (GL.OpensF.last A4 (by kernel_rfl) (by kernel_rfl))) GL.Dd.of GL.Dd.of_rep
theorem A42 : GL.ArgT Tryz.prog 42 (List GL.Dd) := GL.ArgT.list (A := A155) Tryz.underlying42 (by kernel_rfl)
theorem A23 : GL.ArgT Tryz.prog 23 (List Int) := GL.ArgT.list (A := A3) Tryz.underlying23 (by kernel_rfl)
theorem A33 : GL.ArgT Tryz.prog 33 (List (List Int)) := GL.ArgT.list (A := A23) Tryz.underlying33 (by kernel_rfl)
theorem A44 : GL.ArgT Tryz.prog 44 GL.Hd := GL.ArgT.struct Tryz.underlying44 (tot := 3) (by kernel_rfl) (GL.OpensF.cons A3 (by kernel_rfl) (GL.OpensF.cons A42 (by kernel_rfl) (GL.OpensF.last A33 (by kernel_rfl) (by kernel_rfl)))) GL.Hd.of GL.Hd.of_rep
theorem A46 : GL.ArgT Tryz.prog 46 GL.Hs := GL.ArgT.struct Tryz.underlying46 (tot := 4) (by kernel_rfl) (GL.OpensF.cons A44 (by kernel_rfl) (GL.OpensF.last A33 (by kernel_rfl) (by kernel_rfl))) GL.Hs.of GL.Hs.of_rep

def fidL : List (Nat × Nat) := [(713, 4), (455, 24), (714, 25), (456, 26), (715, 27), (459, 28), (721, 30), (724, 33), (474, 47), (541, 62), (552, 65), (539, 68), (554, 70), (429, 75), (557, 76), (98, 80), (439, 81), (367, 82), (770, 83), (772, 84), (771, 85), (440, 86), (371, 87), (773, 88), (443, 89), (374, 90), (107, 92), (542, 93), (604, 94), (457, 98), (296, 100), (540, 105), (573, 106), (774, 107), (462, 108), (463, 109), (550, 111), (558, 112), (304, 113), (385, 115), (407, 116), (406, 117), (412, 118), (572, 119), (301, 120), (389, 121), (94, 123), (302, 124), (410, 125), (560, 126), (335, 127), (436, 129), (395, 130), (574, 131), (545, 132), (575, 133), (562, 134), (514, 135), (290, 136), (356, 137), (588, 138), (517, 139), (293, 140), (386, 141), (520, 142), (553, 144), (464, 147), (314, 149), (522, 153), (516, 155), (525, 157), (526, 158), (465, 159), (527, 160), (337, 161), (547, 162), (391, 163), (340, 165), (427, 166), (430, 167), (390, 168), (397, 170), (576, 171), (555, 172), (564, 173), (565, 174), (428, 175), (336, 176), (549, 177), (318, 179), (530, 180), (531, 181), (538, 182), (532, 183), (519, 185), (333, 186), (537, 187), (322, 188), (321, 189), (533, 190), (551, 194), (435, 195), (396, 196), (571, 197), (569, 198), (535, 199)]
def fid : Nat → FuncId := fun i => (fidL.lookup i).getD 0
def eqs : List (TypeId × List (Option IntKind)) := []
theorem m4 : GL.fnMt Tryz.prog fid eqs Tryz.f4 GL.g713 = true := by kernel_rfl
theorem m24 : GL.fnMt Tryz.prog fid eqs Tryz.f24 GL.g455 = true := by kernel_rfl
theorem m25 : GL.fnMt Tryz.prog fid eqs Tryz.f25 GL.g714 = true := by kernel_rfl
theorem m26 : GL.fnMt Tryz.prog fid eqs Tryz.f26 GL.g456 = true := by kernel_rfl
theorem m27 : GL.fnMt Tryz.prog fid eqs Tryz.f27 GL.g715 = true := by kernel_rfl
theorem m28 : GL.fnMt Tryz.prog fid eqs Tryz.f28 GL.g459 = true := by kernel_rfl
theorem m30 : GL.fnMt Tryz.prog fid eqs Tryz.f30 GL.g721 = true := by kernel_rfl
theorem m33 : GL.fnMt Tryz.prog fid eqs Tryz.f33 GL.g724 = true := by kernel_rfl
theorem m47 : GL.fnMt Tryz.prog fid eqs Tryz.f47 GL.g474 = true := by kernel_rfl
theorem m62 : GL.fnMt Tryz.prog fid eqs Tryz.f62 GL.g541 = true := by kernel_rfl
theorem m65 : GL.fnMt Tryz.prog fid eqs Tryz.f65 GL.g552 = true := by kernel_rfl
theorem m68 : GL.fnMt Tryz.prog fid eqs Tryz.f68 GL.g539 = true := by kernel_rfl
theorem m70 : GL.fnMt Tryz.prog fid eqs Tryz.f70 GL.g554 = true := by kernel_rfl
theorem m75 : GL.fnMt Tryz.prog fid eqs Tryz.f75 GL.g429 = true := by kernel_rfl
theorem m76 : GL.fnMt Tryz.prog fid eqs Tryz.f76 GL.g557 = true := by kernel_rfl
theorem m80 : GL.fnMt Tryz.prog fid eqs Tryz.f80 GL.g98 = true := by kernel_rfl
theorem m81 : GL.fnMt Tryz.prog fid eqs Tryz.f81 GL.g439 = true := by kernel_rfl
theorem m82 : GL.fnMt Tryz.prog fid eqs Tryz.f82 GL.g367 = true := by kernel_rfl
theorem m83 : GL.fnMt Tryz.prog fid eqs Tryz.f83 GL.g770 = true := by kernel_rfl
theorem m84 : GL.fnMt Tryz.prog fid eqs Tryz.f84 GL.g772 = true := by kernel_rfl
theorem m85 : GL.fnMt Tryz.prog fid eqs Tryz.f85 GL.g771 = true := by kernel_rfl
theorem m86 : GL.fnMt Tryz.prog fid eqs Tryz.f86 GL.g440 = true := by kernel_rfl
theorem m87 : GL.fnMt Tryz.prog fid eqs Tryz.f87 GL.g371 = true := by kernel_rfl
theorem m88 : GL.fnMt Tryz.prog fid eqs Tryz.f88 GL.g773 = true := by kernel_rfl
theorem m89 : GL.fnMt Tryz.prog fid eqs Tryz.f89 GL.g443 = true := by kernel_rfl
theorem m90 : GL.fnMt Tryz.prog fid eqs Tryz.f90 GL.g374 = true := by kernel_rfl
theorem m92 : GL.fnMt Tryz.prog fid eqs Tryz.f92 GL.g107 = true := by kernel_rfl
theorem m93 : GL.fnMt Tryz.prog fid eqs Tryz.f93 GL.g542 = true := by kernel_rfl
theorem m94 : GL.fnMt Tryz.prog fid eqs Tryz.f94 GL.g604 = true := by kernel_rfl
theorem m98 : GL.fnMt Tryz.prog fid eqs Tryz.f98 GL.g457 = true := by kernel_rfl
theorem m100 : GL.fnMt Tryz.prog fid eqs Tryz.f100 GL.g296 = true := by kernel_rfl
theorem m105 : GL.fnMt Tryz.prog fid eqs Tryz.f105 GL.g540 = true := by kernel_rfl
theorem m106 : GL.fnMt Tryz.prog fid eqs Tryz.f106 GL.g573 = true := by kernel_rfl
theorem m107 : GL.fnMt Tryz.prog fid eqs Tryz.f107 GL.g774 = true := by kernel_rfl
theorem m108 : GL.fnMt Tryz.prog fid eqs Tryz.f108 GL.g462 = true := by kernel_rfl
theorem m109 : GL.fnMt Tryz.prog fid eqs Tryz.f109 GL.g463 = true := by kernel_rfl
theorem m111 : GL.fnMt Tryz.prog fid eqs Tryz.f111 GL.g550 = true := by kernel_rfl
theorem m112 : GL.fnMt Tryz.prog fid eqs Tryz.f112 GL.g558 = true := by kernel_rfl
theorem m113 : GL.fnMt Tryz.prog fid eqs Tryz.f113 GL.g304 = true := by kernel_rfl
theorem m115 : GL.fnMt Tryz.prog fid eqs Tryz.f115 GL.g385 = true := by kernel_rfl
theorem m118 : GL.fnMt Tryz.prog fid eqs Tryz.f118 GL.g412 = true := by kernel_rfl
theorem m119 : GL.fnMt Tryz.prog fid eqs Tryz.f119 GL.g572 = true := by kernel_rfl
theorem m120 : GL.fnMt Tryz.prog fid eqs Tryz.f120 GL.g301 = true := by kernel_rfl
theorem m121 : GL.fnMt Tryz.prog fid eqs Tryz.f121 GL.g389 = true := by kernel_rfl
theorem m123 : GL.fnMt Tryz.prog fid eqs Tryz.f123 GL.g94 = true := by kernel_rfl
theorem m124 : GL.fnMt Tryz.prog fid eqs Tryz.f124 GL.g302 = true := by kernel_rfl
theorem m125 : GL.fnMt Tryz.prog fid eqs Tryz.f125 GL.g410 = true := by kernel_rfl
theorem m126 : GL.fnMt Tryz.prog fid eqs Tryz.f126 GL.g560 = true := by kernel_rfl
theorem m127 : GL.fnMt Tryz.prog fid eqs Tryz.f127 GL.g335 = true := by kernel_rfl
theorem m129 : GL.fnMt Tryz.prog fid eqs Tryz.f129 GL.g436 = true := by kernel_rfl
theorem m130 : GL.fnMt Tryz.prog fid eqs Tryz.f130 GL.g395 = true := by kernel_rfl
theorem m131 : GL.fnMt Tryz.prog fid eqs Tryz.f131 GL.g574 = true := by kernel_rfl
theorem m132 : GL.fnMt Tryz.prog fid eqs Tryz.f132 GL.g545 = true := by kernel_rfl
theorem m133 : GL.fnMt Tryz.prog fid eqs Tryz.f133 GL.g575 = true := by kernel_rfl
theorem m134 : GL.fnMt Tryz.prog fid eqs Tryz.f134 GL.g562 = true := by kernel_rfl
theorem m135 : GL.fnMt Tryz.prog fid eqs Tryz.f135 GL.g514 = true := by kernel_rfl
theorem m136 : GL.fnMt Tryz.prog fid eqs Tryz.f136 GL.g290 = true := by kernel_rfl
theorem m137 : GL.fnMt Tryz.prog fid eqs Tryz.f137 GL.g356 = true := by kernel_rfl
theorem m138 : GL.fnMt Tryz.prog fid eqs Tryz.f138 GL.g588 = true := by kernel_rfl
theorem m139 : GL.fnMt Tryz.prog fid eqs Tryz.f139 GL.g517 = true := by kernel_rfl
theorem m140 : GL.fnMt Tryz.prog fid eqs Tryz.f140 GL.g293 = true := by kernel_rfl
theorem m141 : GL.fnMt Tryz.prog fid eqs Tryz.f141 GL.g386 = true := by kernel_rfl
theorem m142 : GL.fnMt Tryz.prog fid eqs Tryz.f142 GL.g520 = true := by kernel_rfl
theorem m144 : GL.fnMt Tryz.prog fid eqs Tryz.f144 GL.g553 = true := by kernel_rfl
theorem m147 : GL.fnMt Tryz.prog fid eqs Tryz.f147 GL.g464 = true := by kernel_rfl
theorem m149 : GL.fnMt Tryz.prog fid eqs Tryz.f149 GL.g314 = true := by kernel_rfl
theorem m153 : GL.fnMt Tryz.prog fid eqs Tryz.f153 GL.g522 = true := by kernel_rfl
theorem m155 : GL.fnMt Tryz.prog fid eqs Tryz.f155 GL.g516 = true := by kernel_rfl
theorem m157 : GL.fnMt Tryz.prog fid eqs Tryz.f157 GL.g525 = true := by kernel_rfl
theorem m158 : GL.fnMt Tryz.prog fid eqs Tryz.f158 GL.g526 = true := by kernel_rfl
theorem m159 : GL.fnMt Tryz.prog fid eqs Tryz.f159 GL.g465 = true := by kernel_rfl
theorem m160 : GL.fnMt Tryz.prog fid eqs Tryz.f160 GL.g527 = true := by kernel_rfl
theorem m161 : GL.fnMt Tryz.prog fid eqs Tryz.f161 GL.g337 = true := by kernel_rfl
theorem m162 : GL.fnMt Tryz.prog fid eqs Tryz.f162 GL.g547 = true := by kernel_rfl
theorem m163 : GL.fnMt Tryz.prog fid eqs Tryz.f163 GL.g391 = true := by kernel_rfl
theorem m167 : GL.fnMt Tryz.prog fid eqs Tryz.f167 GL.g430 = true := by kernel_rfl
theorem m168 : GL.fnMt Tryz.prog fid eqs Tryz.f168 GL.g390 = true := by kernel_rfl
theorem m170 : GL.fnMt Tryz.prog fid eqs Tryz.f170 GL.g397 = true := by kernel_rfl
theorem m171 : GL.fnMt Tryz.prog fid eqs Tryz.f171 GL.g576 = true := by kernel_rfl
theorem m172 : GL.fnMt Tryz.prog fid eqs Tryz.f172 GL.g555 = true := by kernel_rfl
theorem m173 : GL.fnMt Tryz.prog fid eqs Tryz.f173 GL.g564 = true := by kernel_rfl
theorem m174 : GL.fnMt Tryz.prog fid eqs Tryz.f174 GL.g565 = true := by kernel_rfl
theorem m175 : GL.fnMt Tryz.prog fid eqs Tryz.f175 GL.g428 = true := by kernel_rfl
theorem m176 : GL.fnMt Tryz.prog fid eqs Tryz.f176 GL.g336 = true := by kernel_rfl
theorem m177 : GL.fnMt Tryz.prog fid eqs Tryz.f177 GL.g549 = true := by kernel_rfl
theorem m179 : GL.fnMt Tryz.prog fid eqs Tryz.f179 GL.g318 = true := by kernel_rfl
theorem m180 : GL.fnMt Tryz.prog fid eqs Tryz.f180 GL.g530 = true := by kernel_rfl
theorem m181 : GL.fnMt Tryz.prog fid eqs Tryz.f181 GL.g531 = true := by kernel_rfl
theorem m182 : GL.fnMt Tryz.prog fid eqs Tryz.f182 GL.g538 = true := by kernel_rfl
theorem m183 : GL.fnMt Tryz.prog fid eqs Tryz.f183 GL.g532 = true := by kernel_rfl
theorem m185 : GL.fnMt Tryz.prog fid eqs Tryz.f185 GL.g519 = true := by kernel_rfl
theorem m186 : GL.fnMt Tryz.prog fid eqs Tryz.f186 GL.g333 = true := by kernel_rfl
theorem m187 : GL.fnMt Tryz.prog fid eqs Tryz.f187 GL.g537 = true := by kernel_rfl
theorem m188 : GL.fnMt Tryz.prog fid eqs Tryz.f188 GL.g322 = true := by kernel_rfl
theorem m189 : GL.fnMt Tryz.prog fid eqs Tryz.f189 GL.g321 = true := by kernel_rfl
theorem m190 : GL.fnMt Tryz.prog fid eqs Tryz.f190 GL.g533 = true := by kernel_rfl
theorem m194 : GL.fnMt Tryz.prog fid eqs Tryz.f194 GL.g551 = true := by kernel_rfl
theorem m195 : GL.fnMt Tryz.prog fid eqs Tryz.f195 GL.g435 = true := by kernel_rfl
theorem m196 : GL.fnMt Tryz.prog fid eqs Tryz.f196 GL.g396 = true := by kernel_rfl
theorem m197 : GL.fnMt Tryz.prog fid eqs Tryz.f197 GL.g571 = true := by kernel_rfl
theorem m198 : GL.fnMt Tryz.prog fid eqs Tryz.f198 GL.g569 = true := by kernel_rfl
theorem m199 : GL.fnMt Tryz.prog fid eqs Tryz.f199 GL.g535 = true := by kernel_rfl
theorem valF : GL.CallOK Tryz.prog fid fun g args h => if g = 406 then GL.valuesE args h else none := GL.valuesE_ok ⟨_, Tryz.func117, by kernel_rfl, by kernel_rfl⟩ (fun a len cap w => Tryz.valuesC a len cap w)
theorem srtF : GL.CallOK Tryz.prog fid fun g args h => if g = 407 then GL.sortedE args h else none := GL.sortedE_ok ⟨_, Tryz.func116, by kernel_rfl, by kernel_rfl⟩ (fun Bs Bo sv zs w hl hBs hc hI => Tryz.sortedVals Bs Bo sv zs (by unfold maxLen; omega) (by omega) w hBs hc hI)
theorem sorF : GL.CallOK Tryz.prog fid fun g args h => if g = 340 then GL.sortE args h else none := GL.sortE_ok ⟨_, Tryz.func165, by kernel_rfl, by kernel_rfl⟩ (fun blk off cap ss W hH hb hs => Go.Proofs.AnyM.slices_Sort_int Tryz.sortA blk off cap ss W hH hb hs) (fun p cap W => Go.Proofs.AnyM.slices_Sort_int_none Tryz.sortA p cap W)
theorem extOK : ∀ f e, GL.p.ext f = some e → GL.CallOK Tryz.prog fid fun g args h => if g = f then e args h else none := fun f e h => by
  have h : (bif Nat.beq f 407 then some GL.sortedE else bif Nat.beq f 406 then some GL.valuesE else bif Nat.beq f 340 then some GL.sortE else none) = some e := h
  rcases GL.bif_some h with ⟨rfl, h⟩ | ⟨_, h⟩
  · cases h; exact srtF
  rcases GL.bif_some h with ⟨rfl, h⟩ | ⟨_, h⟩
  · cases h; exact valF
  rcases GL.bif_some h with ⟨rfl, h⟩ | ⟨_, h⟩
  · cases h; exact sorF
  cases h
theorem allOK : GL.AllOK Tryz.prog fid eqs GL.fnL :=
  .cons Tryz.func4 rfl m4 (
  .cons Tryz.func24 rfl m24 (
  .cons Tryz.func25 rfl m25 (
  .cons Tryz.func26 rfl m26 (
  .cons Tryz.func27 rfl m27 (
  .cons Tryz.func28 rfl m28 (
  .cons Tryz.func30 rfl m30 (
  .cons Tryz.func33 rfl m33 (
  .cons Tryz.func47 rfl m47 (
  .cons Tryz.func62 rfl m62 (
  .cons Tryz.func65 rfl m65 (
  .cons Tryz.func68 rfl m68 (
  .cons Tryz.func70 rfl m70 (
  .cons Tryz.func75 rfl m75 (
  .cons Tryz.func76 rfl m76 (
  .cons Tryz.func80 rfl m80 (
  .cons Tryz.func81 rfl m81 (
  .cons Tryz.func82 rfl m82 (
  .cons Tryz.func83 rfl m83 (
  .cons Tryz.func84 rfl m84 (
  .cons Tryz.func85 rfl m85 (
  .cons Tryz.func86 rfl m86 (
  .cons Tryz.func87 rfl m87 (
  .cons Tryz.func88 rfl m88 (
  .cons Tryz.func89 rfl m89 (
  .cons Tryz.func90 rfl m90 (
  .cons Tryz.func92 rfl m92 (
  .cons Tryz.func93 rfl m93 (
  .cons Tryz.func94 rfl m94 (
  .cons Tryz.func98 rfl m98 (
  .cons Tryz.func100 rfl m100 (
  .cons Tryz.func105 rfl m105 (
  .cons Tryz.func106 rfl m106 (
  .cons Tryz.func107 rfl m107 (
  .cons Tryz.func108 rfl m108 (
  .cons Tryz.func109 rfl m109 (
  .cons Tryz.func111 rfl m111 (
  .cons Tryz.func112 rfl m112 (
  .cons Tryz.func113 rfl m113 (
  .cons Tryz.func115 rfl m115 (
  .cons Tryz.func118 rfl m118 (
  .cons Tryz.func119 rfl m119 (
  .cons Tryz.func120 rfl m120 (
  .cons Tryz.func121 rfl m121 (
  .cons Tryz.func123 rfl m123 (
  .cons Tryz.func124 rfl m124 (
  .cons Tryz.func125 rfl m125 (
  .cons Tryz.func126 rfl m126 (
  .cons Tryz.func127 rfl m127 (
  .cons Tryz.func129 rfl m129 (
  .cons Tryz.func130 rfl m130 (
  .cons Tryz.func131 rfl m131 (
  .cons Tryz.func132 rfl m132 (
  .cons Tryz.func133 rfl m133 (
  .cons Tryz.func134 rfl m134 (
  .cons Tryz.func135 rfl m135 (
  .cons Tryz.func136 rfl m136 (
  .cons Tryz.func137 rfl m137 (
  .cons Tryz.func138 rfl m138 (
  .cons Tryz.func139 rfl m139 (
  .cons Tryz.func140 rfl m140 (
  .cons Tryz.func141 rfl m141 (
  .cons Tryz.func142 rfl m142 (
  .cons Tryz.func144 rfl m144 (
  .cons Tryz.func147 rfl m147 (
  .cons Tryz.func149 rfl m149 (
  .cons Tryz.func153 rfl m153 (
  .cons Tryz.func155 rfl m155 (
  .cons Tryz.func157 rfl m157 (
  .cons Tryz.func158 rfl m158 (
  .cons Tryz.func159 rfl m159 (
  .cons Tryz.func160 rfl m160 (
  .cons Tryz.func161 rfl m161 (
  .cons Tryz.func162 rfl m162 (
  .cons Tryz.func163 rfl m163 (
  .cons Tryz.func167 rfl m167 (
  .cons Tryz.func168 rfl m168 (
  .cons Tryz.func170 rfl m170 (
  .cons Tryz.func171 rfl m171 (
  .cons Tryz.func172 rfl m172 (
  .cons Tryz.func173 rfl m173 (
  .cons Tryz.func174 rfl m174 (
  .cons Tryz.func175 rfl m175 (
  .cons Tryz.func176 rfl m176 (
  .cons Tryz.func177 rfl m177 (
  .cons Tryz.func179 rfl m179 (
  .cons Tryz.func180 rfl m180 (
  .cons Tryz.func181 rfl m181 (
  .cons Tryz.func182 rfl m182 (
  .cons Tryz.func183 rfl m183 (
  .cons Tryz.func185 rfl m185 (
  .cons Tryz.func186 rfl m186 (
  .cons Tryz.func187 rfl m187 (
  .cons Tryz.func188 rfl m188 (
  .cons Tryz.func189 rfl m189 (
  .cons Tryz.func190 rfl m190 (
  .cons Tryz.func194 rfl m194 (
  .cons Tryz.func195 rfl m195 (
  .cons Tryz.func196 rfl m196 (
  .cons Tryz.func197 rfl m197 (
  .cons Tryz.func198 rfl m198 (
  .cons Tryz.func199 rfl m199 (.nil))))))))))))))))))))))))))))))))))))))))))))))))))))))))))))))))))))))))))))))))))))))))))))))))))))))
theorem progOK : GL.ProgOK Tryz.prog fid eqs GL.p :=
  ⟨by kernel_rfl, (GL.eqs_sound (by kernel_rfl)), allOK.fn, extOK⟩
/-! ### THE ROW -/
set_option maxRecDepth 100000 in
theorem lifted (os : Os) (started : os.Started) (H : Type) (enc : TypeId × Value → H) :
    ReturnsInHanded {} Tryz.checked os 4 .any (Rows.fnExactSameOutcomeSpec.pre6 enc Tryz.prog Tryz.f4 Rows.fnExactSameOutcomeRow.domain false) (Rows.fnExactSameOutcomeSpec.post enc Tryz.prog Tryz.f4 false true false false) := by
  refine returnsInHanded_of_change (C := Tryz.checked) own started (by kernel_rfl) Tryz.func4
    (ChangeSpec.witness6 (enc := enc) (C := Tryz.checked) false ⟨#[], #[.agg #[.int .i64 0, .slice none 0 0, .slice none 0 0, .slice none 0 0], .int .i64 0, .int .i64 0], []⟩ 12 (by kernel_rfl) (by kernel_rfl) (by kernel_rfl) (by kernel_rfl)) ?_
  intro W base args ds gs before hval0 hW hcnd _
  have hval : ∀ (j : Nat) t v, Tryz.f4.params[j]? = some t → args[j]? = some v → Value.okWide Tryz.prog W .any base t v := hval0
  have hW' := hW
  obtain ⟨p, q, hA0, hV, rfl, hfz, hnd⟩ := hW
  have hA : DataW.TrodAll enc Tryz.prog W 0 (fun _ => true) true Tryz.f4.params.toList args.toList ds p := hA0
  rw [Tryz.params4] at hA hval
  obtain ⟨v0, vs0, d0, ds0, p0, q0, hargs, rfl, rfl, h0, r0⟩ := trodAll_cons hA
  obtain ⟨v1, vs1, d1, ds1, p1, q1, rfl, rfl, rfl, h1, r1⟩ := trodAll_cons r0
  obtain ⟨v2, vs2, d2, ds2, p2, q2, rfl, rfl, rfl, h2, r2⟩ := trodAll_cons r1
  obtain ⟨rfl, rfl, rfl⟩ := trodAll_nil r2
  obtain rfl : args = #[v0, v1, v2] := by cases args; simp_all
  obtain ⟨rfl, rfl⟩ := trodVars_none hV
  obtain ⟨arr0, rfl, _⟩ := okWide_struct Tryz.underlying46 (hval 0 46 v0 rfl rfl)
  have k0 := h0
  have lt0 : ∀ x ∈ p0, x.block < W.heap.size := by obtain ⟨m, hm⟩ := k0; exact DataW.trod_lt m _ _ _ hm
  obtain ⟨x0, ss0, a0, F0, i0⟩ := A46.argS h0 (0)
  obtain ⟨n1, rfl⟩ := okWide_int Tryz.underlying3 (hval 1 3 v1 rfl rfl)
  have k1 := h1
  have lt1 : ∀ x ∈ p1, x.block < W.heap.size := by obtain ⟨m, hm⟩ := k1; exact DataW.trod_lt m _ _ _ hm
  obtain ⟨x1, ss1, a1, F1, i1⟩ := A3.arg1 (by rfl) h1 (0 + ss0.length)
  obtain ⟨n2, rfl⟩ := okWide_int Tryz.underlying3 (hval 2 3 v2 rfl rfl)
  have k2 := h2
  have lt2 : ∀ x ∈ p2, x.block < W.heap.size := by obtain ⟨m, hm⟩ := k2; exact DataW.trod_lt m _ _ _ hm
  obtain ⟨x2, ss2, a2, F2, i2⟩ := A3.arg1 (by rfl) h2 (0 + ss0.length + ss1.length)
  refine (GL.law3 progOK (f := 713) i0 i1 i2 fun h t0 t1 t2 => GL.FnExactSameOutcome_law t0 t1 t2).mono fun e W' ⟨he, bel⟩ => ?_
  subst he
  exact ⟨_, rfl, _, _, _, [], _, [], hW', trodAll_mk1 (shut_bool Tryz.underlying4 _), (trodAll_cons_mk (Below.trod laidOut (by kernel_rfl) (of_decide_eq_true (by kernel_rfl)) k0 bel lt0) (trodAll_cons_mk (Below.trod laidOut (by kernel_rfl) (of_decide_eq_true (by kernel_rfl)) k1 bel lt1) (trodAll_cons_mk (Below.trod laidOut (by kernel_rfl) (of_decide_eq_true (by kernel_rfl)) k2 bel lt2) trodAll_mk0))), rfl, bel.frame _, fun h => by cases h⟩

theorem over : Rows.fnExactSameOutcomeRow.holds Tryz.pinned (OpenSpec.ofChange Rows.fnExactSameOutcomeSpec) :=
  OpenClaim.holds_of_wide 4 Tryz.f4 rfl rfl rfl rfl rfl rfl rfl ⟨rfl, rfl, rfl, rfl, rfl⟩ rfl rfl rfl rfl rfl (by kernel_rfl) Tryz.func4 (by kernel_rfl)
    (of_decide_eq_true (by kernel_rfl)) (by unfold Func.isWrapper; first | (rw [if_pos (by decide +kernel)]; kernel_rfl) | (rw [if_neg (by decide +kernel)]; exact ⟨rfl, rfl⟩))
    (fun os started H enc _ => lifted os started H enc)

theorem proved : Rows.FnExactSameOutcomeSaid := over
#print axioms proved
end Go.Proofs.YtgmjabiadkailaaGreat.fnExactSameOutcome
