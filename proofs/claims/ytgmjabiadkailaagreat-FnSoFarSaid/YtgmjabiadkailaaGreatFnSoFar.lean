import Derived.Test.YtgmjabiadkailaaGreatRows
import Derived.WalkKit
import Derived.ProofKit
import Derived.OpenShut
import Derived.ShutString
import Derived.ChangeOld
import Derived.Below
import Derived.Test.YtgmjabiadkailaaGreatLw
import Derived.Test.YtgmjabiadkailaaGreatGuFnSoFar
/- The law 'FnSoFar' holds: its row, from the machine's run. -/
set_option linter.unusedSimpArgs false
set_option linter.unusedVariables false
set_option linter.unnecessarySimpa false
namespace Go.Proofs.YtgmjabiadkailaaGreat.fnSoFar
open Go.ChangeShapes Go.WideShapes Go.ChangeAt Go.RowKit
open Go.ChangeMaps (open_string shut_string)
set_option linter.unusedVariables false

theorem own : ownKnob Tryz.prog.godebug = none := by kernel_rfl
theorem laidOut : laidOutB Tryz.prog = true := by kernel_rfl

/-- WHAT THE WALK IS TOLD OF A SLICE OF INTEGERS THAT CAME IN: it is nil; or it leads to a row of 'cap' cells, the numbers 'zs' (the first 'len' are its elements, the rest its spare room), each fitting its kind. -/
def IsRow (k : IntKind) (w : World) (a : Option Addr) (len cap : Nat) (zs : List Int) : Prop :=
  (a = none ∧ len = 0 ∧ cap = 0 ∧ zs = []) ∨
  ∃ x, a = some x ∧ len ≤ cap ∧ cap ≤ maxLen ∧ zs.length = cap ∧ (∀ i, i < zs.length → w.cell? (x.add i) = some (.int k (zs.getD i 0))) ∧ ∀ n ∈ zs, (Lit.int k n).wf = true

def fidL : List (Nat × Nat) := [(719, 5), (24, 14), (720, 29), (721, 30), (722, 31), (723, 32), (724, 33), (204, 34), (725, 35), (726, 36), (727, 37), (478, 38), (477, 39), (474, 47), (458, 49), (567, 58), (92, 59), (541, 62), (552, 65), (539, 68), (554, 70), (429, 75), (557, 76), (98, 80), (770, 83), (771, 85), (91, 91), (107, 92), (542, 93), (604, 94), (775, 95), (776, 96), (447, 97), (457, 98), (446, 99), (540, 105), (573, 106), (774, 107), (462, 108), (463, 109), (93, 110), (550, 111), (558, 112), (304, 113), (385, 115), (407, 116), (406, 117), (412, 118), (572, 119), (301, 120), (389, 121), (94, 123), (302, 124), (410, 125), (560, 126), (335, 127), (436, 129), (395, 130), (574, 131), (545, 132), (575, 133), (562, 134), (356, 137), (588, 138), (386, 141), (140, 143), (553, 144), (528, 145), (529, 146), (464, 147), (518, 148), (314, 149), (339, 150), (523, 151), (515, 152), (522, 153), (341, 154), (516, 155), (525, 157), (526, 158), (465, 159), (527, 160), (337, 161), (547, 162), (391, 163), (340, 165), (427, 166), (430, 167), (390, 168), (397, 170), (576, 171), (555, 172), (428, 175), (336, 176), (549, 177), (568, 178), (318, 179), (530, 180), (531, 181), (538, 182), (532, 183), (566, 184), (519, 185), (333, 186), (537, 187), (322, 188), (321, 189), (533, 190), (551, 194), (435, 195), (396, 196), (571, 197), (569, 198), (535, 199)]
def fid : Nat → FuncId := fun i => (fidL.lookup i).getD 0
def eqs : List (TypeId × List (Option IntKind)) := []
theorem m5 : GL.fnMt Tryz.prog fid eqs Tryz.f5 GL.g719 = true := by kernel_rfl
theorem m14 : GL.fnMt Tryz.prog fid eqs Tryz.f14 GL.g24 = true := by kernel_rfl
theorem m29 : GL.fnMt Tryz.prog fid eqs Tryz.f29 GL.g720 = true := by kernel_rfl
theorem m30 : GL.fnMt Tryz.prog fid eqs Tryz.f30 GL.g721 = true := by kernel_rfl
theorem m31 : GL.fnMt Tryz.prog fid eqs Tryz.f31 GL.g722 = true := by kernel_rfl
theorem m32 : GL.fnMt Tryz.prog fid eqs Tryz.f32 GL.g723 = true := by kernel_rfl
theorem m33 : GL.fnMt Tryz.prog fid eqs Tryz.f33 GL.g724 = true := by kernel_rfl
theorem m34 : GL.fnMt Tryz.prog fid eqs Tryz.f34 GL.g204 = true := by kernel_rfl
theorem m35 : GL.fnMt Tryz.prog fid eqs Tryz.f35 GL.g725 = true := by kernel_rfl
theorem m36 : GL.fnMt Tryz.prog fid eqs Tryz.f36 GL.g726 = true := by kernel_rfl
theorem m37 : GL.fnMt Tryz.prog fid eqs Tryz.f37 GL.g727 = true := by kernel_rfl
theorem m38 : GL.fnMt Tryz.prog fid eqs Tryz.f38 GL.g478 = true := by kernel_rfl
theorem m39 : GL.fnMt Tryz.prog fid eqs Tryz.f39 GL.g477 = true := by kernel_rfl
theorem m47 : GL.fnMt Tryz.prog fid eqs Tryz.f47 GL.g474 = true := by kernel_rfl
theorem m49 : GL.fnMt Tryz.prog fid eqs Tryz.f49 GL.g458 = true := by kernel_rfl
theorem m58 : GL.fnMt Tryz.prog fid eqs Tryz.f58 GL.g567 = true := by kernel_rfl
theorem m59 : GL.fnMt Tryz.prog fid eqs Tryz.f59 GL.g92 = true := by kernel_rfl
theorem m62 : GL.fnMt Tryz.prog fid eqs Tryz.f62 GL.g541 = true := by kernel_rfl
theorem m65 : GL.fnMt Tryz.prog fid eqs Tryz.f65 GL.g552 = true := by kernel_rfl
theorem m68 : GL.fnMt Tryz.prog fid eqs Tryz.f68 GL.g539 = true := by kernel_rfl
theorem m70 : GL.fnMt Tryz.prog fid eqs Tryz.f70 GL.g554 = true := by kernel_rfl
theorem m75 : GL.fnMt Tryz.prog fid eqs Tryz.f75 GL.g429 = true := by kernel_rfl
theorem m76 : GL.fnMt Tryz.prog fid eqs Tryz.f76 GL.g557 = true := by kernel_rfl
theorem m80 : GL.fnMt Tryz.prog fid eqs Tryz.f80 GL.g98 = true := by kernel_rfl
theorem m83 : GL.fnMt Tryz.prog fid eqs Tryz.f83 GL.g770 = true := by kernel_rfl
theorem m85 : GL.fnMt Tryz.prog fid eqs Tryz.f85 GL.g771 = true := by kernel_rfl
theorem m91 : GL.fnMt Tryz.prog fid eqs Tryz.f91 GL.g91 = true := by kernel_rfl
theorem m92 : GL.fnMt Tryz.prog fid eqs Tryz.f92 GL.g107 = true := by kernel_rfl
theorem m93 : GL.fnMt Tryz.prog fid eqs Tryz.f93 GL.g542 = true := by kernel_rfl
theorem m94 : GL.fnMt Tryz.prog fid eqs Tryz.f94 GL.g604 = true := by kernel_rfl
theorem m95 : GL.fnMt Tryz.prog fid eqs Tryz.f95 GL.g775 = true := by kernel_rfl
theorem m96 : GL.fnMt Tryz.prog fid eqs Tryz.f96 GL.g776 = true := by kernel_rfl
theorem m97 : GL.fnMt Tryz.prog fid eqs Tryz.f97 GL.g447 = true := by kernel_rfl
theorem m98 : GL.fnMt Tryz.prog fid eqs Tryz.f98 GL.g457 = true := by kernel_rfl
theorem m99 : GL.fnMt Tryz.prog fid eqs Tryz.f99 GL.g446 = true := by kernel_rfl
theorem m105 : GL.fnMt Tryz.prog fid eqs Tryz.f105 GL.g540 = true := by kernel_rfl
theorem m106 : GL.fnMt Tryz.prog fid eqs Tryz.f106 GL.g573 = true := by kernel_rfl
theorem m107 : GL.fnMt Tryz.prog fid eqs Tryz.f107 GL.g774 = true := by kernel_rfl
theorem m108 : GL.fnMt Tryz.prog fid eqs Tryz.f108 GL.g462 = true := by kernel_rfl
theorem m109 : GL.fnMt Tryz.prog fid eqs Tryz.f109 GL.g463 = true := by kernel_rfl
theorem m110 : GL.fnMt Tryz.prog fid eqs Tryz.f110 GL.g93 = true := by kernel_rfl
theorem m111 : GL.fnMt Tryz.prog fid eqs Tryz.f111 GL.g550 = true := by kernel_rfl
theorem m112 : GL.fnMt Tryz.prog fid eqs Tryz.f112 GL.g558 = true := by kernel_rfl
theorem m113 : GL.fnMt Tryz.prog fid eqs Tryz.f113 GL.g304 = true := by kernel_rfl
theorem m115 : GL.fnMt Tryz.prog fid eqs Tryz.f115 GL.g385 = true := by kernel_rfl
theorem m118 : GL.fnMt Tryz.prog fid eqs Tryz.f118 GL.g412 = true := by kernel_rfl
theorem m119 : GL.fnMt Tryz.prog fid eqs Tryz.f119 GL.g572 = true := by kernel_rfl
theorem m120 : GL.fnMt Tryz.prog fid eqs Tryz.f120 GL.g301 = true := by kernel_rfl
theorem m121 : GL.fnMt Tryz.prog fid eqs Tryz.f121 GL.g389 = true := by kernel_rfl
theorem m123 : GL.fnMt Tryz.prog fid eqs Tryz.f123 GL.g94 = true := by kernel_rfl
theorem m124 : GL.fnMt Tryz.prog fid eqs Tryz.f124 GL.g302 = true := by kernel_rfl
theorem m125 : GL.fnMt Tryz.prog fid eqs Tryz.f125 GL.g410 = true := by kernel_rfl
theorem m126 : GL.fnMt Tryz.prog fid eqs Tryz.f126 GL.g560 = true := by kernel_rfl
theorem m127 : GL.fnMt Tryz.prog fid eqs Tryz.f127 GL.g335 = true := by kernel_rfl
theorem m129 : GL.fnMt Tryz.prog fid eqs Tryz.f129 GL.g436 = true := by kernel_rfl
theorem m130 : GL.fnMt Tryz.prog fid eqs Tryz.f130 GL.g395 = true := by kernel_rfl
theorem m131 : GL.fnMt Tryz.prog fid eqs Tryz.f131 GL.g574 = true := by kernel_rfl
theorem m132 : GL.fnMt Tryz.prog fid eqs Tryz.f132 GL.g545 = true := by kernel_rfl
theorem m133 : GL.fnMt Tryz.prog fid eqs Tryz.f133 GL.g575 = true := by kernel_rfl
theorem m134 : GL.fnMt Tryz.prog fid eqs Tryz.f134 GL.g562 = true := by kernel_rfl
theorem m137 : GL.fnMt Tryz.prog fid eqs Tryz.f137 GL.g356 = true := by kernel_rfl
theorem m138 : GL.fnMt Tryz.prog fid eqs Tryz.f138 GL.g588 = true := by kernel_rfl
theorem m141 : GL.fnMt Tryz.prog fid eqs Tryz.f141 GL.g386 = true := by kernel_rfl
theorem m143 : GL.fnMt Tryz.prog fid eqs Tryz.f143 GL.g140 = true := by kernel_rfl
theorem m144 : GL.fnMt Tryz.prog fid eqs Tryz.f144 GL.g553 = true := by kernel_rfl
theorem m145 : GL.fnMt Tryz.prog fid eqs Tryz.f145 GL.g528 = true := by kernel_rfl
theorem m146 : GL.fnMt Tryz.prog fid eqs Tryz.f146 GL.g529 = true := by kernel_rfl
theorem m147 : GL.fnMt Tryz.prog fid eqs Tryz.f147 GL.g464 = true := by kernel_rfl
theorem m148 : GL.fnMt Tryz.prog fid eqs Tryz.f148 GL.g518 = true := by kernel_rfl
theorem m149 : GL.fnMt Tryz.prog fid eqs Tryz.f149 GL.g314 = true := by kernel_rfl
theorem m150 : GL.fnMt Tryz.prog fid eqs Tryz.f150 GL.g339 = true := by kernel_rfl
theorem m151 : GL.fnMt Tryz.prog fid eqs Tryz.f151 GL.g523 = true := by kernel_rfl
theorem m152 : GL.fnMt Tryz.prog fid eqs Tryz.f152 GL.g515 = true := by kernel_rfl
theorem m153 : GL.fnMt Tryz.prog fid eqs Tryz.f153 GL.g522 = true := by kernel_rfl
theorem m154 : GL.fnMt Tryz.prog fid eqs Tryz.f154 GL.g341 = true := by kernel_rfl
theorem m155 : GL.fnMt Tryz.prog fid eqs Tryz.f155 GL.g516 = true := by kernel_rfl
theorem m157 : GL.fnMt Tryz.prog fid eqs Tryz.f157 GL.g525 = true := by kernel_rfl
theorem m158 : GL.fnMt Tryz.prog fid eqs Tryz.f158 GL.g526 = true := by kernel_rfl
theorem m159 : GL.fnMt Tryz.prog fid eqs Tryz.f159 GL.g465 = true := by kernel_rfl
theorem m160 : GL.fnMt Tryz.prog fid eqs Tryz.f160 GL.g527 = true := by kernel_rfl
theorem m161 : GL.fnMt Tryz.prog fid eqs Tryz.f161 GL.g337 = true := by kernel_rfl
theorem m162 : GL.fnMt Tryz.prog fid eqs Tryz.f162 GL.g547 = true := by kernel_rfl
theorem m163 : GL.fnMt Tryz.prog fid eqs Tryz.f163 GL.g391 = true := by kernel_rfl
theorem m167 : GL.fnMt Tryz.prog fid eqs Tryz.f167 GL.g430 = true := by kernel_rfl
theorem m168 : GL.fnMt Tryz.prog fid eqs Tryz.f168 GL.g390 = true := by kernel_rfl
theorem m170 : GL.fnMt Tryz.prog fid eqs Tryz.f170 GL.g397 = true := by kernel_rfl
theorem m171 : GL.fnMt Tryz.prog fid eqs Tryz.f171 GL.g576 = true := by kernel_rfl
theorem m172 : GL.fnMt Tryz.prog fid eqs Tryz.f172 GL.g555 = true := by kernel_rfl
theorem m175 : GL.fnMt Tryz.prog fid eqs Tryz.f175 GL.g428 = true := by kernel_rfl
theorem m176 : GL.fnMt Tryz.prog fid eqs Tryz.f176 GL.g336 = true := by kernel_rfl
theorem m177 : GL.fnMt Tryz.prog fid eqs Tryz.f177 GL.g549 = true := by kernel_rfl
theorem m178 : GL.fnMt Tryz.prog fid eqs Tryz.f178 GL.g568 = true := by kernel_rfl
theorem m179 : GL.fnMt Tryz.prog fid eqs Tryz.f179 GL.g318 = true := by kernel_rfl
theorem m180 : GL.fnMt Tryz.prog fid eqs Tryz.f180 GL.g530 = true := by kernel_rfl
theorem m181 : GL.fnMt Tryz.prog fid eqs Tryz.f181 GL.g531 = true := by kernel_rfl
theorem m182 : GL.fnMt Tryz.prog fid eqs Tryz.f182 GL.g538 = true := by kernel_rfl
theorem m183 : GL.fnMt Tryz.prog fid eqs Tryz.f183 GL.g532 = true := by kernel_rfl
theorem m184 : GL.fnMt Tryz.prog fid eqs Tryz.f184 GL.g566 = true := by kernel_rfl
theorem m185 : GL.fnMt Tryz.prog fid eqs Tryz.f185 GL.g519 = true := by kernel_rfl
theorem m186 : GL.fnMt Tryz.prog fid eqs Tryz.f186 GL.g333 = true := by kernel_rfl
theorem m187 : GL.fnMt Tryz.prog fid eqs Tryz.f187 GL.g537 = true := by kernel_rfl
theorem m188 : GL.fnMt Tryz.prog fid eqs Tryz.f188 GL.g322 = true := by kernel_rfl
theorem m189 : GL.fnMt Tryz.prog fid eqs Tryz.f189 GL.g321 = true := by kernel_rfl
theorem m190 : GL.fnMt Tryz.prog fid eqs Tryz.f190 GL.g533 = true := by kernel_rfl
theorem m194 : GL.fnMt Tryz.prog fid eqs Tryz.f194 GL.g551 = true := by kernel_rfl
theorem m195 : GL.fnMt Tryz.prog fid eqs Tryz.f195 GL.g435 = true := by kernel_rfl
theorem m196 : GL.fnMt Tryz.prog fid eqs Tryz.f196 GL.g396 = true := by kernel_rfl
theorem m197 : GL.fnMt Tryz.prog fid eqs Tryz.f197 GL.g571 = true := by kernel_rfl
theorem m198 : GL.fnMt Tryz.prog fid eqs Tryz.f198 GL.g569 = true := by kernel_rfl
theorem m199 : GL.fnMt Tryz.prog fid eqs Tryz.f199 GL.g535 = true := by kernel_rfl
theorem valF : GL.CallOK Tryz.prog fid fun g args h => if g = 406 then GL.valuesE args h else none := GL.valuesE_ok ⟨_, Tryz.func117, by kernel_rfl, by kernel_rfl⟩ (fun a len cap w => Tryz.valuesC a len cap w)
theorem srtF : GL.CallOK Tryz.prog fid fun g args h => if g = 407 then GL.sortedE args h else none := GL.sortedE_ok ⟨_, Tryz.func116, by kernel_rfl, by kernel_rfl⟩ (fun Bs Bo sv zs w hl hBs hc hI => Tryz.sortedVals Bs Bo sv zs (by unfold maxLen; omega) (by omega) w hBs hc hI)
theorem sorF : GL.CallOK Tryz.prog fid fun g args h => if g = 340 then GL.sortE args h else none := GL.sortE_ok ⟨_, Tryz.func165, by kernel_rfl, by kernel_rfl⟩ (fun blk off cap ss W hH hb hs => Go.Proofs.AnyM.slices_Sort_int Tryz.sortA blk off cap ss W hH hb hs) (fun p cap W => Go.Proofs.AnyM.slices_Sort_int_none Tryz.sortA p cap W)
theorem extOK : ∀ f e, GL.p.ext f = some e → GL.CallOK Tryz.prog fid fun g args h => if g = f then e args h else none := fun f e h => by
  have h : (bif Nat.beq f 407 then some GL.sortedE else bif Nat.beq f 406 then some GL.valuesE else bif Nat.beq f 340 then some GL.sortE else none) = some e := h
  rcases GL.bif_some h with ⟨rfl, h⟩ | ⟨_, h⟩
  · cases h; exact srtF
  rcases GL.bif_some h with ⟨rfl, h⟩ | ⟨_, h⟩
  · cases h; exact valF
  rcases GL.bif_some h with ⟨rfl, h⟩ | ⟨_, h⟩
  · cases h; exact sorF
  cases h
theorem allOK : GL.AllOK Tryz.prog fid eqs GL.fnL :=
  .cons Tryz.func5 rfl m5 (
  .cons Tryz.func14 rfl m14 (
  .cons Tryz.func29 rfl m29 (
  .cons Tryz.func30 rfl m30 (
  .cons Tryz.func31 rfl m31 (
  .cons Tryz.func32 rfl m32 (
  .cons Tryz.func33 rfl m33 (
  .cons Tryz.func34 rfl m34 (
  .cons Tryz.func35 rfl m35 (
  .cons Tryz.func36 rfl m36 (
  .cons Tryz.func37 rfl m37 (
  .cons Tryz.func38 rfl m38 (
  .cons Tryz.func39 rfl m39 (
  .cons Tryz.func47 rfl m47 (
  .cons Tryz.func49 rfl m49 (
  .cons Tryz.func58 rfl m58 (
  .cons Tryz.func59 rfl m59 (
  .cons Tryz.func62 rfl m62 (
  .cons Tryz.func65 rfl m65 (
  .cons Tryz.func68 rfl m68 (
  .cons Tryz.func70 rfl m70 (
  .cons Tryz.func75 rfl m75 (
  .cons Tryz.func76 rfl m76 (
  .cons Tryz.func80 rfl m80 (
  .cons Tryz.func83 rfl m83 (
  .cons Tryz.func85 rfl m85 (
  .cons Tryz.func91 rfl m91 (
  .cons Tryz.func92 rfl m92 (
  .cons Tryz.func93 rfl m93 (
  .cons Tryz.func94 rfl m94 (
  .cons Tryz.func95 rfl m95 (
  .cons Tryz.func96 rfl m96 (
  .cons Tryz.func97 rfl m97 (
  .cons Tryz.func98 rfl m98 (
  .cons Tryz.func99 rfl m99 (
  .cons Tryz.func105 rfl m105 (
  .cons Tryz.func106 rfl m106 (
  .cons Tryz.func107 rfl m107 (
  .cons Tryz.func108 rfl m108 (
  .cons Tryz.func109 rfl m109 (
  .cons Tryz.func110 rfl m110 (
  .cons Tryz.func111 rfl m111 (
  .cons Tryz.func112 rfl m112 (
  .cons Tryz.func113 rfl m113 (
  .cons Tryz.func115 rfl m115 (
  .cons Tryz.func118 rfl m118 (
  .cons Tryz.func119 rfl m119 (
  .cons Tryz.func120 rfl m120 (
  .cons Tryz.func121 rfl m121 (
  .cons Tryz.func123 rfl m123 (
  .cons Tryz.func124 rfl m124 (
  .cons Tryz.func125 rfl m125 (
  .cons Tryz.func126 rfl m126 (
  .cons Tryz.func127 rfl m127 (
  .cons Tryz.func129 rfl m129 (
  .cons Tryz.func130 rfl m130 (
  .cons Tryz.func131 rfl m131 (
  .cons Tryz.func132 rfl m132 (
  .cons Tryz.func133 rfl m133 (
  .cons Tryz.func134 rfl m134 (
  .cons Tryz.func137 rfl m137 (
  .cons Tryz.func138 rfl m138 (
  .cons Tryz.func141 rfl m141 (
  .cons Tryz.func143 rfl m143 (
  .cons Tryz.func144 rfl m144 (
  .cons Tryz.func145 rfl m145 (
  .cons Tryz.func146 rfl m146 (
  .cons Tryz.func147 rfl m147 (
  .cons Tryz.func148 rfl m148 (
  .cons Tryz.func149 rfl m149 (
  .cons Tryz.func150 rfl m150 (
  .cons Tryz.func151 rfl m151 (
  .cons Tryz.func152 rfl m152 (
  .cons Tryz.func153 rfl m153 (
  .cons Tryz.func154 rfl m154 (
  .cons Tryz.func155 rfl m155 (
  .cons Tryz.func157 rfl m157 (
  .cons Tryz.func158 rfl m158 (
  .cons Tryz.func159 rfl m159 (
  .cons Tryz.func160 rfl m160 (
  .cons Tryz.func161 rfl m161 (
  .cons Tryz.func162 rfl m162 (
  .cons Tryz.func163 rfl m163 (
  .cons Tryz.func167 rfl m167 (
  .cons Tryz.func168 rfl m168 (
  .cons Tryz.func170 rfl m170 (
  .cons Tryz.func171 rfl m171 (
  .cons Tryz.func172 rfl m172 (
  .cons Tryz.func175 rfl m175 (
  .cons Tryz.func176 rfl m176 (
  .cons Tryz.func177 rfl m177 (
  .cons Tryz.func178 rfl m178 (
  .cons Tryz.func179 rfl m179 (
  .cons Tryz.func180 rfl m180 (
  .cons Tryz.func181 rfl m181 (
  .cons Tryz.func182 rfl m182 (
  .cons Tryz.func183 rfl m183 (
  .cons Tryz.func184 rfl m184 (
  .cons Tryz.func185 rfl m185 (
  .cons Tryz.func186 rfl m186 (
  .cons Tryz.func187 rfl m187 (
  .cons Tryz.func188 rfl m188 (
  .cons Tryz.func189 rfl m189 (
  .cons Tryz.func190 rfl m190 (
  .cons Tryz.func194 rfl m194 (
  .cons Tryz.func195 rfl m195 (
  .cons Tryz.func196 rfl m196 (
  .cons Tryz.func197 rfl m197 (
  .cons Tryz.func198 rfl m198 (
  .cons Tryz.func199 rfl m199 (.nil))))))))))))))))))))))))))))))))))))))))))))))))))))))))))))))))))))))))))))))))))))))))))))))))))))))))))))))
theorem progOK : GL.ProgOK Tryz.prog fid eqs GL.p :=
  ⟨by kernel_rfl, (GL.eqs_sound (by kernel_rfl)), allOK.fn, extOK⟩
theorem walk (a0 : Option Addr) (len0 cap0 : Nat) (z0 : List Int) (a1 : Option Addr) (len1 cap1 : Nat) (z1 : List Int) (w : World) (w0 : IsRow .u8 w a0 len0 cap0 z0) (w1 : IsRow .u8 w a1 len1 cap1 z1) :
    Calls Tryz.prog 5 #[.slice a0 len0 cap0, .slice a1 len1 cap1] w fun e w' => e = .returned (.bool true) ∧ Below w.heap.size w w' :=
  GL.calls2 progOK (f := 719) (fun _ _ _ _ _ ha hb => GL.FnSoFar_ok ha hb) w0 w1

/-! ### THE ROW's STEP: WRITTEN OUT: LEAVE IT -/
set_option maxRecDepth 100000 in
theorem lifted (os : Os) (started : os.Started) (H : Type) (enc : TypeId × Value → H) :
    ReturnsInHanded {} Tryz.checked os 5 .any (Rows.fnSoFarSpec.pre6 enc Tryz.prog Tryz.f5 Rows.fnSoFarRow.domain false) (Rows.fnSoFarSpec.post enc Tryz.prog Tryz.f5 false true false false) := by
  refine returnsInHanded_of_change (C := Tryz.checked) own started (by kernel_rfl) Tryz.func5
    (ChangeSpec.witness6 (enc := enc) (C := Tryz.checked) false ⟨#[], #[.slice none 0 0, .slice none 0 0], []⟩ 8 (by kernel_rfl) (by kernel_rfl) (by kernel_rfl) (by kernel_rfl)) ?_
  intro W base args ds gs before hval0 hW hcnd _
  have hval : ∀ (j : Nat) t v, Tryz.f5.params[j]? = some t → args[j]? = some v → Value.okWide Tryz.prog W .any base t v := hval0
  have hW' := hW
  obtain ⟨p, q, hA0, hV, rfl, hfz, hnd⟩ := hW
  have hA : DataW.TrodAll enc Tryz.prog W 0 (fun _ => true) true Tryz.f5.params.toList args.toList ds p := hA0
  rw [Tryz.params5] at hA hval
  obtain ⟨v0, vs0, d0, ds0, p0, q0, hargs, rfl, rfl, h0, r0⟩ := trodAll_cons hA
  obtain ⟨v1, vs1, d1, ds1, p1, q1, rfl, rfl, rfl, h1, r1⟩ := trodAll_cons r0
  obtain ⟨rfl, rfl, rfl⟩ := trodAll_nil r1
  obtain rfl : args = #[v0, v1] := by cases args; simp_all
  obtain ⟨rfl, rfl⟩ := trodVars_none hV
  obtain ⟨a0, len0, cap0, rfl⟩ := okWide_slice Tryz.underlying22 (hval 0 22 v0 rfl rfl)
  have k0 := h0
  have lt0 : ∀ x ∈ p0, x.block < W.heap.size := by obtain ⟨m, hm⟩ := k0; exact DataW.trod_lt m _ _ _ hm
  obtain ⟨z0, w0⟩ : ∃ zs, IsRow .u8 W a0 len0 cap0 zs := by
    obtain ⟨fuel, hf⟩ := h0
    rcases open_ints Tryz.underlying22 Tryz.underlying5 (by kernel_rfl) hf with ⟨hcs, _⟩ | ⟨x, l, c, zs, hcs, _, hl, hm, hz, _, hcell, hwz⟩
    · simp [Value.cells] at hcs
      obtain ⟨rfl, rfl, rfl⟩ := hcs
      exact ⟨[], .inl ⟨rfl, rfl, rfl, rfl⟩⟩
    · simp [Value.cells] at hcs
      obtain ⟨rfl, rfl, rfl⟩ := hcs
      exact ⟨zs, .inr ⟨_, rfl, hl, hm, by simpa using hz, hcell, hwz⟩⟩
  obtain ⟨a1, len1, cap1, rfl⟩ := okWide_slice Tryz.underlying22 (hval 1 22 v1 rfl rfl)
  have k1 := h1
  have lt1 : ∀ x ∈ p1, x.block < W.heap.size := by obtain ⟨m, hm⟩ := k1; exact DataW.trod_lt m _ _ _ hm
  obtain ⟨z1, w1⟩ : ∃ zs, IsRow .u8 W a1 len1 cap1 zs := by
    obtain ⟨fuel, hf⟩ := h1
    rcases open_ints Tryz.underlying22 Tryz.underlying5 (by kernel_rfl) hf with ⟨hcs, _⟩ | ⟨x, l, c, zs, hcs, _, hl, hm, hz, _, hcell, hwz⟩
    · simp [Value.cells] at hcs
      obtain ⟨rfl, rfl, rfl⟩ := hcs
      exact ⟨[], .inl ⟨rfl, rfl, rfl, rfl⟩⟩
    · simp [Value.cells] at hcs
      obtain ⟨rfl, rfl, rfl⟩ := hcs
      exact ⟨zs, .inr ⟨_, rfl, hl, hm, by simpa using hz, hcell, hwz⟩⟩
  clear hA0 hval0
  refine (walk a0 len0 cap0 z0 a1 len1 cap1 z1 W w0 w1).mono fun e W' ⟨he, bel⟩ => ?_
  subst he
  exact ⟨_, rfl, _, _, _, [], _, [], hW', trodAll_mk1 (shut_bool Tryz.underlying4 _), (trodAll_cons_mk (Below.trod laidOut (by kernel_rfl) (of_decide_eq_true (by kernel_rfl)) k0 bel lt0) (trodAll_cons_mk (Below.trod laidOut (by kernel_rfl) (of_decide_eq_true (by kernel_rfl)) k1 bel lt1) trodAll_mk0)), rfl, bel.frame _, fun h => by cases h⟩

theorem over : Rows.fnSoFarRow.holds Tryz.pinned (OpenSpec.ofChange Rows.fnSoFarSpec) :=
  OpenClaim.holds_of_wide 5 Tryz.f5 rfl rfl rfl rfl rfl rfl rfl ⟨rfl, rfl, rfl, rfl, rfl⟩ rfl rfl rfl rfl rfl (by kernel_rfl) Tryz.func5 (by kernel_rfl)
    (of_decide_eq_true (by kernel_rfl)) (by unfold Func.isWrapper; first | (rw [if_pos (by decide +kernel)]; kernel_rfl) | (rw [if_neg (by decide +kernel)]; exact ⟨rfl, rfl⟩))
    (fun os started H enc _ => lifted os started H enc)

/-- ████ THE STATEMENT ████ -/
theorem proved : Rows.FnSoFarSaid := over
#print axioms proved
end Go.Proofs.YtgmjabiadkailaaGreat.fnSoFar
