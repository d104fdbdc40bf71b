import Derived.Test.YtmgbbehacaldlaaGreatRows
import Derived.WalkKit
import Derived.ProofKit
import Derived.OpenShut
import Derived.ShutString
import Derived.ChangeOld
import Derived.Below
import Derived.Test.YtmgbbehacaldlaaGreatLw
import Derived.Test.YtmgbbehacaldlaaGreatGuFnHouse
/- The law 'FnHouse' holds: its row, from the machine's run. -/
set_option linter.unusedSimpArgs false
set_option linter.unusedVariables false
set_option linter.unnecessarySimpa false
namespace Go.Proofs.YtmgbbehacaldlaaGreat.fnHouse
open Go.ChangeShapes Go.WideShapes Go.ChangeAt Go.RowKit
open Go.ChangeMaps (open_string shut_string)
set_option linter.unusedVariables false

theorem own : ownKnob Tryz.prog.godebug = none := by kernel_rfl
theorem laidOut : laidOutB Tryz.prog = true := by kernel_rfl

/-- WHAT THE WALK IS TOLD OF A SLICE OF INTEGERS THAT CAME IN: it is nil; or it leads to a row of 'cap' cells, the numbers 'zs' (the first 'len' are its elements, the rest its spare room), each fitting its kind. -/
def IsRow (k : IntKind) (w : World) (a : Option Addr) (len cap : Nat) (zs : List Int) : Prop :=
  (a = none ∧ len = 0 ∧ cap = 0 ∧ zs = []) ∨
  ∃ x, a = some x ∧ len ≤ cap ∧ cap ≤ maxLen ∧ zs.length = cap ∧ (∀ i, i < zs.length → w.cell? (x.add i) = some (.int k (zs.getD i 0))) ∧ ∀ n ∈ zs, (Lit.int k n).wf = true

def fidL : List (Nat × Nat) := [(730, 3), (731, 5), (718, 6), (717, 7), (474, 8), (473, 9), (383, 10), (458, 11), (589, 12), (481, 13), (724, 14), (31, 15), (24, 16), (732, 17), (480, 18), (733, 19), (715, 20), (714, 21), (723, 22), (498, 30), (776, 36), (542, 37), (429, 38), (557, 39), (773, 40), (457, 41), (540, 42), (573, 43), (774, 44), (772, 45), (771, 46), (462, 47), (463, 48), (541, 49), (721, 50), (775, 51), (567, 52), (92, 53), (539, 54), (725, 55), (91, 56), (770, 57), (552, 64), (554, 68), (500, 72), (98, 76), (389, 77), (436, 78), (560, 79), (395, 80), (574, 81), (545, 82), (575, 83), (386, 84), (558, 85), (356, 86), (588, 87), (464, 88), (525, 89), (526, 90), (465, 91), (522, 92), (527, 93), (385, 94), (407, 95), (406, 96), (107, 97), (604, 98), (528, 99), (529, 100), (302, 101), (140, 102), (93, 103), (550, 104), (304, 105), (412, 107), (572, 108), (301, 109), (94, 111), (410, 112), (335, 113), (559, 114), (562, 115), (397, 116), (576, 117), (340, 118), (547, 119), (555, 120), (318, 121), (530, 122), (531, 123), (538, 124), (532, 125), (314, 126), (322, 127), (519, 128), (321, 129), (533, 130), (337, 131), (333, 132), (516, 133), (427, 135), (553, 136), (568, 137), (391, 138), (430, 139), (390, 140), (551, 144), (569, 145), (535, 146), (537, 147), (428, 149), (336, 150), (549, 151), (435, 163), (396, 164), (571, 165)]
def fid : Nat → FuncId := fun i => (fidL.lookup i).getD 0
def eqs : List (TypeId × List (Option IntKind)) := []
theorem m3 : GL.fnMt Tryz.prog fid eqs Tryz.f3 GL.g730 = true := by kernel_rfl
theorem m5 : GL.fnMt Tryz.prog fid eqs Tryz.f5 GL.g731 = true := by kernel_rfl
theorem m6 : GL.fnMt Tryz.prog fid eqs Tryz.f6 GL.g718 = true := by kernel_rfl
theorem m7 : GL.fnMt Tryz.prog fid eqs Tryz.f7 GL.g717 = true := by kernel_rfl
theorem m8 : GL.fnMt Tryz.prog fid eqs Tryz.f8 GL.g474 = true := by kernel_rfl
theorem m9 : GL.fnMt Tryz.prog fid eqs Tryz.f9 GL.g473 = true := by kernel_rfl
theorem m10 : GL.fnMt Tryz.prog fid eqs Tryz.f10 GL.g383 = true := by kernel_rfl
theorem m11 : GL.fnMt Tryz.prog fid eqs Tryz.f11 GL.g458 = true := by kernel_rfl
theorem m12 : GL.fnMt Tryz.prog fid eqs Tryz.f12 GL.g589 = true := by kernel_rfl
theorem m13 : GL.fnMt Tryz.prog fid eqs Tryz.f13 GL.g481 = true := by kernel_rfl
theorem m14 : GL.fnMt Tryz.prog fid eqs Tryz.f14 GL.g724 = true := by kernel_rfl
theorem m15 : GL.fnMt Tryz.prog fid eqs Tryz.f15 GL.g31 = true := by kernel_rfl
theorem m16 : GL.fnMt Tryz.prog fid eqs Tryz.f16 GL.g24 = true := by kernel_rfl
theorem m17 : GL.fnMt Tryz.prog fid eqs Tryz.f17 GL.g732 = true := by kernel_rfl
theorem m18 : GL.fnMt Tryz.prog fid eqs Tryz.f18 GL.g480 = true := by kernel_rfl
theorem m19 : GL.fnMt Tryz.prog fid eqs Tryz.f19 GL.g733 = true := by kernel_rfl
theorem m20 : GL.fnMt Tryz.prog fid eqs Tryz.f20 GL.g715 = true := by kernel_rfl
theorem m21 : GL.fnMt Tryz.prog fid eqs Tryz.f21 GL.g714 = true := by kernel_rfl
theorem m22 : GL.fnMt Tryz.prog fid eqs Tryz.f22 GL.g723 = true := by kernel_rfl
theorem m30 : GL.fnMt Tryz.prog fid eqs Tryz.f30 GL.g498 = true := by kernel_rfl
theorem m36 : GL.fnMt Tryz.prog fid eqs Tryz.f36 GL.g776 = true := by kernel_rfl
theorem m37 : GL.fnMt Tryz.prog fid eqs Tryz.f37 GL.g542 = true := by kernel_rfl
theorem m38 : GL.fnMt Tryz.prog fid eqs Tryz.f38 GL.g429 = true := by kernel_rfl
theorem m39 : GL.fnMt Tryz.prog fid eqs Tryz.f39 GL.g557 = true := by kernel_rfl
theorem m40 : GL.fnMt Tryz.prog fid eqs Tryz.f40 GL.g773 = true := by kernel_rfl
theorem m41 : GL.fnMt Tryz.prog fid eqs Tryz.f41 GL.g457 = true := by kernel_rfl
theorem m42 : GL.fnMt Tryz.prog fid eqs Tryz.f42 GL.g540 = true := by kernel_rfl
theorem m43 : GL.fnMt Tryz.prog fid eqs Tryz.f43 GL.g573 = true := by kernel_rfl
theorem m44 : GL.fnMt Tryz.prog fid eqs Tryz.f44 GL.g774 = true := by kernel_rfl
theorem m45 : GL.fnMt Tryz.prog fid eqs Tryz.f45 GL.g772 = true := by kernel_rfl
theorem m46 : GL.fnMt Tryz.prog fid eqs Tryz.f46 GL.g771 = true := by kernel_rfl
theorem m47 : GL.fnMt Tryz.prog fid eqs Tryz.f47 GL.g462 = true := by kernel_rfl
theorem m48 : GL.fnMt Tryz.prog fid eqs Tryz.f48 GL.g463 = true := by kernel_rfl
theorem m49 : GL.fnMt Tryz.prog fid eqs Tryz.f49 GL.g541 = true := by kernel_rfl
theorem m50 : GL.fnMt Tryz.prog fid eqs Tryz.f50 GL.g721 = true := by kernel_rfl
theorem m51 : GL.fnMt Tryz.prog fid eqs Tryz.f51 GL.g775 = true := by kernel_rfl
theorem m52 : GL.fnMt Tryz.prog fid eqs Tryz.f52 GL.g567 = true := by kernel_rfl
theorem m53 : GL.fnMt Tryz.prog fid eqs Tryz.f53 GL.g92 = true := by kernel_rfl
theorem m54 : GL.fnMt Tryz.prog fid eqs Tryz.f54 GL.g539 = true := by kernel_rfl
theorem m55 : GL.fnMt Tryz.prog fid eqs Tryz.f55 GL.g725 = true := by kernel_rfl
theorem m56 : GL.fnMt Tryz.prog fid eqs Tryz.f56 GL.g91 = true := by kernel_rfl
theorem m57 : GL.fnMt Tryz.prog fid eqs Tryz.f57 GL.g770 = true := by kernel_rfl
theorem m64 : GL.fnMt Tryz.prog fid eqs Tryz.f64 GL.g552 = true := by kernel_rfl
theorem m68 : GL.fnMt Tryz.prog fid eqs Tryz.f68 GL.g554 = true := by kernel_rfl
theorem m72 : GL.fnMt Tryz.prog fid eqs Tryz.f72 GL.g500 = true := by kernel_rfl
theorem m76 : GL.fnMt Tryz.prog fid eqs Tryz.f76 GL.g98 = true := by kernel_rfl
theorem m77 : GL.fnMt Tryz.prog fid eqs Tryz.f77 GL.g389 = true := by kernel_rfl
theorem m78 : GL.fnMt Tryz.prog fid eqs Tryz.f78 GL.g436 = true := by kernel_rfl
theorem m79 : GL.fnMt Tryz.prog fid eqs Tryz.f79 GL.g560 = true := by kernel_rfl
theorem m80 : GL.fnMt Tryz.prog fid eqs Tryz.f80 GL.g395 = true := by kernel_rfl
theorem m81 : GL.fnMt Tryz.prog fid eqs Tryz.f81 GL.g574 = true := by kernel_rfl
theorem m82 : GL.fnMt Tryz.prog fid eqs Tryz.f82 GL.g545 = true := by kernel_rfl
theorem m83 : GL.fnMt Tryz.prog fid eqs Tryz.f83 GL.g575 = true := by kernel_rfl
theorem m84 : GL.fnMt Tryz.prog fid eqs Tryz.f84 GL.g386 = true := by kernel_rfl
theorem m85 : GL.fnMt Tryz.prog fid eqs Tryz.f85 GL.g558 = true := by kernel_rfl
theorem m86 : GL.fnMt Tryz.prog fid eqs Tryz.f86 GL.g356 = true := by kernel_rfl
theorem m87 : GL.fnMt Tryz.prog fid eqs Tryz.f87 GL.g588 = true := by kernel_rfl
theorem m88 : GL.fnMt Tryz.prog fid eqs Tryz.f88 GL.g464 = true := by kernel_rfl
theorem m89 : GL.fnMt Tryz.prog fid eqs Tryz.f89 GL.g525 = true := by kernel_rfl
theorem m90 : GL.fnMt Tryz.prog fid eqs Tryz.f90 GL.g526 = true := by kernel_rfl
theorem m91 : GL.fnMt Tryz.prog fid eqs Tryz.f91 GL.g465 = true := by kernel_rfl
theorem m92 : GL.fnMt Tryz.prog fid eqs Tryz.f92 GL.g522 = true := by kernel_rfl
theorem m93 : GL.fnMt Tryz.prog fid eqs Tryz.f93 GL.g527 = true := by kernel_rfl
theorem m94 : GL.fnMt Tryz.prog fid eqs Tryz.f94 GL.g385 = true := by kernel_rfl
theorem m97 : GL.fnMt Tryz.prog fid eqs Tryz.f97 GL.g107 = true := by kernel_rfl
theorem m98 : GL.fnMt Tryz.prog fid eqs Tryz.f98 GL.g604 = true := by kernel_rfl
theorem m99 : GL.fnMt Tryz.prog fid eqs Tryz.f99 GL.g528 = true := by kernel_rfl
theorem m100 : GL.fnMt Tryz.prog fid eqs Tryz.f100 GL.g529 = true := by kernel_rfl
theorem m101 : GL.fnMt Tryz.prog fid eqs Tryz.f101 GL.g302 = true := by kernel_rfl
theorem m102 : GL.fnMt Tryz.prog fid eqs Tryz.f102 GL.g140 = true := by kernel_rfl
theorem m103 : GL.fnMt Tryz.prog fid eqs Tryz.f103 GL.g93 = true := by kernel_rfl
theorem m104 : GL.fnMt Tryz.prog fid eqs Tryz.f104 GL.g550 = true := by kernel_rfl
theorem m105 : GL.fnMt Tryz.prog fid eqs Tryz.f105 GL.g304 = true := by kernel_rfl
theorem m107 : GL.fnMt Tryz.prog fid eqs Tryz.f107 GL.g412 = true := by kernel_rfl
theorem m108 : GL.fnMt Tryz.prog fid eqs Tryz.f108 GL.g572 = true := by kernel_rfl
theorem m109 : GL.fnMt Tryz.prog fid eqs Tryz.f109 GL.g301 = true := by kernel_rfl
theorem m111 : GL.fnMt Tryz.prog fid eqs Tryz.f111 GL.g94 = true := by kernel_rfl
theorem m112 : GL.fnMt Tryz.prog fid eqs Tryz.f112 GL.g410 = true := by kernel_rfl
theorem m113 : GL.fnMt Tryz.prog fid eqs Tryz.f113 GL.g335 = true := by kernel_rfl
theorem m114 : GL.fnMt Tryz.prog fid eqs Tryz.f114 GL.g559 = true := by kernel_rfl
theorem m115 : GL.fnMt Tryz.prog fid eqs Tryz.f115 GL.g562 = true := by kernel_rfl
theorem m116 : GL.fnMt Tryz.prog fid eqs Tryz.f116 GL.g397 = true := by kernel_rfl
theorem m117 : GL.fnMt Tryz.prog fid eqs Tryz.f117 GL.g576 = true := by kernel_rfl
theorem m119 : GL.fnMt Tryz.prog fid eqs Tryz.f119 GL.g547 = true := by kernel_rfl
theorem m120 : GL.fnMt Tryz.prog fid eqs Tryz.f120 GL.g555 = true := by kernel_rfl
theorem m121 : GL.fnMt Tryz.prog fid eqs Tryz.f121 GL.g318 = true := by kernel_rfl
theorem m122 : GL.fnMt Tryz.prog fid eqs Tryz.f122 GL.g530 = true := by kernel_rfl
theorem m123 : GL.fnMt Tryz.prog fid eqs Tryz.f123 GL.g531 = true := by kernel_rfl
theorem m124 : GL.fnMt Tryz.prog fid eqs Tryz.f124 GL.g538 = true := by kernel_rfl
theorem m125 : GL.fnMt Tryz.prog fid eqs Tryz.f125 GL.g532 = true := by kernel_rfl
theorem m126 : GL.fnMt Tryz.prog fid eqs Tryz.f126 GL.g314 = true := by kernel_rfl
theorem m127 : GL.fnMt Tryz.prog fid eqs Tryz.f127 GL.g322 = true := by kernel_rfl
theorem m128 : GL.fnMt Tryz.prog fid eqs Tryz.f128 GL.g519 = true := by kernel_rfl
theorem m129 : GL.fnMt Tryz.prog fid eqs Tryz.f129 GL.g321 = true := by kernel_rfl
theorem m130 : GL.fnMt Tryz.prog fid eqs Tryz.f130 GL.g533 = true := by kernel_rfl
theorem m131 : GL.fnMt Tryz.prog fid eqs Tryz.f131 GL.g337 = true := by kernel_rfl
theorem m132 : GL.fnMt Tryz.prog fid eqs Tryz.f132 GL.g333 = true := by kernel_rfl
theorem m133 : GL.fnMt Tryz.prog fid eqs Tryz.f133 GL.g516 = true := by kernel_rfl
theorem m136 : GL.fnMt Tryz.prog fid eqs Tryz.f136 GL.g553 = true := by kernel_rfl
theorem m137 : GL.fnMt Tryz.prog fid eqs Tryz.f137 GL.g568 = true := by kernel_rfl
theorem m138 : GL.fnMt Tryz.prog fid eqs Tryz.f138 GL.g391 = true := by kernel_rfl
theorem m139 : GL.fnMt Tryz.prog fid eqs Tryz.f139 GL.g430 = true := by kernel_rfl
theorem m140 : GL.fnMt Tryz.prog fid eqs Tryz.f140 GL.g390 = true := by kernel_rfl
theorem m144 : GL.fnMt Tryz.prog fid eqs Tryz.f144 GL.g551 = true := by kernel_rfl
theorem m145 : GL.fnMt Tryz.prog fid eqs Tryz.f145 GL.g569 = true := by kernel_rfl
theorem m146 : GL.fnMt Tryz.prog fid eqs Tryz.f146 GL.g535 = true := by kernel_rfl
theorem m147 : GL.fnMt Tryz.prog fid eqs Tryz.f147 GL.g537 = true := by kernel_rfl
theorem m149 : GL.fnMt Tryz.prog fid eqs Tryz.f149 GL.g428 = true := by kernel_rfl
theorem m150 : GL.fnMt Tryz.prog fid eqs Tryz.f150 GL.g336 = true := by kernel_rfl
theorem m151 : GL.fnMt Tryz.prog fid eqs Tryz.f151 GL.g549 = true := by kernel_rfl
theorem m163 : GL.fnMt Tryz.prog fid eqs Tryz.f163 GL.g435 = true := by kernel_rfl
theorem m164 : GL.fnMt Tryz.prog fid eqs Tryz.f164 GL.g396 = true := by kernel_rfl
theorem m165 : GL.fnMt Tryz.prog fid eqs Tryz.f165 GL.g571 = true := by kernel_rfl
theorem valF : GL.CallOK Tryz.prog fid fun g args h => if g = 406 then GL.valuesE args h else none := GL.valuesE_ok ⟨_, Tryz.func96, by kernel_rfl, by kernel_rfl⟩ (fun a len cap w => Tryz.valuesC a len cap w)
theorem srtF : GL.CallOK Tryz.prog fid fun g args h => if g = 407 then GL.sortedE args h else none := GL.sortedE_ok ⟨_, Tryz.func95, by kernel_rfl, by kernel_rfl⟩ (fun Bs Bo sv zs w hl hBs hc hI => Tryz.sortedVals Bs Bo sv zs (by unfold maxLen; omega) (by omega) w hBs hc hI)
theorem sorF : GL.CallOK Tryz.prog fid fun g args h => if g = 340 then GL.sortE args h else none := GL.sortE_ok ⟨_, Tryz.func118, by kernel_rfl, by kernel_rfl⟩ (fun blk off cap ss W hH hb hs => Go.Proofs.AnyM.slices_Sort_int Tryz.sortA blk off cap ss W hH hb hs) (fun p cap W => Go.Proofs.AnyM.slices_Sort_int_none Tryz.sortA p cap W)
theorem extOK : ∀ f e, GL.p.ext f = some e → GL.CallOK Tryz.prog fid fun g args h => if g = f then e args h else none := fun f e h => by
  have h : (bif Nat.beq f 407 then some GL.sortedE else bif Nat.beq f 406 then some GL.valuesE else bif Nat.beq f 340 then some GL.sortE else none) = some e := h
  rcases GL.bif_some h with ⟨rfl, h⟩ | ⟨_, h⟩
  · cases h; exact srtF
  rcases GL.bif_some h with ⟨rfl, h⟩ | ⟨_, h⟩
  · cases h; exact valF
  rcases GL.bif_some h with ⟨rfl, h⟩ | ⟨_, h⟩
  · cases h; exact sorF
  cases h
theorem allOK : GL.AllOK Tryz.prog fid eqs GL.fnL :=
  .cons Tryz.func3 rfl m3 (
  .cons Tryz.func5 rfl m5 (
  .cons Tryz.func6 rfl m6 (
  .cons Tryz.func7 rfl m7 (
  .cons Tryz.func8 rfl m8 (
  .cons Tryz.func9 rfl m9 (
  .cons Tryz.func10 rfl m10 (
  .cons Tryz.func11 rfl m11 (
  .cons Tryz.func12 rfl m12 (
  .cons Tryz.func13 rfl m13 (
  .cons Tryz.func14 rfl m14 (
  .cons Tryz.func15 rfl m15 (
  .cons Tryz.func16 rfl m16 (
  .cons Tryz.func17 rfl m17 (
  .cons Tryz.func18 rfl m18 (
  .cons Tryz.func19 rfl m19 (
  .cons Tryz.func20 rfl m20 (
  .cons Tryz.func21 rfl m21 (
  .cons Tryz.func22 rfl m22 (
  .cons Tryz.func30 rfl m30 (
  .cons Tryz.func36 rfl m36 (
  .cons Tryz.func37 rfl m37 (
  .cons Tryz.func38 rfl m38 (
  .cons Tryz.func39 rfl m39 (
  .cons Tryz.func40 rfl m40 (
  .cons Tryz.func41 rfl m41 (
  .cons Tryz.func42 rfl m42 (
  .cons Tryz.func43 rfl m43 (
  .cons Tryz.func44 rfl m44 (
  .cons Tryz.func45 rfl m45 (
  .cons Tryz.func46 rfl m46 (
  .cons Tryz.func47 rfl m47 (
  .cons Tryz.func48 rfl m48 (
  .cons Tryz.func49 rfl m49 (
  .cons Tryz.func50 rfl m50 (
  .cons Tryz.func51 rfl m51 (
  .cons Tryz.func52 rfl m52 (
  .cons Tryz.func53 rfl m53 (
  .cons Tryz.func54 rfl m54 (
  .cons Tryz.func55 rfl m55 (
  .cons Tryz.func56 rfl m56 (
  .cons Tryz.func57 rfl m57 (
  .cons Tryz.func64 rfl m64 (
  .cons Tryz.func68 rfl m68 (
  .cons Tryz.func72 rfl m72 (
  .cons Tryz.func76 rfl m76 (
  .cons Tryz.func77 rfl m77 (
  .cons Tryz.func78 rfl m78 (
  .cons Tryz.func79 rfl m79 (
  .cons Tryz.func80 rfl m80 (
  .cons Tryz.func81 rfl m81 (
  .cons Tryz.func82 rfl m82 (
  .cons Tryz.func83 rfl m83 (
  .cons Tryz.func84 rfl m84 (
  .cons Tryz.func85 rfl m85 (
  .cons Tryz.func86 rfl m86 (
  .cons Tryz.func87 rfl m87 (
  .cons Tryz.func88 rfl m88 (
  .cons Tryz.func89 rfl m89 (
  .cons Tryz.func90 rfl m90 (
  .cons Tryz.func91 rfl m91 (
  .cons Tryz.func92 rfl m92 (
  .cons Tryz.func93 rfl m93 (
  .cons Tryz.func94 rfl m94 (
  .cons Tryz.func97 rfl m97 (
  .cons Tryz.func98 rfl m98 (
  .cons Tryz.func99 rfl m99 (
  .cons Tryz.func100 rfl m100 (
  .cons Tryz.func101 rfl m101 (
  .cons Tryz.func102 rfl m102 (
  .cons Tryz.func103 rfl m103 (
  .cons Tryz.func104 rfl m104 (
  .cons Tryz.func105 rfl m105 (
  .cons Tryz.func107 rfl m107 (
  .cons Tryz.func108 rfl m108 (
  .cons Tryz.func109 rfl m109 (
  .cons Tryz.func111 rfl m111 (
  .cons Tryz.func112 rfl m112 (
  .cons Tryz.func113 rfl m113 (
  .cons Tryz.func114 rfl m114 (
  .cons Tryz.func115 rfl m115 (
  .cons Tryz.func116 rfl m116 (
  .cons Tryz.func117 rfl m117 (
  .cons Tryz.func119 rfl m119 (
  .cons Tryz.func120 rfl m120 (
  .cons Tryz.func121 rfl m121 (
  .cons Tryz.func122 rfl m122 (
  .cons Tryz.func123 rfl m123 (
  .cons Tryz.func124 rfl m124 (
  .cons Tryz.func125 rfl m125 (
  .cons Tryz.func126 rfl m126 (
  .cons Tryz.func127 rfl m127 (
  .cons Tryz.func128 rfl m128 (
  .cons Tryz.func129 rfl m129 (
  .cons Tryz.func130 rfl m130 (
  .cons Tryz.func131 rfl m131 (
  .cons Tryz.func132 rfl m132 (
  .cons Tryz.func133 rfl m133 (
  .cons Tryz.func136 rfl m136 (
  .cons Tryz.func137 rfl m137 (
  .cons Tryz.func138 rfl m138 (
  .cons Tryz.func139 rfl m139 (
  .cons Tryz.func140 rfl m140 (
  .cons Tryz.func144 rfl m144 (
  .cons Tryz.func145 rfl m145 (
  .cons Tryz.func146 rfl m146 (
  .cons Tryz.func147 rfl m147 (
  .cons Tryz.func149 rfl m149 (
  .cons Tryz.func150 rfl m150 (
  .cons Tryz.func151 rfl m151 (
  .cons Tryz.func163 rfl m163 (
  .cons Tryz.func164 rfl m164 (
  .cons Tryz.func165 rfl m165 (.nil)))))))))))))))))))))))))))))))))))))))))))))))))))))))))))))))))))))))))))))))))))))))))))))))))))))))))))))))))
theorem progOK : GL.ProgOK Tryz.prog fid eqs GL.p :=
  ⟨by kernel_rfl, (GL.eqs_sound (by kernel_rfl)), allOK.fn, extOK⟩
theorem walk (a0 : Option Addr) (len0 cap0 : Nat) (z0 : List Int) (a1 : Option Addr) (len1 cap1 : Nat) (z1 : List Int) (w : World) (w0 : IsRow .u8 w a0 len0 cap0 z0) (w1 : IsRow .u8 w a1 len1 cap1 z1) :
    Calls Tryz.prog 3 #[.slice a0 len0 cap0, .slice a1 len1 cap1] w fun e w' => e = .returned (.bool true) ∧ Below w.heap.size w w' :=
  GL.calls2 progOK (f := 730) (fun _ _ _ _ _ ha hb => GL.FnHouse_ok ha hb) w0 w1

/-! ### THE ROW's STEP: WRITTEN OUT: LEAVE IT -/
set_option maxRecDepth 100000 in
theorem lifted (os : Os) (started : os.Started) (H : Type) (enc : TypeId × Value → H) :
    ReturnsInHanded {} Tryz.checked os 3 .any (Rows.fnHouseSpec.pre6 enc Tryz.prog Tryz.f3 Rows.fnHouseRow.domain false) (Rows.fnHouseSpec.post enc Tryz.prog Tryz.f3 false true false false) := by
  refine returnsInHanded_of_change (C := Tryz.checked) own started (by kernel_rfl) Tryz.func3
    (ChangeSpec.witness6 (enc := enc) (C := Tryz.checked) false ⟨#[], #[.slice none 0 0, .slice none 0 0], []⟩ 8 (by kernel_rfl) (by kernel_rfl) (by kernel_rfl) (by kernel_rfl)) ?_
  intro W base args ds gs before hval0 hW hcnd _
  have hval : ∀ (j : Nat) t v, Tryz.f3.params[j]? = some t → args[j]? = some v → Value.okWide Tryz.prog W .any base t v := hval0
  have hW' := hW
  obtain ⟨p, q, hA0, hV, rfl, hfz, hnd⟩ := hW
  have hA : DataW.TrodAll enc Tryz.prog W 0 (fun _ => true) true Tryz.f3.params.toList args.toList ds p := hA0
  rw [Tryz.params3] at hA hval
  obtain ⟨v0, vs0, d0, ds0, p0, q0, hargs, rfl, rfl, h0, r0⟩ := trodAll_cons hA
  obtain ⟨v1, vs1, d1, ds1, p1, q1, rfl, rfl, rfl, h1, r1⟩ := trodAll_cons r0
  obtain ⟨rfl, rfl, rfl⟩ := trodAll_nil r1
  obtain rfl : args = #[v0, v1] := by cases args; simp_all
  obtain ⟨rfl, rfl⟩ := trodVars_none hV
  obtain ⟨a0, len0, cap0, rfl⟩ := okWide_slice Tryz.underlying22 (hval 0 22 v0 rfl rfl)
  have k0 := h0
  have lt0 : ∀ x ∈ p0, x.block < W.heap.size := by obtain ⟨m, hm⟩ := k0; exact DataW.trod_lt m _ _ _ hm
  obtain ⟨z0, w0⟩ : ∃ zs, IsRow .u8 W a0 len0 cap0 zs := by
    obtain ⟨fuel, hf⟩ := h0
    rcases open_ints Tryz.underlying22 Tryz.underlying5 (by kernel_rfl) hf with ⟨hcs, _⟩ | ⟨x, l, c, zs, hcs, _, hl, hm, hz, _, hcell, hwz⟩
    · simp [Value.cells] at hcs
      obtain ⟨rfl, rfl, rfl⟩ := hcs
      exact ⟨[], .inl ⟨rfl, rfl, rfl, rfl⟩⟩
    · simp [Value.cells] at hcs
      obtain ⟨rfl, rfl, rfl⟩ := hcs
      exact ⟨zs, .inr ⟨_, rfl, hl, hm, by simpa using hz, hcell, hwz⟩⟩
  obtain ⟨a1, len1, cap1, rfl⟩ := okWide_slice Tryz.underlying22 (hval 1 22 v1 rfl rfl)
  have k1 := h1
  have lt1 : ∀ x ∈ p1, x.block < W.heap.size := by obtain ⟨m, hm⟩ := k1; exact DataW.trod_lt m _ _ _ hm
  obtain ⟨z1, w1⟩ : ∃ zs, IsRow .u8 W a1 len1 cap1 zs := by
    obtain ⟨fuel, hf⟩ := h1
    rcases open_ints Tryz.underlying22 Tryz.underlying5 (by kernel_rfl) hf with ⟨hcs, _⟩ | ⟨x, l, c, zs, hcs, _, hl, hm, hz, _, hcell, hwz⟩
    · simp [Value.cells] at hcs
      obtain ⟨rfl, rfl, rfl⟩ := hcs
      exact ⟨[], .inl ⟨rfl, rfl, rfl, rfl⟩⟩
    · simp [Value.cells] at hcs
      obtain ⟨rfl, rfl, rfl⟩ := hcs
      exact ⟨zs, .inr ⟨_, rfl, hl, hm, by simpa using hz, hcell, hwz⟩⟩
  clear hA0 hval0
  refine (walk a0 len0 cap0 z0 a1 len1 cap1 z1 W w0 w1).mono fun e W' ⟨he, bel⟩ => ?_
  subst he
  exact ⟨_, rfl, _, _, _, [], _, [], hW', trodAll_mk1 (shut_bool Tryz.underlying4 _), (trodAll_cons_mk (Below.trod laidOut (by kernel_rfl) (of_decide_eq_true (by kernel_rfl)) k0 bel lt0) (trodAll_cons_mk (Below.trod laidOut (by kernel_rfl) (of_decide_eq_true (by kernel_rfl)) k1 bel lt1) trodAll_mk0)), rfl, bel.frame _, fun h => by cases h⟩

theorem over : Rows.fnHouseRow.holds Tryz.pinned (OpenSpec.ofChange Rows.fnHouseSpec) :=
  OpenClaim.holds_of_wide 3 Tryz.f3 rfl rfl rfl rfl rfl rfl rfl ⟨rfl, rfl, rfl, rfl, rfl⟩ rfl rfl rfl rfl rfl (by kernel_rfl) Tryz.func3 (by kernel_rfl)
    (of_decide_eq_true (by kernel_rfl)) (by unfold Func.isWrapper; first | (rw [if_pos (by decide +kernel)]; kernel_rfl) | (rw [if_neg (by decide +kernel)]; exact ⟨rfl, rfl⟩))
    (fun os started H enc _ => lifted os started H enc)

/-- ████ THE STATEMENT ████ -/
theorem proved : Rows.FnHouseSaid := over
#print axioms proved
end Go.Proofs.YtmgbbehacaldlaaGreat.fnHouse
