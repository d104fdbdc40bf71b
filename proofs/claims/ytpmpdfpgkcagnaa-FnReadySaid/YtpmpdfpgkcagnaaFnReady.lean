import Derived.Test.YtpmpdfpgkcagnaaRows
import Derived.WalkKit
import Derived.ProofKit
import Derived.OpenShut
import Derived.ShutString
import Derived.ChangeOld
import Derived.Below
import Derived.Test.YtpmpdfpgkcagnaaLn
import Derived.Test.YtpmpdfpgkcagnaaLw
import Derived.Test.YtpmpdfpgkcagnaaGuFnReady
/- The law 'FnReady' holds: its row, from the machine's run. -/
set_option linter.unusedSimpArgs false
set_option linter.unusedVariables false
set_option linter.unnecessarySimpa false
namespace Go.Proofs.Ytpmpdfpgkcagnaa.fnReady
open Go.ChangeShapes Go.WideShapes Go.ChangeAt Go.RowKit
open Go.ChangeMaps (open_string shut_string)
set_option linter.unusedVariables false

theorem own : ownKnob Try.prog.godebug = none := by kernel_rfl
theorem laidOut : laidOutB Try.prog = true := by kernel_rfl

/-- WHAT THE WALK IS TOLD OF A SLICE OF INTEGERS THAT CAME IN: it is nil; or it leads to a row of 'cap' cells, the numbers 'zs' (the first 'len' are its elements, the rest its spare room), each fitting its kind. -/
def IsRow (k : IntKind) (w : World) (a : Option Addr) (len cap : Nat) (zs : List Int) : Prop :=
  (a = none ∧ len = 0 ∧ cap = 0 ∧ zs = []) ∨
  ∃ x, a = some x ∧ len ≤ cap ∧ cap ≤ maxLen ∧ zs.length = cap ∧ (∀ i, i < zs.length → w.cell? (x.add i) = some (.int k (zs.getD i 0))) ∧ ∀ n ∈ zs, (Lit.int k n).wf = true

def fidL : List (Nat × Nat) := [(485, 12), (24, 30), (204, 31), (486, 63), (487, 64), (488, 65), (489, 66), (490, 67), (491, 68), (492, 69), (493, 70), (500, 76), (98, 92), (107, 96), (91, 112), (92, 114), (335, 119), (541, 121), (302, 125), (385, 127), (301, 129), (539, 132), (543, 135), (544, 136), (428, 137), (545, 138), (546, 139), (337, 140), (548, 141), (547, 142), (549, 143), (550, 144), (551, 145), (552, 146), (553, 147), (554, 148), (555, 149), (557, 151), (558, 152), (429, 153), (559, 154), (560, 155), (562, 157), (304, 158), (336, 160), (410, 161), (340, 164), (140, 173), (395, 176), (407, 177), (406, 178), (390, 179), (389, 180), (570, 181), (312, 182), (397, 183), (435, 184), (571, 185), (572, 186), (573, 187), (574, 188), (575, 189), (436, 190), (576, 191), (391, 192), (396, 193), (398, 194), (157, 195), (427, 198), (416, 199), (417, 200), (418, 201), (419, 202), (420, 203), (421, 204), (422, 205), (423, 206), (424, 207), (170, 208), (171, 209), (431, 211), (174, 212), (175, 213), (432, 214), (433, 215), (160, 216), (437, 217)]
def fid : Nat → FuncId := fun i => (fidL.lookup i).getD 0
def eqs : List (TypeId × List (Option IntKind)) := []
theorem m12 : GL.fnMt Try.prog fid eqs Try.f12 GL.g485 = true := by kernel_rfl
theorem m30 : GL.fnMt Try.prog fid eqs Try.f30 GL.g24 = true := by kernel_rfl
theorem m31 : GL.fnMt Try.prog fid eqs Try.f31 GL.g204 = true := by kernel_rfl
theorem m63 : GL.fnMt Try.prog fid eqs Try.f63 GL.g486 = true := by kernel_rfl
theorem m64 : GL.fnMt Try.prog fid eqs Try.f64 GL.g487 = true := by kernel_rfl
theorem m65 : GL.fnMt Try.prog fid eqs Try.f65 GL.g488 = true := by kernel_rfl
theorem m66 : GL.fnMt Try.prog fid eqs Try.f66 GL.g489 = true := by kernel_rfl
theorem m67 : GL.fnMt Try.prog fid eqs Try.f67 GL.g490 = true := by kernel_rfl
theorem m68 : GL.fnMt Try.prog fid eqs Try.f68 GL.g491 = true := by kernel_rfl
theorem m69 : GL.fnMt Try.prog fid eqs Try.f69 GL.g492 = true := by kernel_rfl
theorem m70 : GL.fnMt Try.prog fid eqs Try.f70 GL.g493 = true := by kernel_rfl
theorem m76 : GL.fnMt Try.prog fid eqs Try.f76 GL.g500 = true := by kernel_rfl
theorem m92 : GL.fnMt Try.prog fid eqs Try.f92 GL.g98 = true := by kernel_rfl
theorem m96 : GL.fnMt Try.prog fid eqs Try.f96 GL.g107 = true := by kernel_rfl
theorem m112 : GL.fnMt Try.prog fid eqs Try.f112 GL.g91 = true := by kernel_rfl
theorem m114 : GL.fnMt Try.prog fid eqs Try.f114 GL.g92 = true := by kernel_rfl
theorem m119 : GL.fnMt Try.prog fid eqs Try.f119 GL.g335 = true := by kernel_rfl
theorem m121 : GL.fnMt Try.prog fid eqs Try.f121 GL.g541 = true := by kernel_rfl
theorem m125 : GL.fnMt Try.prog fid eqs Try.f125 GL.g302 = true := by kernel_rfl
theorem m127 : GL.fnMt Try.prog fid eqs Try.f127 GL.g385 = true := by kernel_rfl
theorem m129 : GL.fnMt Try.prog fid eqs Try.f129 GL.g301 = true := by kernel_rfl
theorem m132 : GL.fnMt Try.prog fid eqs Try.f132 GL.g539 = true := by kernel_rfl
theorem m135 : GL.fnMt Try.prog fid eqs Try.f135 GL.g543 = true := by kernel_rfl
theorem m136 : GL.fnMt Try.prog fid eqs Try.f136 GL.g544 = true := by kernel_rfl
theorem m137 : GL.fnMt Try.prog fid eqs Try.f137 GL.g428 = true := by kernel_rfl
theorem m138 : GL.fnMt Try.prog fid eqs Try.f138 GL.g545 = true := by kernel_rfl
theorem m139 : GL.fnMt Try.prog fid eqs Try.f139 GL.g546 = true := by kernel_rfl
theorem m140 : GL.fnMt Try.prog fid eqs Try.f140 GL.g337 = true := by kernel_rfl
theorem m141 : GL.fnMt Try.prog fid eqs Try.f141 GL.g548 = true := by kernel_rfl
theorem m142 : GL.fnMt Try.prog fid eqs Try.f142 GL.g547 = true := by kernel_rfl
theorem m143 : GL.fnMt Try.prog fid eqs Try.f143 GL.g549 = true := by kernel_rfl
theorem m144 : GL.fnMt Try.prog fid eqs Try.f144 GL.g550 = true := by kernel_rfl
theorem m145 : GL.fnMt Try.prog fid eqs Try.f145 GL.g551 = true := by kernel_rfl
theorem m146 : GL.fnMt Try.prog fid eqs Try.f146 GL.g552 = true := by kernel_rfl
theorem m147 : GL.fnMt Try.prog fid eqs Try.f147 GL.g553 = true := by kernel_rfl
theorem m148 : GL.fnMt Try.prog fid eqs Try.f148 GL.g554 = true := by kernel_rfl
theorem m149 : GL.fnMt Try.prog fid eqs Try.f149 GL.g555 = true := by kernel_rfl
theorem m151 : GL.fnMt Try.prog fid eqs Try.f151 GL.g557 = true := by kernel_rfl
theorem m152 : GL.fnMt Try.prog fid eqs Try.f152 GL.g558 = true := by kernel_rfl
theorem m153 : GL.fnMt Try.prog fid eqs Try.f153 GL.g429 = true := by kernel_rfl
theorem m154 : GL.fnMt Try.prog fid eqs Try.f154 GL.g559 = true := by kernel_rfl
theorem m155 : GL.fnMt Try.prog fid eqs Try.f155 GL.g560 = true := by kernel_rfl
theorem m157 : GL.fnMt Try.prog fid eqs Try.f157 GL.g562 = true := by kernel_rfl
theorem m158 : GL.fnMt Try.prog fid eqs Try.f158 GL.g304 = true := by kernel_rfl
theorem m160 : GL.fnMt Try.prog fid eqs Try.f160 GL.g336 = true := by kernel_rfl
theorem m161 : GL.fnMt Try.prog fid eqs Try.f161 GL.g410 = true := by kernel_rfl
theorem m164 : GL.fnMt Try.prog fid eqs Try.f164 GL.g340 = true := by kernel_rfl
theorem m173 : GL.fnMt Try.prog fid eqs Try.f173 GL.g140 = true := by kernel_rfl
theorem m176 : GL.fnMt Try.prog fid eqs Try.f176 GL.g395 = true := by kernel_rfl
theorem m179 : GL.fnMt Try.prog fid eqs Try.f179 GL.g390 = true := by kernel_rfl
theorem m180 : GL.fnMt Try.prog fid eqs Try.f180 GL.g389 = true := by kernel_rfl
theorem m181 : GL.fnMt Try.prog fid eqs Try.f181 GL.g570 = true := by kernel_rfl
theorem m182 : GL.fnMt Try.prog fid eqs Try.f182 GL.g312 = true := by kernel_rfl
theorem m183 : GL.fnMt Try.prog fid eqs Try.f183 GL.g397 = true := by kernel_rfl
theorem m184 : GL.fnMt Try.prog fid eqs Try.f184 GL.g435 = true := by kernel_rfl
theorem m185 : GL.fnMt Try.prog fid eqs Try.f185 GL.g571 = true := by kernel_rfl
theorem m186 : GL.fnMt Try.prog fid eqs Try.f186 GL.g572 = true := by kernel_rfl
theorem m187 : GL.fnMt Try.prog fid eqs Try.f187 GL.g573 = true := by kernel_rfl
theorem m188 : GL.fnMt Try.prog fid eqs Try.f188 GL.g574 = true := by kernel_rfl
theorem m189 : GL.fnMt Try.prog fid eqs Try.f189 GL.g575 = true := by kernel_rfl
theorem m190 : GL.fnMt Try.prog fid eqs Try.f190 GL.g436 = true := by kernel_rfl
theorem m191 : GL.fnMt Try.prog fid eqs Try.f191 GL.g576 = true := by kernel_rfl
theorem m192 : GL.fnMt Try.prog fid eqs Try.f192 GL.g391 = true := by kernel_rfl
theorem m193 : GL.fnMt Try.prog fid eqs Try.f193 GL.g396 = true := by kernel_rfl
theorem m194 : GL.fnMt Try.prog fid eqs Try.f194 GL.g398 = true := by kernel_rfl
theorem m195 : GL.fnMt Try.prog fid eqs Try.f195 GL.g157 = true := by kernel_rfl
theorem m199 : GL.fnMt Try.prog fid eqs Try.f199 GL.g416 = true := by kernel_rfl
theorem m200 : GL.fnMt Try.prog fid eqs Try.f200 GL.g417 = true := by kernel_rfl
theorem m201 : GL.fnMt Try.prog fid eqs Try.f201 GL.g418 = true := by kernel_rfl
theorem m202 : GL.fnMt Try.prog fid eqs Try.f202 GL.g419 = true := by kernel_rfl
theorem m203 : GL.fnMt Try.prog fid eqs Try.f203 GL.g420 = true := by kernel_rfl
theorem m204 : GL.fnMt Try.prog fid eqs Try.f204 GL.g421 = true := by kernel_rfl
theorem m205 : GL.fnMt Try.prog fid eqs Try.f205 GL.g422 = true := by kernel_rfl
theorem m206 : GL.fnMt Try.prog fid eqs Try.f206 GL.g423 = true := by kernel_rfl
theorem m207 : GL.fnMt Try.prog fid eqs Try.f207 GL.g424 = true := by kernel_rfl
theorem m208 : GL.fnMt Try.prog fid eqs Try.f208 GL.g170 = true := by kernel_rfl
theorem m211 : GL.fnMt Try.prog fid eqs Try.f211 GL.g431 = true := by kernel_rfl
theorem m212 : GL.fnMt Try.prog fid eqs Try.f212 GL.g174 = true := by kernel_rfl
theorem m213 : GL.fnMt Try.prog fid eqs Try.f213 GL.g175 = true := by kernel_rfl
theorem m214 : GL.fnMt Try.prog fid eqs Try.f214 GL.g432 = true := by kernel_rfl
theorem m215 : GL.fnMt Try.prog fid eqs Try.f215 GL.g433 = true := by kernel_rfl
theorem m216 : GL.fnMt Try.prog fid eqs Try.f216 GL.g160 = true := by kernel_rfl
theorem m217 : GL.fnMt Try.prog fid eqs Try.f217 GL.g437 = true := by kernel_rfl
theorem lenF : GL.CallOK Try.prog fid fun g args h => if g = 171 then GL.lenE args h else none := GL.lenE_ok ⟨_, Try.func209, by kernel_rfl, by kernel_rfl⟩ (fun x w h0 h1 => Try.bits_Len64 x w h0 h1)
theorem valF : GL.CallOK Try.prog fid fun g args h => if g = 406 then GL.valuesE args h else none := GL.valuesE_ok ⟨_, Try.func178, by kernel_rfl, by kernel_rfl⟩ (fun a len cap w => Try.valuesC a len cap w)
theorem srtF : GL.CallOK Try.prog fid fun g args h => if g = 407 then GL.sortedE args h else none := GL.sortedE_ok ⟨_, Try.func177, by kernel_rfl, by kernel_rfl⟩ (fun Bs Bo sv zs w hl hBs hc hI => Try.sortedVals Bs Bo sv zs (by unfold maxLen; omega) (by omega) w hBs hc hI)
theorem extOK : ∀ f e, GL.p.ext f = some e → GL.CallOK Try.prog fid fun g args h => if g = f then e args h else none := fun f e h => by
  have h : (bif Nat.beq f 407 then some GL.sortedE else bif Nat.beq f 406 then some GL.valuesE else bif Nat.beq f 171 then some GL.lenE else none) = some e := h
  rcases GL.bif_some h with ⟨rfl, h⟩ | ⟨_, h⟩
  · cases h; exact srtF
  rcases GL.bif_some h with ⟨rfl, h⟩ | ⟨_, h⟩
  · cases h; exact valF
  rcases GL.bif_some h with ⟨rfl, h⟩ | ⟨_, h⟩
  · cases h; exact lenF
  cases h
theorem allOK : GL.AllOK Try.prog fid eqs GL.fnL :=
  .cons Try.func12 rfl m12 (
  .cons Try.func30 rfl m30 (
  .cons Try.func31 rfl m31 (
  .cons Try.func63 rfl m63 (
  .cons Try.func64 rfl m64 (
  .cons Try.func65 rfl m65 (
  .cons Try.func66 rfl m66 (
  .cons Try.func67 rfl m67 (
  .cons Try.func68 rfl m68 (
  .cons Try.func69 rfl m69 (
  .cons Try.func70 rfl m70 (
  .cons Try.func76 rfl m76 (
  .cons Try.func92 rfl m92 (
  .cons Try.func96 rfl m96 (
  .cons Try.func112 rfl m112 (
  .cons Try.func114 rfl m114 (
  .cons Try.func119 rfl m119 (
  .cons Try.func121 rfl m121 (
  .cons Try.func125 rfl m125 (
  .cons Try.func127 rfl m127 (
  .cons Try.func129 rfl m129 (
  .cons Try.func132 rfl m132 (
  .cons Try.func135 rfl m135 (
  .cons Try.func136 rfl m136 (
  .cons Try.func137 rfl m137 (
  .cons Try.func138 rfl m138 (
  .cons Try.func139 rfl m139 (
  .cons Try.func140 rfl m140 (
  .cons Try.func141 rfl m141 (
  .cons Try.func142 rfl m142 (
  .cons Try.func143 rfl m143 (
  .cons Try.func144 rfl m144 (
  .cons Try.func145 rfl m145 (
  .cons Try.func146 rfl m146 (
  .cons Try.func147 rfl m147 (
  .cons Try.func148 rfl m148 (
  .cons Try.func149 rfl m149 (
  .cons Try.func151 rfl m151 (
  .cons Try.func152 rfl m152 (
  .cons Try.func153 rfl m153 (
  .cons Try.func154 rfl m154 (
  .cons Try.func155 rfl m155 (
  .cons Try.func157 rfl m157 (
  .cons Try.func158 rfl m158 (
  .cons Try.func160 rfl m160 (
  .cons Try.func161 rfl m161 (
  .cons Try.func164 rfl m164 (
  .cons Try.func173 rfl m173 (
  .cons Try.func176 rfl m176 (
  .cons Try.func179 rfl m179 (
  .cons Try.func180 rfl m180 (
  .cons Try.func181 rfl m181 (
  .cons Try.func182 rfl m182 (
  .cons Try.func183 rfl m183 (
  .cons Try.func184 rfl m184 (
  .cons Try.func185 rfl m185 (
  .cons Try.func186 rfl m186 (
  .cons Try.func187 rfl m187 (
  .cons Try.func188 rfl m188 (
  .cons Try.func189 rfl m189 (
  .cons Try.func190 rfl m190 (
  .cons Try.func191 rfl m191 (
  .cons Try.func192 rfl m192 (
  .cons Try.func193 rfl m193 (
  .cons Try.func194 rfl m194 (
  .cons Try.func195 rfl m195 (
  .cons Try.func199 rfl m199 (
  .cons Try.func200 rfl m200 (
  .cons Try.func201 rfl m201 (
  .cons Try.func202 rfl m202 (
  .cons Try.func203 rfl m203 (
  .cons Try.func204 rfl m204 (
  .cons Try.func205 rfl m205 (
  .cons Try.func206 rfl m206 (
  .cons Try.func207 rfl m207 (
  .cons Try.func208 rfl m208 (
  .cons Try.func211 rfl m211 (
  .cons Try.func212 rfl m212 (
  .cons Try.func213 rfl m213 (
  .cons Try.func214 rfl m214 (
  .cons Try.func215 rfl m215 (
  .cons Try.func216 rfl m216 (
  .cons Try.func217 rfl m217 (.nil)))))))))))))))))))))))))))))))))))))))))))))))))))))))))))))))))))))))))))))))))))
theorem progOK : GL.ProgOK Try.prog fid eqs GL.p :=
  ⟨by kernel_rfl, (GL.eqs_sound (by kernel_rfl)), allOK.fn, extOK⟩
theorem walk (a0 : Option Addr) (len0 cap0 : Nat) (z0 : List Int) (a1 : Option Addr) (len1 cap1 : Nat) (z1 : List Int) (w : World) (w0 : IsRow .u8 w a0 len0 cap0 z0) (w1 : IsRow .u8 w a1 len1 cap1 z1) :
    Calls Try.prog 12 #[.slice a0 len0 cap0, .slice a1 len1 cap1] w fun e w' => e = .returned (.bool true) ∧ Below w.heap.size w w' :=
  GL.calls2 progOK (f := 485) (fun _ _ _ _ _ ha hb => GL.FnReady_ok ha hb) w0 w1

/-! ### THE ROW's STEP: WRITTEN OUT: LEAVE IT -/
set_option maxRecDepth 100000 in
theorem lifted (os : Os) (started : os.Started) (H : Type) (enc : TypeId × Value → H) :
    ReturnsInHanded {} Try.checked os 12 .any (Rows.fnReadySpec.pre6 enc Try.prog Try.f12 Rows.fnReadyRow.domain false) (Rows.fnReadySpec.post enc Try.prog Try.f12 false true false false) := by
  refine returnsInHanded_of_change (C := Try.checked) own started (by kernel_rfl) Try.func12
    (ChangeSpec.witness6 (enc := enc) (C := Try.checked) false ⟨#[], #[.slice none 0 0, .slice none 0 0], []⟩ 8 (by kernel_rfl) (by kernel_rfl) (by kernel_rfl) (by kernel_rfl)) ?_
  intro W base args ds gs before hval0 hW hcnd _
  have hval : ∀ (j : Nat) t v, Try.f12.params[j]? = some t → args[j]? = some v → Value.okWide Try.prog W .any base t v := hval0
  have hW' := hW
  obtain ⟨p, q, hA0, hV, rfl, hfz, hnd⟩ := hW
  have hA : DataW.TrodAll enc Try.prog W 0 (fun _ => true) true Try.f12.params.toList args.toList ds p := hA0
  rw [Try.params12] at hA hval
  obtain ⟨v0, vs0, d0, ds0, p0, q0, hargs, rfl, rfl, h0, r0⟩ := trodAll_cons hA
  obtain ⟨v1, vs1, d1, ds1, p1, q1, rfl, rfl, rfl, h1, r1⟩ := trodAll_cons r0
  obtain ⟨rfl, rfl, rfl⟩ := trodAll_nil r1
  obtain rfl : args = #[v0, v1] := by cases args; simp_all
  obtain ⟨rfl, rfl⟩ := trodVars_none hV
  obtain ⟨a0, len0, cap0, rfl⟩ := okWide_slice Try.underlying43 (hval 0 43 v0 rfl rfl)
  have k0 := h0
  have lt0 : ∀ x ∈ p0, x.block < W.heap.size := by obtain ⟨m, hm⟩ := k0; exact DataW.trod_lt m _ _ _ hm
  obtain ⟨z0, w0⟩ : ∃ zs, IsRow .u8 W a0 len0 cap0 zs := by
    obtain ⟨fuel, hf⟩ := h0
    rcases open_ints Try.underlying43 Try.underlying5 (by kernel_rfl) hf with ⟨hcs, _⟩ | ⟨x, l, c, zs, hcs, _, hl, hm, hz, _, hcell, hwz⟩
    · simp [Value.cells] at hcs
      obtain ⟨rfl, rfl, rfl⟩ := hcs
      exact ⟨[], .inl ⟨rfl, rfl, rfl, rfl⟩⟩
    · simp [Value.cells] at hcs
      obtain ⟨rfl, rfl, rfl⟩ := hcs
      exact ⟨zs, .inr ⟨_, rfl, hl, hm, by simpa using hz, hcell, hwz⟩⟩
  obtain ⟨a1, len1, cap1, rfl⟩ := okWide_slice Try.underlying43 (hval 1 43 v1 rfl rfl)
  have k1 := h1
  have lt1 : ∀ x ∈ p1, x.block < W.heap.size := by obtain ⟨m, hm⟩ := k1; exact DataW.trod_lt m _ _ _ hm
  obtain ⟨z1, w1⟩ : ∃ zs, IsRow .u8 W a1 len1 cap1 zs := by
    obtain ⟨fuel, hf⟩ := h1
    rcases open_ints Try.underlying43 Try.underlying5 (by kernel_rfl) hf with ⟨hcs, _⟩ | ⟨x, l, c, zs, hcs, _, hl, hm, hz, _, hcell, hwz⟩
    · simp [Value.cells] at hcs
      obtain ⟨rfl, rfl, rfl⟩ := hcs
      exact ⟨[], .inl ⟨rfl, rfl, rfl, rfl⟩⟩
    · simp [Value.cells] at hcs
      obtain ⟨rfl, rfl, rfl⟩ := hcs
      exact ⟨zs, .inr ⟨_, rfl, hl, hm, by simpa using hz, hcell, hwz⟩⟩
  clear hA0 hval0
  refine (walk a0 len0 cap0 z0 a1 len1 cap1 z1 W w0 w1).mono fun e W' ⟨he, bel⟩ => ?_
  subst he
  exact ⟨_, rfl, _, _, _, [], _, [], hW', trodAll_mk1 (shut_bool Try.underlying4 _), (trodAll_cons_mk (Below.trod laidOut (by kernel_rfl) (of_decide_eq_true (by kernel_rfl)) k0 bel lt0) (trodAll_cons_mk (Below.trod laidOut (by kernel_rfl) (of_decide_eq_true (by kernel_rfl)) k1 bel lt1) trodAll_mk0)), rfl, bel.frame _, fun h => by cases h⟩

theorem over : Rows.fnReadyRow.holds Try.pinned (OpenSpec.ofChange Rows.fnReadySpec) :=
  OpenClaim.holds_of_wide 12 Try.f12 rfl rfl rfl rfl rfl rfl rfl ⟨rfl, rfl, rfl, rfl, rfl⟩ rfl rfl rfl rfl rfl (by kernel_rfl) Try.func12 (by kernel_rfl)
    (of_decide_eq_true (by kernel_rfl)) (by unfold Func.isWrapper; first | (rw [if_pos (by decide +kernel)]; kernel_rfl) | (rw [if_neg (by decide +kernel)]; exact ⟨rfl, rfl⟩))
    (fun os started H enc _ => lifted os started H enc)

/-- ████ THE STATEMENT ████ -/
theorem proved : Rows.FnReadySaid := over
#print axioms proved
end Go.Proofs.Ytpmpdfpgkcagnaa.fnReady
