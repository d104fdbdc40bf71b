import Derived.Test.YthjglladgfjnfaaRows
import Derived.WalkKit
import Derived.ProofKit
import Derived.OpenShut
import Derived.ShutString
import Derived.ChangeOld
import Derived.Below
import Derived.Test.YthjglladgfjnfaaLn
import Derived.Test.YthjglladgfjnfaaGuFnMeet
/- The law 'FnMeet' holds: its row, from the machine's run. -/
set_option linter.unusedSimpArgs false
set_option linter.unusedVariables false
namespace Go.Proofs.Ythjglladgfjnfaa.fnMeet
open Go.ChangeShapes Go.WideShapes Go.ChangeAt Go.RowKit
open Go.ChangeMaps (open_string shut_string)
set_option linter.unusedVariables false

theorem own : ownKnob Try.prog.godebug = none := by kernel_rfl
theorem laidOut : laidOutB Try.prog = true := by kernel_rfl

/-- WHAT THE WALK IS TOLD OF A SLICE OF INTEGERS THAT CAME IN: it is nil; or it leads to a row of 'cap' cells, the numbers 'zs' (the first 'len' are its elements, the rest its spare room), each fitting its kind. -/
def IsRow (k : IntKind) (w : World) (a : Option Addr) (len cap : Nat) (zs : List Int) : Prop :=
  (a = none ∧ len = 0 ∧ cap = 0 ∧ zs = []) ∨
  ∃ x, a = some x ∧ len ≤ cap ∧ cap ≤ maxLen ∧ zs.length = cap ∧ (∀ i, i < zs.length → w.cell? (x.add i) = some (.int k (zs.getD i 0))) ∧ ∀ n ∈ zs, (Lit.int k n).wf = true

def fidL : List (Nat × Nat) := [(235, 3), (236, 8), (237, 9), (238, 10), (239, 11), (240, 12), (241, 13), (242, 14), (31, 15), (204, 16), (243, 17), (244, 18), (245, 19), (246, 20), (247, 21), (326, 61), (91, 62), (312, 63), (318, 64), (335, 65), (334, 66), (314, 67), (336, 68), (321, 69), (337, 70), (338, 71), (322, 72), (339, 73), (107, 74), (340, 75), (333, 76), (341, 77), (98, 82), (92, 91), (301, 129), (385, 130), (93, 135), (140, 136), (395, 137), (397, 138), (389, 139), (396, 140), (302, 141), (398, 142), (157, 143), (390, 160), (391, 161), (416, 162), (417, 163), (418, 164), (419, 165), (420, 166), (421, 167), (422, 168), (423, 169), (424, 170), (170, 171), (171, 172), (431, 179), (174, 180), (175, 181), (432, 182), (433, 183), (160, 184), (437, 188)]
def fid : Nat → FuncId := fun i => (fidL.lookup i).getD 0
def eqs : List (TypeId × List (Option IntKind)) := []
theorem m3 : GL.fnMt Try.prog fid eqs Try.f3 GL.g235 = true := by kernel_rfl
theorem m8 : GL.fnMt Try.prog fid eqs Try.f8 GL.g236 = true := by kernel_rfl
theorem m9 : GL.fnMt Try.prog fid eqs Try.f9 GL.g237 = true := by kernel_rfl
theorem m10 : GL.fnMt Try.prog fid eqs Try.f10 GL.g238 = true := by kernel_rfl
theorem m11 : GL.fnMt Try.prog fid eqs Try.f11 GL.g239 = true := by kernel_rfl
theorem m12 : GL.fnMt Try.prog fid eqs Try.f12 GL.g240 = true := by kernel_rfl
theorem m13 : GL.fnMt Try.prog fid eqs Try.f13 GL.g241 = true := by kernel_rfl
theorem m14 : GL.fnMt Try.prog fid eqs Try.f14 GL.g242 = true := by kernel_rfl
theorem m15 : GL.fnMt Try.prog fid eqs Try.f15 GL.g31 = true := by kernel_rfl
theorem m16 : GL.fnMt Try.prog fid eqs Try.f16 GL.g204 = true := by kernel_rfl
theorem m17 : GL.fnMt Try.prog fid eqs Try.f17 GL.g243 = true := by kernel_rfl
theorem m18 : GL.fnMt Try.prog fid eqs Try.f18 GL.g244 = true := by kernel_rfl
theorem m19 : GL.fnMt Try.prog fid eqs Try.f19 GL.g245 = true := by kernel_rfl
theorem m20 : GL.fnMt Try.prog fid eqs Try.f20 GL.g246 = true := by kernel_rfl
theorem m21 : GL.fnMt Try.prog fid eqs Try.f21 GL.g247 = true := by kernel_rfl
theorem m61 : GL.fnMt Try.prog fid eqs Try.f61 GL.g326 = true := by kernel_rfl
theorem m62 : GL.fnMt Try.prog fid eqs Try.f62 GL.g91 = true := by kernel_rfl
theorem m63 : GL.fnMt Try.prog fid eqs Try.f63 GL.g312 = true := by kernel_rfl
theorem m64 : GL.fnMt Try.prog fid eqs Try.f64 GL.g318 = true := by kernel_rfl
theorem m65 : GL.fnMt Try.prog fid eqs Try.f65 GL.g335 = true := by kernel_rfl
theorem m66 : GL.fnMt Try.prog fid eqs Try.f66 GL.g334 = true := by kernel_rfl
theorem m67 : GL.fnMt Try.prog fid eqs Try.f67 GL.g314 = true := by kernel_rfl
theorem m68 : GL.fnMt Try.prog fid eqs Try.f68 GL.g336 = true := by kernel_rfl
theorem m69 : GL.fnMt Try.prog fid eqs Try.f69 GL.g321 = true := by kernel_rfl
theorem m70 : GL.fnMt Try.prog fid eqs Try.f70 GL.g337 = true := by kernel_rfl
theorem m71 : GL.fnMt Try.prog fid eqs Try.f71 GL.g338 = true := by kernel_rfl
theorem m72 : GL.fnMt Try.prog fid eqs Try.f72 GL.g322 = true := by kernel_rfl
theorem m73 : GL.fnMt Try.prog fid eqs Try.f73 GL.g339 = true := by kernel_rfl
theorem m74 : GL.fnMt Try.prog fid eqs Try.f74 GL.g107 = true := by kernel_rfl
theorem m75 : GL.fnMt Try.prog fid eqs Try.f75 GL.g340 = true := by kernel_rfl
theorem m76 : GL.fnMt Try.prog fid eqs Try.f76 GL.g333 = true := by kernel_rfl
theorem m77 : GL.fnMt Try.prog fid eqs Try.f77 GL.g341 = true := by kernel_rfl
theorem m82 : GL.fnMt Try.prog fid eqs Try.f82 GL.g98 = true := by kernel_rfl
theorem m91 : GL.fnMt Try.prog fid eqs Try.f91 GL.g92 = true := by kernel_rfl
theorem m129 : GL.fnMt Try.prog fid eqs Try.f129 GL.g301 = true := by kernel_rfl
theorem m130 : GL.fnMt Try.prog fid eqs Try.f130 GL.g385 = true := by kernel_rfl
theorem m135 : GL.fnMt Try.prog fid eqs Try.f135 GL.g93 = true := by kernel_rfl
theorem m136 : GL.fnMt Try.prog fid eqs Try.f136 GL.g140 = true := by kernel_rfl
theorem m137 : GL.fnMt Try.prog fid eqs Try.f137 GL.g395 = true := by kernel_rfl
theorem m138 : GL.fnMt Try.prog fid eqs Try.f138 GL.g397 = true := by kernel_rfl
theorem m139 : GL.fnMt Try.prog fid eqs Try.f139 GL.g389 = true := by kernel_rfl
theorem m140 : GL.fnMt Try.prog fid eqs Try.f140 GL.g396 = true := by kernel_rfl
theorem m141 : GL.fnMt Try.prog fid eqs Try.f141 GL.g302 = true := by kernel_rfl
theorem m142 : GL.fnMt Try.prog fid eqs Try.f142 GL.g398 = true := by kernel_rfl
theorem m143 : GL.fnMt Try.prog fid eqs Try.f143 GL.g157 = true := by kernel_rfl
theorem m160 : GL.fnMt Try.prog fid eqs Try.f160 GL.g390 = true := by kernel_rfl
theorem m161 : GL.fnMt Try.prog fid eqs Try.f161 GL.g391 = true := by kernel_rfl
theorem m162 : GL.fnMt Try.prog fid eqs Try.f162 GL.g416 = true := by kernel_rfl
theorem m163 : GL.fnMt Try.prog fid eqs Try.f163 GL.g417 = true := by kernel_rfl
theorem m164 : GL.fnMt Try.prog fid eqs Try.f164 GL.g418 = true := by kernel_rfl
theorem m165 : GL.fnMt Try.prog fid eqs Try.f165 GL.g419 = true := by kernel_rfl
theorem m166 : GL.fnMt Try.prog fid eqs Try.f166 GL.g420 = true := by kernel_rfl
theorem m167 : GL.fnMt Try.prog fid eqs Try.f167 GL.g421 = true := by kernel_rfl
theorem m168 : GL.fnMt Try.prog fid eqs Try.f168 GL.g422 = true := by kernel_rfl
theorem m169 : GL.fnMt Try.prog fid eqs Try.f169 GL.g423 = true := by kernel_rfl
theorem m170 : GL.fnMt Try.prog fid eqs Try.f170 GL.g424 = true := by kernel_rfl
theorem m171 : GL.fnMt Try.prog fid eqs Try.f171 GL.g170 = true := by kernel_rfl
theorem m179 : GL.fnMt Try.prog fid eqs Try.f179 GL.g431 = true := by kernel_rfl
theorem m180 : GL.fnMt Try.prog fid eqs Try.f180 GL.g174 = true := by kernel_rfl
theorem m181 : GL.fnMt Try.prog fid eqs Try.f181 GL.g175 = true := by kernel_rfl
theorem m182 : GL.fnMt Try.prog fid eqs Try.f182 GL.g432 = true := by kernel_rfl
theorem m183 : GL.fnMt Try.prog fid eqs Try.f183 GL.g433 = true := by kernel_rfl
theorem m184 : GL.fnMt Try.prog fid eqs Try.f184 GL.g160 = true := by kernel_rfl
theorem m188 : GL.fnMt Try.prog fid eqs Try.f188 GL.g437 = true := by kernel_rfl
theorem lenF : GL.CallOK Try.prog fid fun g args h => if g = 171 then GL.lenE args h else none := GL.lenE_ok ⟨_, Try.func172, by kernel_rfl, by kernel_rfl⟩ (fun x w h0 h1 => Try.bits_Len64 x w h0 h1)
theorem extOK : ∀ f e, GL.p.ext f = some e → GL.CallOK Try.prog fid fun g args h => if g = f then e args h else none := GL.lenExt_ok lenF rfl
theorem allOK : GL.AllOK Try.prog fid eqs GL.fnL :=
  .cons Try.func3 rfl m3 (
  .cons Try.func8 rfl m8 (
  .cons Try.func9 rfl m9 (
  .cons Try.func10 rfl m10 (
  .cons Try.func11 rfl m11 (
  .cons Try.func12 rfl m12 (
  .cons Try.func13 rfl m13 (
  .cons Try.func14 rfl m14 (
  .cons Try.func15 rfl m15 (
  .cons Try.func16 rfl m16 (
  .cons Try.func17 rfl m17 (
  .cons Try.func18 rfl m18 (
  .cons Try.func19 rfl m19 (
  .cons Try.func20 rfl m20 (
  .cons Try.func21 rfl m21 (
  .cons Try.func61 rfl m61 (
  .cons Try.func62 rfl m62 (
  .cons Try.func63 rfl m63 (
  .cons Try.func64 rfl m64 (
  .cons Try.func65 rfl m65 (
  .cons Try.func66 rfl m66 (
  .cons Try.func67 rfl m67 (
  .cons Try.func68 rfl m68 (
  .cons Try.func69 rfl m69 (
  .cons Try.func70 rfl m70 (
  .cons Try.func71 rfl m71 (
  .cons Try.func72 rfl m72 (
  .cons Try.func73 rfl m73 (
  .cons Try.func74 rfl m74 (
  .cons Try.func75 rfl m75 (
  .cons Try.func76 rfl m76 (
  .cons Try.func77 rfl m77 (
  .cons Try.func82 rfl m82 (
  .cons Try.func91 rfl m91 (
  .cons Try.func129 rfl m129 (
  .cons Try.func130 rfl m130 (
  .cons Try.func135 rfl m135 (
  .cons Try.func136 rfl m136 (
  .cons Try.func137 rfl m137 (
  .cons Try.func138 rfl m138 (
  .cons Try.func139 rfl m139 (
  .cons Try.func140 rfl m140 (
  .cons Try.func141 rfl m141 (
  .cons Try.func142 rfl m142 (
  .cons Try.func143 rfl m143 (
  .cons Try.func160 rfl m160 (
  .cons Try.func161 rfl m161 (
  .cons Try.func162 rfl m162 (
  .cons Try.func163 rfl m163 (
  .cons Try.func164 rfl m164 (
  .cons Try.func165 rfl m165 (
  .cons Try.func166 rfl m166 (
  .cons Try.func167 rfl m167 (
  .cons Try.func168 rfl m168 (
  .cons Try.func169 rfl m169 (
  .cons Try.func170 rfl m170 (
  .cons Try.func171 rfl m171 (
  .cons Try.func179 rfl m179 (
  .cons Try.func180 rfl m180 (
  .cons Try.func181 rfl m181 (
  .cons Try.func182 rfl m182 (
  .cons Try.func183 rfl m183 (
  .cons Try.func184 rfl m184 (
  .cons Try.func188 rfl m188 (.nil))))))))))))))))))))))))))))))))))))))))))))))))))))))))))))))))
theorem progOK : GL.ProgOK Try.prog fid eqs GL.p :=
  ⟨by kernel_rfl, (GL.eqs_sound (by kernel_rfl)), allOK.fn, extOK⟩
theorem walk (a0 : Option Addr) (len0 cap0 : Nat) (z0 : List Int) (a1 : Option Addr) (len1 cap1 : Nat) (z1 : List Int) (w : World) (w0 : IsRow .u8 w a0 len0 cap0 z0) (w1 : IsRow .u8 w a1 len1 cap1 z1) :
    Calls Try.prog 3 #[.slice a0 len0 cap0, .slice a1 len1 cap1] w fun e w' => e = .returned (.bool true) ∧ Below w.heap.size w w' :=
  GL.calls2 progOK (f := 235) (fun _ _ _ _ _ ha hb => GL.FnMeet_ok ha hb) w0 w1

/-! ### THE ROW's STEP: WRITTEN OUT: LEAVE IT -/
set_option maxRecDepth 100000 in
theorem lifted (os : Os) (started : os.Started) (H : Type) (enc : TypeId × Value → H) :
    ReturnsInHanded {} Try.checked os 3 .any (Rows.fnMeetSpec.pre6 enc Try.prog Try.f3 Rows.fnMeetRow.domain false) (Rows.fnMeetSpec.post enc Try.prog Try.f3 false true false false) := by
  refine returnsInHanded_of_change (C := Try.checked) own started (by kernel_rfl) Try.func3
    (ChangeSpec.witness6 (enc := enc) (C := Try.checked) false ⟨#[], #[.slice none 0 0, .slice none 0 0], []⟩ 8 (by kernel_rfl) (by kernel_rfl) (by kernel_rfl) (by kernel_rfl)) ?_
  intro W base args ds gs before hval0 hW hcnd _
  have hval : ∀ (j : Nat) t v, Try.f3.params[j]? = some t → args[j]? = some v → Value.okWide Try.prog W .any base t v := hval0
  have hW' := hW
  obtain ⟨p, q, hA0, hV, rfl, hfz, hnd⟩ := hW
  have hA : DataW.TrodAll enc Try.prog W 0 (fun _ => true) true Try.f3.params.toList args.toList ds p := hA0
  rw [Try.params3] at hA hval
  obtain ⟨v0, vs0, d0, ds0, p0, q0, hargs, rfl, rfl, h0, r0⟩ := trodAll_cons hA
  obtain ⟨v1, vs1, d1, ds1, p1, q1, rfl, rfl, rfl, h1, r1⟩ := trodAll_cons r0
  obtain ⟨rfl, rfl, rfl⟩ := trodAll_nil r1
  obtain rfl : args = #[v0, v1] := by cases args; simp_all
  obtain ⟨rfl, rfl⟩ := trodVars_none hV
  obtain ⟨a0, len0, cap0, rfl⟩ := okWide_slice Try.underlying22 (hval 0 22 v0 rfl rfl)
  have k0 := h0
  have lt0 : ∀ x ∈ p0, x.block < W.heap.size := by obtain ⟨m, hm⟩ := k0; exact DataW.trod_lt m _ _ _ hm
  obtain ⟨z0, w0⟩ : ∃ zs, IsRow .u8 W a0 len0 cap0 zs := by
    obtain ⟨fuel, hf⟩ := h0
    rcases open_ints Try.underlying22 Try.underlying5 (by kernel_rfl) hf with ⟨hcs, _⟩ | ⟨x, l, c, zs, hcs, _, hl, hm, hz, _, hcell, hwz⟩
    · simp [Value.cells] at hcs
      obtain ⟨rfl, rfl, rfl⟩ := hcs
      exact ⟨[], .inl ⟨rfl, rfl, rfl, rfl⟩⟩
    · simp [Value.cells] at hcs
      obtain ⟨rfl, rfl, rfl⟩ := hcs
      exact ⟨zs, .inr ⟨_, rfl, hl, hm, by simpa using hz, hcell, hwz⟩⟩
  obtain ⟨a1, len1, cap1, rfl⟩ := okWide_slice Try.underlying22 (hval 1 22 v1 rfl rfl)
  have k1 := h1
  have lt1 : ∀ x ∈ p1, x.block < W.heap.size := by obtain ⟨m, hm⟩ := k1; exact DataW.trod_lt m _ _ _ hm
  obtain ⟨z1, w1⟩ : ∃ zs, IsRow .u8 W a1 len1 cap1 zs := by
    obtain ⟨fuel, hf⟩ := h1
    rcases open_ints Try.underlying22 Try.underlying5 (by kernel_rfl) hf with ⟨hcs, _⟩ | ⟨x, l, c, zs, hcs, _, hl, hm, hz, _, hcell, hwz⟩
    · simp [Value.cells] at hcs
      obtain ⟨rfl, rfl, rfl⟩ := hcs
      exact ⟨[], .inl ⟨rfl, rfl, rfl, rfl⟩⟩
    · simp [Value.cells] at hcs
      obtain ⟨rfl, rfl, rfl⟩ := hcs
      exact ⟨zs, .inr ⟨_, rfl, hl, hm, by simpa using hz, hcell, hwz⟩⟩
  clear hA0 hval0
  refine (walk a0 len0 cap0 z0 a1 len1 cap1 z1 W w0 w1).mono fun e W' ⟨he, bel⟩ => ?_
  subst he
  exact ⟨_, rfl, _, _, _, [], _, [], hW', trodAll_mk1 (shut_bool Try.underlying4 _), (trodAll_cons_mk (Below.trod laidOut (by kernel_rfl) (of_decide_eq_true (by kernel_rfl)) k0 bel lt0) (trodAll_cons_mk (Below.trod laidOut (by kernel_rfl) (of_decide_eq_true (by kernel_rfl)) k1 bel lt1) trodAll_mk0)), rfl, bel.frame _, fun h => by cases h⟩

theorem over : Rows.fnMeetRow.holds Try.pinned (OpenSpec.ofChange Rows.fnMeetSpec) :=
  OpenClaim.holds_of_wide 3 Try.f3 rfl rfl rfl rfl rfl rfl rfl ⟨rfl, rfl, rfl, rfl, rfl⟩ rfl rfl rfl rfl rfl (by kernel_rfl) Try.func3 (by kernel_rfl)
    (of_decide_eq_true (by kernel_rfl)) (by unfold Func.isWrapper; first | (rw [if_pos (by decide +kernel)]; kernel_rfl) | (rw [if_neg (by decide +kernel)]; exact ⟨rfl, rfl⟩))
    (fun os started H enc _ => lifted os started H enc)

/-- ████ THE STATEMENT ████ -/
theorem proved : Rows.FnMeetSaid := over
#print axioms proved
end Go.Proofs.Ythjglladgfjnfaa.fnMeet
