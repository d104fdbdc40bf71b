import Derived.Test.YtpmpdfpgkcagnaaRows
import Derived.WalkKit
import Derived.ProofKit
import Derived.OpenShut
import Derived.ShutString
import Derived.ChangeOld
import Derived.Below
import Derived.Test.YtpmpdfpgkcagnaaLw
import Derived.Test.YtpmpdfpgkcagnaaGuFnFast
/- The law 'FnFast' holds: its row, from the machine's run. -/
set_option linter.unusedSimpArgs false
set_option linter.unusedVariables false
set_option linter.unnecessarySimpa false
namespace Go.Proofs.Ytpmpdfpgkcagnaa.fnFast
open Go.ChangeShapes Go.WideShapes Go.ChangeAt Go.RowKit
open Go.ChangeMaps (open_string shut_string)
set_option linter.unusedVariables false

theorem own : ownKnob Try.prog.godebug = none := by kernel_rfl
theorem laidOut : laidOutB Try.prog = true := by kernel_rfl

/-- WHAT THE WALK IS TOLD OF A SLICE OF INTEGERS THAT CAME IN: it is nil; or it leads to a row of 'cap' cells, the numbers 'zs' (the first 'len' are its elements, the rest its spare room), each fitting its kind. -/
def IsRow (k : IntKind) (w : World) (a : Option Addr) (len cap : Nat) (zs : List Int) : Prop :=
  (a = none ∧ len = 0 ∧ cap = 0 ∧ zs = []) ∨
  ∃ x, a = some x ∧ len ≤ cap ∧ cap ≤ maxLen ∧ zs.length = cap ∧ (∀ i, i < zs.length → w.cell? (x.add i) = some (.int k (zs.getD i 0))) ∧ ∀ n ∈ zs, (Lit.int k n).wf = true

def fidL : List (Nat × Nat) := [(448, 5), (441, 16), (442, 18), (446, 24), (447, 26), (449, 27), (450, 28), (451, 29), (24, 30), (204, 31), (452, 32), (464, 42), (465, 43), (515, 91), (98, 92), (516, 93), (107, 96), (518, 97), (519, 98), (522, 101), (341, 102), (356, 103), (314, 104), (339, 105), (523, 106), (524, 107), (525, 108), (526, 109), (527, 110), (528, 111), (91, 112), (529, 113), (92, 114), (318, 115), (530, 116), (531, 117), (538, 118), (335, 119), (532, 120), (541, 121), (321, 122), (533, 123), (94, 124), (302, 125), (385, 127), (535, 128), (537, 131), (337, 140), (429, 153), (304, 158), (410, 161), (340, 164), (333, 166), (566, 167), (386, 168), (322, 169), (412, 170), (93, 171), (567, 172), (140, 173), (568, 174), (569, 175), (395, 176), (407, 177), (406, 178), (436, 190), (391, 192), (430, 196), (427, 198)]
def fid : Nat → FuncId := fun i => (fidL.lookup i).getD 0
def eqs : List (TypeId × List (Option IntKind)) := []
theorem m5 : GL.fnMt Try.prog fid eqs Try.f5 GL.g448 = true := by kernel_rfl
theorem m16 : GL.fnMt Try.prog fid eqs Try.f16 GL.g441 = true := by kernel_rfl
theorem m18 : GL.fnMt Try.prog fid eqs Try.f18 GL.g442 = true := by kernel_rfl
theorem m24 : GL.fnMt Try.prog fid eqs Try.f24 GL.g446 = true := by kernel_rfl
theorem m26 : GL.fnMt Try.prog fid eqs Try.f26 GL.g447 = true := by kernel_rfl
theorem m27 : GL.fnMt Try.prog fid eqs Try.f27 GL.g449 = true := by kernel_rfl
theorem m28 : GL.fnMt Try.prog fid eqs Try.f28 GL.g450 = true := by kernel_rfl
theorem m29 : GL.fnMt Try.prog fid eqs Try.f29 GL.g451 = true := by kernel_rfl
theorem m30 : GL.fnMt Try.prog fid eqs Try.f30 GL.g24 = true := by kernel_rfl
theorem m31 : GL.fnMt Try.prog fid eqs Try.f31 GL.g204 = true := by kernel_rfl
theorem m32 : GL.fnMt Try.prog fid eqs Try.f32 GL.g452 = true := by kernel_rfl
theorem m42 : GL.fnMt Try.prog fid eqs Try.f42 GL.g464 = true := by kernel_rfl
theorem m43 : GL.fnMt Try.prog fid eqs Try.f43 GL.g465 = true := by kernel_rfl
theorem m91 : GL.fnMt Try.prog fid eqs Try.f91 GL.g515 = true := by kernel_rfl
theorem m92 : GL.fnMt Try.prog fid eqs Try.f92 GL.g98 = true := by kernel_rfl
theorem m93 : GL.fnMt Try.prog fid eqs Try.f93 GL.g516 = true := by kernel_rfl
theorem m96 : GL.fnMt Try.prog fid eqs Try.f96 GL.g107 = true := by kernel_rfl
theorem m97 : GL.fnMt Try.prog fid eqs Try.f97 GL.g518 = true := by kernel_rfl
theorem m98 : GL.fnMt Try.prog fid eqs Try.f98 GL.g519 = true := by kernel_rfl
theorem m101 : GL.fnMt Try.prog fid eqs Try.f101 GL.g522 = true := by kernel_rfl
theorem m102 : GL.fnMt Try.prog fid eqs Try.f102 GL.g341 = true := by kernel_rfl
theorem m103 : GL.fnMt Try.prog fid eqs Try.f103 GL.g356 = true := by kernel_rfl
theorem m104 : GL.fnMt Try.prog fid eqs Try.f104 GL.g314 = true := by kernel_rfl
theorem m105 : GL.fnMt Try.prog fid eqs Try.f105 GL.g339 = true := by kernel_rfl
theorem m106 : GL.fnMt Try.prog fid eqs Try.f106 GL.g523 = true := by kernel_rfl
theorem m107 : GL.fnMt Try.prog fid eqs Try.f107 GL.g524 = true := by kernel_rfl
theorem m108 : GL.fnMt Try.prog fid eqs Try.f108 GL.g525 = true := by kernel_rfl
theorem m109 : GL.fnMt Try.prog fid eqs Try.f109 GL.g526 = true := by kernel_rfl
theorem m110 : GL.fnMt Try.prog fid eqs Try.f110 GL.g527 = true := by kernel_rfl
theorem m111 : GL.fnMt Try.prog fid eqs Try.f111 GL.g528 = true := by kernel_rfl
theorem m112 : GL.fnMt Try.prog fid eqs Try.f112 GL.g91 = true := by kernel_rfl
theorem m113 : GL.fnMt Try.prog fid eqs Try.f113 GL.g529 = true := by kernel_rfl
theorem m114 : GL.fnMt Try.prog fid eqs Try.f114 GL.g92 = true := by kernel_rfl
theorem m115 : GL.fnMt Try.prog fid eqs Try.f115 GL.g318 = true := by kernel_rfl
theorem m116 : GL.fnMt Try.prog fid eqs Try.f116 GL.g530 = true := by kernel_rfl
theorem m117 : GL.fnMt Try.prog fid eqs Try.f117 GL.g531 = true := by kernel_rfl
theorem m118 : GL.fnMt Try.prog fid eqs Try.f118 GL.g538 = true := by kernel_rfl
theorem m119 : GL.fnMt Try.prog fid eqs Try.f119 GL.g335 = true := by kernel_rfl
theorem m120 : GL.fnMt Try.prog fid eqs Try.f120 GL.g532 = true := by kernel_rfl
theorem m121 : GL.fnMt Try.prog fid eqs Try.f121 GL.g541 = true := by kernel_rfl
theorem m122 : GL.fnMt Try.prog fid eqs Try.f122 GL.g321 = true := by kernel_rfl
theorem m123 : GL.fnMt Try.prog fid eqs Try.f123 GL.g533 = true := by kernel_rfl
theorem m124 : GL.fnMt Try.prog fid eqs Try.f124 GL.g94 = true := by kernel_rfl
theorem m125 : GL.fnMt Try.prog fid eqs Try.f125 GL.g302 = true := by kernel_rfl
theorem m127 : GL.fnMt Try.prog fid eqs Try.f127 GL.g385 = true := by kernel_rfl
theorem m128 : GL.fnMt Try.prog fid eqs Try.f128 GL.g535 = true := by kernel_rfl
theorem m131 : GL.fnMt Try.prog fid eqs Try.f131 GL.g537 = true := by kernel_rfl
theorem m140 : GL.fnMt Try.prog fid eqs Try.f140 GL.g337 = true := by kernel_rfl
theorem m153 : GL.fnMt Try.prog fid eqs Try.f153 GL.g429 = true := by kernel_rfl
theorem m158 : GL.fnMt Try.prog fid eqs Try.f158 GL.g304 = true := by kernel_rfl
theorem m161 : GL.fnMt Try.prog fid eqs Try.f161 GL.g410 = true := by kernel_rfl
theorem m166 : GL.fnMt Try.prog fid eqs Try.f166 GL.g333 = true := by kernel_rfl
theorem m167 : GL.fnMt Try.prog fid eqs Try.f167 GL.g566 = true := by kernel_rfl
theorem m168 : GL.fnMt Try.prog fid eqs Try.f168 GL.g386 = true := by kernel_rfl
theorem m169 : GL.fnMt Try.prog fid eqs Try.f169 GL.g322 = true := by kernel_rfl
theorem m170 : GL.fnMt Try.prog fid eqs Try.f170 GL.g412 = true := by kernel_rfl
theorem m171 : GL.fnMt Try.prog fid eqs Try.f171 GL.g93 = true := by kernel_rfl
theorem m172 : GL.fnMt Try.prog fid eqs Try.f172 GL.g567 = true := by kernel_rfl
theorem m173 : GL.fnMt Try.prog fid eqs Try.f173 GL.g140 = true := by kernel_rfl
theorem m174 : GL.fnMt Try.prog fid eqs Try.f174 GL.g568 = true := by kernel_rfl
theorem m175 : GL.fnMt Try.prog fid eqs Try.f175 GL.g569 = true := by kernel_rfl
theorem m176 : GL.fnMt Try.prog fid eqs Try.f176 GL.g395 = true := by kernel_rfl
theorem m190 : GL.fnMt Try.prog fid eqs Try.f190 GL.g436 = true := by kernel_rfl
theorem m192 : GL.fnMt Try.prog fid eqs Try.f192 GL.g391 = true := by kernel_rfl
theorem m196 : GL.fnMt Try.prog fid eqs Try.f196 GL.g430 = true := by kernel_rfl
theorem valF : GL.CallOK Try.prog fid fun g args h => if g = 406 then GL.valuesE args h else none := GL.valuesE_ok ⟨_, Try.func178, by kernel_rfl, by kernel_rfl⟩ (fun a len cap w => Try.valuesC a len cap w)
theorem srtF : GL.CallOK Try.prog fid fun g args h => if g = 407 then GL.sortedE args h else none := GL.sortedE_ok ⟨_, Try.func177, by kernel_rfl, by kernel_rfl⟩ (fun Bs Bo sv zs w hl hBs hc hI => Try.sortedVals Bs Bo sv zs (by unfold maxLen; omega) (by omega) w hBs hc hI)
theorem sorF : GL.CallOK Try.prog fid fun g args h => if g = 340 then GL.sortE args h else none := GL.sortE_ok ⟨_, Try.func164, by kernel_rfl, by kernel_rfl⟩ (fun blk off cap ss W hH hb hs => Go.Proofs.AnyM.slices_Sort_int Try.sortA blk off cap ss W hH hb hs) (fun p cap W => Go.Proofs.AnyM.slices_Sort_int_none Try.sortA p cap W)
theorem extOK : ∀ f e, GL.p.ext f = some e → GL.CallOK Try.prog fid fun g args h => if g = f then e args h else none := fun f e h => by
  have h : (bif Nat.beq f 340 then some GL.sortE else bif Nat.beq f 407 then some GL.sortedE else bif Nat.beq f 406 then some GL.valuesE else none) = some e := h
  rcases GL.bif_some h with ⟨rfl, h⟩ | ⟨_, h⟩
  · cases h; exact sorF
  rcases GL.bif_some h with ⟨rfl, h⟩ | ⟨_, h⟩
  · cases h; exact srtF
  rcases GL.bif_some h with ⟨rfl, h⟩ | ⟨_, h⟩
  · cases h; exact valF
  cases h
theorem allOK : GL.AllOK Try.prog fid eqs GL.fnL :=
  .cons Try.func5 rfl m5 (
  .cons Try.func16 rfl m16 (
  .cons Try.func18 rfl m18 (
  .cons Try.func24 rfl m24 (
  .cons Try.func26 rfl m26 (
  .cons Try.func27 rfl m27 (
  .cons Try.func28 rfl m28 (
  .cons Try.func29 rfl m29 (
  .cons Try.func30 rfl m30 (
  .cons Try.func31 rfl m31 (
  .cons Try.func32 rfl m32 (
  .cons Try.func42 rfl m42 (
  .cons Try.func43 rfl m43 (
  .cons Try.func91 rfl m91 (
  .cons Try.func92 rfl m92 (
  .cons Try.func93 rfl m93 (
  .cons Try.func96 rfl m96 (
  .cons Try.func97 rfl m97 (
  .cons Try.func98 rfl m98 (
  .cons Try.func101 rfl m101 (
  .cons Try.func102 rfl m102 (
  .cons Try.func103 rfl m103 (
  .cons Try.func104 rfl m104 (
  .cons Try.func105 rfl m105 (
  .cons Try.func106 rfl m106 (
  .cons Try.func107 rfl m107 (
  .cons Try.func108 rfl m108 (
  .cons Try.func109 rfl m109 (
  .cons Try.func110 rfl m110 (
  .cons Try.func111 rfl m111 (
  .cons Try.func112 rfl m112 (
  .cons Try.func113 rfl m113 (
  .cons Try.func114 rfl m114 (
  .cons Try.func115 rfl m115 (
  .cons Try.func116 rfl m116 (
  .cons Try.func117 rfl m117 (
  .cons Try.func118 rfl m118 (
  .cons Try.func119 rfl m119 (
  .cons Try.func120 rfl m120 (
  .cons Try.func121 rfl m121 (
  .cons Try.func122 rfl m122 (
  .cons Try.func123 rfl m123 (
  .cons Try.func124 rfl m124 (
  .cons Try.func125 rfl m125 (
  .cons Try.func127 rfl m127 (
  .cons Try.func128 rfl m128 (
  .cons Try.func131 rfl m131 (
  .cons Try.func140 rfl m140 (
  .cons Try.func153 rfl m153 (
  .cons Try.func158 rfl m158 (
  .cons Try.func161 rfl m161 (
  .cons Try.func166 rfl m166 (
  .cons Try.func167 rfl m167 (
  .cons Try.func168 rfl m168 (
  .cons Try.func169 rfl m169 (
  .cons Try.func170 rfl m170 (
  .cons Try.func171 rfl m171 (
  .cons Try.func172 rfl m172 (
  .cons Try.func173 rfl m173 (
  .cons Try.func174 rfl m174 (
  .cons Try.func175 rfl m175 (
  .cons Try.func176 rfl m176 (
  .cons Try.func190 rfl m190 (
  .cons Try.func192 rfl m192 (
  .cons Try.func196 rfl m196 (.nil)))))))))))))))))))))))))))))))))))))))))))))))))))))))))))))))))
theorem progOK : GL.ProgOK Try.prog fid eqs GL.p :=
  ⟨by kernel_rfl, (GL.eqs_sound (by kernel_rfl)), allOK.fn, extOK⟩
theorem walk (a0 : Option Addr) (len0 cap0 : Nat) (z0 : List Int) (a1 : Option Addr) (len1 cap1 : Nat) (z1 : List Int) (w : World) (w0 : IsRow .u8 w a0 len0 cap0 z0) (w1 : IsRow .u8 w a1 len1 cap1 z1) :
    Calls Try.prog 5 #[.slice a0 len0 cap0, .slice a1 len1 cap1] w fun e w' => e = .returned (.bool true) ∧ Below w.heap.size w w' :=
  GL.calls2 progOK (f := 448) (fun _ _ _ _ _ ha hb => GL.FnFast_ok ha hb) w0 w1

/-! ### THE ROW's STEP: WRITTEN OUT: LEAVE IT -/
set_option maxRecDepth 100000 in
theorem lifted (os : Os) (started : os.Started) (H : Type) (enc : TypeId × Value → H) :
    ReturnsInHanded {} Try.checked os 5 .any (Rows.fnFastSpec.pre6 enc Try.prog Try.f5 Rows.fnFastRow.domain false) (Rows.fnFastSpec.post enc Try.prog Try.f5 false true false false) := by
  refine returnsInHanded_of_change (C := Try.checked) own started (by kernel_rfl) Try.func5
    (ChangeSpec.witness6 (enc := enc) (C := Try.checked) false ⟨#[], #[.slice none 0 0, .slice none 0 0], []⟩ 8 (by kernel_rfl) (by kernel_rfl) (by kernel_rfl) (by kernel_rfl)) ?_
  intro W base args ds gs before hval0 hW hcnd _
  have hval : ∀ (j : Nat) t v, Try.f5.params[j]? = some t → args[j]? = some v → Value.okWide Try.prog W .any base t v := hval0
  have hW' := hW
  obtain ⟨p, q, hA0, hV, rfl, hfz, hnd⟩ := hW
  have hA : DataW.TrodAll enc Try.prog W 0 (fun _ => true) true Try.f5.params.toList args.toList ds p := hA0
  rw [Try.params5] at hA hval
  obtain ⟨v0, vs0, d0, ds0, p0, q0, hargs, rfl, rfl, h0, r0⟩ := trodAll_cons hA
  obtain ⟨v1, vs1, d1, ds1, p1, q1, rfl, rfl, rfl, h1, r1⟩ := trodAll_cons r0
  obtain ⟨rfl, rfl, rfl⟩ := trodAll_nil r1
  obtain rfl : args = #[v0, v1] := by cases args; simp_all
  obtain ⟨rfl, rfl⟩ := trodVars_none hV
  obtain ⟨a0, len0, cap0, rfl⟩ := okWide_slice Try.underlying43 (hval 0 43 v0 rfl rfl)
  have k0 := h0
  have lt0 : ∀ x ∈ p0, x.block < W.heap.size := by obtain ⟨m, hm⟩ := k0; exact DataW.trod_lt m _ _ _ hm
  obtain ⟨z0, w0⟩ : ∃ zs, IsRow .u8 W a0 len0 cap0 zs := by
    obtain ⟨fuel, hf⟩ := h0
    rcases open_ints Try.underlying43 Try.underlying5 (by kernel_rfl) hf with ⟨hcs, _⟩ | ⟨x, l, c, zs, hcs, _, hl, hm, hz, _, hcell, hwz⟩
    · simp [Value.cells] at hcs
      obtain ⟨rfl, rfl, rfl⟩ := hcs
      exact ⟨[], .inl ⟨rfl, rfl, rfl, rfl⟩⟩
    · simp [Value.cells] at hcs
      obtain ⟨rfl, rfl, rfl⟩ := hcs
      exact ⟨zs, .inr ⟨_, rfl, hl, hm, by simpa using hz, hcell, hwz⟩⟩
  obtain ⟨a1, len1, cap1, rfl⟩ := okWide_slice Try.underlying43 (hval 1 43 v1 rfl rfl)
  have k1 := h1
  have lt1 : ∀ x ∈ p1, x.block < W.heap.size := by obtain ⟨m, hm⟩ := k1; exact DataW.trod_lt m _ _ _ hm
  obtain ⟨z1, w1⟩ : ∃ zs, IsRow .u8 W a1 len1 cap1 zs := by
    obtain ⟨fuel, hf⟩ := h1
    rcases open_ints Try.underlying43 Try.underlying5 (by kernel_rfl) hf with ⟨hcs, _⟩ | ⟨x, l, c, zs, hcs, _, hl, hm, hz, _, hcell, hwz⟩
    · simp [Value.cells] at hcs
      obtain ⟨rfl, rfl, rfl⟩ := hcs
      exact ⟨[], .inl ⟨rfl, rfl, rfl, rfl⟩⟩
    · simp [Value.cells] at hcs
      obtain ⟨rfl, rfl, rfl⟩ := hcs
      exact ⟨zs, .inr ⟨_, rfl, hl, hm, by simpa using hz, hcell, hwz⟩⟩
  clear hA0 hval0
  refine (walk a0 len0 cap0 z0 a1 len1 cap1 z1 W w0 w1).mono fun e W' ⟨he, bel⟩ => ?_
  subst he
  exact ⟨_, rfl, _, _, _, [], _, [], hW', trodAll_mk1 (shut_bool Try.underlying4 _), (trodAll_cons_mk (Below.trod laidOut (by kernel_rfl) (of_decide_eq_true (by kernel_rfl)) k0 bel lt0) (trodAll_cons_mk (Below.trod laidOut (by kernel_rfl) (of_decide_eq_true (by kernel_rfl)) k1 bel lt1) trodAll_mk0)), rfl, bel.frame _, fun h => by cases h⟩

theorem over : Rows.fnFastRow.holds Try.pinned (OpenSpec.ofChange Rows.fnFastSpec) :=
  OpenClaim.holds_of_wide 5 Try.f5 rfl rfl rfl rfl rfl rfl rfl ⟨rfl, rfl, rfl, rfl, rfl⟩ rfl rfl rfl rfl rfl (by kernel_rfl) Try.func5 (by kernel_rfl)
    (of_decide_eq_true (by kernel_rfl)) (by unfold Func.isWrapper; first | (rw [if_pos (by decide +kernel)]; kernel_rfl) | (rw [if_neg (by decide +kernel)]; exact ⟨rfl, rfl⟩))
    (fun os started H enc _ => lifted os started H enc)

/-- ████ THE STATEMENT ████ -/
theorem proved : Rows.FnFastSaid := over
#print axioms proved
end Go.Proofs.Ytpmpdfpgkcagnaa.fnFast
