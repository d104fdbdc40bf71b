import Derived.Test.YtmgbbehacaldlaaRows
import Derived.WalkKit
import Derived.ProofKit
import Derived.OpenShut
import Derived.ShutString
import Derived.ChangeOld
import Derived.Below
import Derived.Test.YtmgbbehacaldlaaLw
import Derived.Test.YtmgbbehacaldlaaGuFnDone
/- The law 'FnDone' holds: its row, from the machine's run. -/
set_option linter.unusedSimpArgs false
set_option linter.unusedVariables false
set_option linter.unnecessarySimpa false
namespace Go.Proofs.Ytmgbbehacaldlaa.fnDone
open Go.ChangeShapes Go.WideShapes Go.ChangeAt Go.RowKit
open Go.ChangeMaps (open_string shut_string)
set_option linter.unusedVariables false

theorem own : ownKnob Try.prog.godebug = none := by kernel_rfl
theorem laidOut : laidOutB Try.prog = true := by kernel_rfl

/-- WHAT THE WALK IS TOLD OF A SLICE OF INTEGERS THAT CAME IN: it is nil; or it leads to a row of 'cap' cells, the numbers 'zs' (the first 'len' are its elements, the rest its spare room), each fitting its kind. -/
def IsRow (k : IntKind) (w : World) (a : Option Addr) (len cap : Nat) (zs : List Int) : Prop :=
  (a = none ∧ len = 0 ∧ cap = 0 ∧ zs = []) ∨
  ∃ x, a = some x ∧ len ≤ cap ∧ cap ≤ maxLen ∧ zs.length = cap ∧ (∀ i, i < zs.length → w.cell? (x.add i) = some (.int k (zs.getD i 0))) ∧ ∀ n ∈ zs, (Lit.int k n).wf = true

def fidL : List (Nat × Nat) := [(585, 4), (24, 18), (204, 19), (586, 25), (587, 26), (588, 27), (589, 28), (590, 29), (489, 30), (501, 31), (591, 32), (592, 33), (593, 34), (92, 83), (335, 92), (541, 94), (94, 97), (302, 98), (385, 100), (301, 102), (91, 104), (570, 107), (567, 108), (500, 109), (604, 110), (550, 111), (539, 112), (410, 113), (555, 114), (498, 115), (573, 116), (544, 117), (549, 118), (107, 119), (545, 120), (304, 121), (605, 122), (552, 123), (390, 124), (606, 125), (412, 132), (336, 160), (98, 166), (337, 194), (395, 198), (407, 199), (406, 200), (140, 201), (559, 202), (553, 203), (551, 204), (429, 205), (557, 206), (558, 207), (397, 208), (389, 209), (571, 210), (340, 211), (391, 212), (572, 213), (430, 217), (396, 224), (427, 232), (428, 233), (554, 234), (547, 235), (436, 236), (560, 237), (574, 238), (575, 239), (562, 240), (435, 245), (576, 246)]
def fid : Nat → FuncId := fun i => (fidL.lookup i).getD 0
def eqs : List (TypeId × List (Option IntKind)) := []
theorem m4 : GL.fnMt Try.prog fid eqs Try.f4 GL.g585 = true := by kernel_rfl
theorem m18 : GL.fnMt Try.prog fid eqs Try.f18 GL.g24 = true := by kernel_rfl
theorem m19 : GL.fnMt Try.prog fid eqs Try.f19 GL.g204 = true := by kernel_rfl
theorem m25 : GL.fnMt Try.prog fid eqs Try.f25 GL.g586 = true := by kernel_rfl
theorem m26 : GL.fnMt Try.prog fid eqs Try.f26 GL.g587 = true := by kernel_rfl
theorem m27 : GL.fnMt Try.prog fid eqs Try.f27 GL.g588 = true := by kernel_rfl
theorem m28 : GL.fnMt Try.prog fid eqs Try.f28 GL.g589 = true := by kernel_rfl
theorem m29 : GL.fnMt Try.prog fid eqs Try.f29 GL.g590 = true := by kernel_rfl
theorem m30 : GL.fnMt Try.prog fid eqs Try.f30 GL.g489 = true := by kernel_rfl
theorem m31 : GL.fnMt Try.prog fid eqs Try.f31 GL.g501 = true := by kernel_rfl
theorem m32 : GL.fnMt Try.prog fid eqs Try.f32 GL.g591 = true := by kernel_rfl
theorem m33 : GL.fnMt Try.prog fid eqs Try.f33 GL.g592 = true := by kernel_rfl
theorem m34 : GL.fnMt Try.prog fid eqs Try.f34 GL.g593 = true := by kernel_rfl
theorem m83 : GL.fnMt Try.prog fid eqs Try.f83 GL.g92 = true := by kernel_rfl
theorem m92 : GL.fnMt Try.prog fid eqs Try.f92 GL.g335 = true := by kernel_rfl
theorem m94 : GL.fnMt Try.prog fid eqs Try.f94 GL.g541 = true := by kernel_rfl
theorem m97 : GL.fnMt Try.prog fid eqs Try.f97 GL.g94 = true := by kernel_rfl
theorem m98 : GL.fnMt Try.prog fid eqs Try.f98 GL.g302 = true := by kernel_rfl
theorem m100 : GL.fnMt Try.prog fid eqs Try.f100 GL.g385 = true := by kernel_rfl
theorem m102 : GL.fnMt Try.prog fid eqs Try.f102 GL.g301 = true := by kernel_rfl
theorem m104 : GL.fnMt Try.prog fid eqs Try.f104 GL.g91 = true := by kernel_rfl
theorem m107 : GL.fnMt Try.prog fid eqs Try.f107 GL.g570 = true := by kernel_rfl
theorem m108 : GL.fnMt Try.prog fid eqs Try.f108 GL.g567 = true := by kernel_rfl
theorem m109 : GL.fnMt Try.prog fid eqs Try.f109 GL.g500 = true := by kernel_rfl
theorem m110 : GL.fnMt Try.prog fid eqs Try.f110 GL.g604 = true := by kernel_rfl
theorem m111 : GL.fnMt Try.prog fid eqs Try.f111 GL.g550 = true := by kernel_rfl
theorem m112 : GL.fnMt Try.prog fid eqs Try.f112 GL.g539 = true := by kernel_rfl
theorem m113 : GL.fnMt Try.prog fid eqs Try.f113 GL.g410 = true := by kernel_rfl
theorem m114 : GL.fnMt Try.prog fid eqs Try.f114 GL.g555 = true := by kernel_rfl
theorem m115 : GL.fnMt Try.prog fid eqs Try.f115 GL.g498 = true := by kernel_rfl
theorem m116 : GL.fnMt Try.prog fid eqs Try.f116 GL.g573 = true := by kernel_rfl
theorem m117 : GL.fnMt Try.prog fid eqs Try.f117 GL.g544 = true := by kernel_rfl
theorem m118 : GL.fnMt Try.prog fid eqs Try.f118 GL.g549 = true := by kernel_rfl
theorem m119 : GL.fnMt Try.prog fid eqs Try.f119 GL.g107 = true := by kernel_rfl
theorem m120 : GL.fnMt Try.prog fid eqs Try.f120 GL.g545 = true := by kernel_rfl
theorem m121 : GL.fnMt Try.prog fid eqs Try.f121 GL.g304 = true := by kernel_rfl
theorem m122 : GL.fnMt Try.prog fid eqs Try.f122 GL.g605 = true := by kernel_rfl
theorem m123 : GL.fnMt Try.prog fid eqs Try.f123 GL.g552 = true := by kernel_rfl
theorem m124 : GL.fnMt Try.prog fid eqs Try.f124 GL.g390 = true := by kernel_rfl
theorem m125 : GL.fnMt Try.prog fid eqs Try.f125 GL.g606 = true := by kernel_rfl
theorem m132 : GL.fnMt Try.prog fid eqs Try.f132 GL.g412 = true := by kernel_rfl
theorem m160 : GL.fnMt Try.prog fid eqs Try.f160 GL.g336 = true := by kernel_rfl
theorem m166 : GL.fnMt Try.prog fid eqs Try.f166 GL.g98 = true := by kernel_rfl
theorem m194 : GL.fnMt Try.prog fid eqs Try.f194 GL.g337 = true := by kernel_rfl
theorem m198 : GL.fnMt Try.prog fid eqs Try.f198 GL.g395 = true := by kernel_rfl
theorem m201 : GL.fnMt Try.prog fid eqs Try.f201 GL.g140 = true := by kernel_rfl
theorem m202 : GL.fnMt Try.prog fid eqs Try.f202 GL.g559 = true := by kernel_rfl
theorem m203 : GL.fnMt Try.prog fid eqs Try.f203 GL.g553 = true := by kernel_rfl
theorem m204 : GL.fnMt Try.prog fid eqs Try.f204 GL.g551 = true := by kernel_rfl
theorem m205 : GL.fnMt Try.prog fid eqs Try.f205 GL.g429 = true := by kernel_rfl
theorem m206 : GL.fnMt Try.prog fid eqs Try.f206 GL.g557 = true := by kernel_rfl
theorem m207 : GL.fnMt Try.prog fid eqs Try.f207 GL.g558 = true := by kernel_rfl
theorem m208 : GL.fnMt Try.prog fid eqs Try.f208 GL.g397 = true := by kernel_rfl
theorem m209 : GL.fnMt Try.prog fid eqs Try.f209 GL.g389 = true := by kernel_rfl
theorem m210 : GL.fnMt Try.prog fid eqs Try.f210 GL.g571 = true := by kernel_rfl
theorem m212 : GL.fnMt Try.prog fid eqs Try.f212 GL.g391 = true := by kernel_rfl
theorem m213 : GL.fnMt Try.prog fid eqs Try.f213 GL.g572 = true := by kernel_rfl
theorem m217 : GL.fnMt Try.prog fid eqs Try.f217 GL.g430 = true := by kernel_rfl
theorem m224 : GL.fnMt Try.prog fid eqs Try.f224 GL.g396 = true := by kernel_rfl
theorem m233 : GL.fnMt Try.prog fid eqs Try.f233 GL.g428 = true := by kernel_rfl
theorem m234 : GL.fnMt Try.prog fid eqs Try.f234 GL.g554 = true := by kernel_rfl
theorem m235 : GL.fnMt Try.prog fid eqs Try.f235 GL.g547 = true := by kernel_rfl
theorem m236 : GL.fnMt Try.prog fid eqs Try.f236 GL.g436 = true := by kernel_rfl
theorem m237 : GL.fnMt Try.prog fid eqs Try.f237 GL.g560 = true := by kernel_rfl
theorem m238 : GL.fnMt Try.prog fid eqs Try.f238 GL.g574 = true := by kernel_rfl
theorem m239 : GL.fnMt Try.prog fid eqs Try.f239 GL.g575 = true := by kernel_rfl
theorem m240 : GL.fnMt Try.prog fid eqs Try.f240 GL.g562 = true := by kernel_rfl
theorem m245 : GL.fnMt Try.prog fid eqs Try.f245 GL.g435 = true := by kernel_rfl
theorem m246 : GL.fnMt Try.prog fid eqs Try.f246 GL.g576 = true := by kernel_rfl
theorem valF : GL.CallOK Try.prog fid fun g args h => if g = 406 then GL.valuesE args h else none := GL.valuesE_ok ⟨_, Try.func200, by kernel_rfl, by kernel_rfl⟩ (fun a len cap w => Try.valuesC a len cap w)
theorem srtF : GL.CallOK Try.prog fid fun g args h => if g = 407 then GL.sortedE args h else none := GL.sortedE_ok ⟨_, Try.func199, by kernel_rfl, by kernel_rfl⟩ (fun Bs Bo sv zs w hl hBs hc hI => Try.sortedVals Bs Bo sv zs (by unfold maxLen; omega) (by omega) w hBs hc hI)
theorem sorF : GL.CallOK Try.prog fid fun g args h => if g = 340 then GL.sortE args h else none := GL.sortE_ok ⟨_, Try.func211, by kernel_rfl, by kernel_rfl⟩ (fun blk off cap ss W hH hb hs => Go.Proofs.AnyM.slices_Sort_int Try.sortA blk off cap ss W hH hb hs) (fun p cap W => Go.Proofs.AnyM.slices_Sort_int_none Try.sortA p cap W)
theorem extOK : ∀ f e, GL.p.ext f = some e → GL.CallOK Try.prog fid fun g args h => if g = f then e args h else none := fun f e h => by
  have h : (bif Nat.beq f 407 then some GL.sortedE else bif Nat.beq f 406 then some GL.valuesE else bif Nat.beq f 340 then some GL.sortE else none) = some e := h
  rcases GL.bif_some h with ⟨rfl, h⟩ | ⟨_, h⟩
  · cases h; exact srtF
  rcases GL.bif_some h with ⟨rfl, h⟩ | ⟨_, h⟩
  · cases h; exact valF
  rcases GL.bif_some h with ⟨rfl, h⟩ | ⟨_, h⟩
  · cases h; exact sorF
  cases h
theorem allOK : GL.AllOK Try.prog fid eqs GL.fnL :=
  .cons Try.func4 rfl m4 (
  .cons Try.func18 rfl m18 (
  .cons Try.func19 rfl m19 (
  .cons Try.func25 rfl m25 (
  .cons Try.func26 rfl m26 (
  .cons Try.func27 rfl m27 (
  .cons Try.func28 rfl m28 (
  .cons Try.func29 rfl m29 (
  .cons Try.func30 rfl m30 (
  .cons Try.func31 rfl m31 (
  .cons Try.func32 rfl m32 (
  .cons Try.func33 rfl m33 (
  .cons Try.func34 rfl m34 (
  .cons Try.func83 rfl m83 (
  .cons Try.func92 rfl m92 (
  .cons Try.func94 rfl m94 (
  .cons Try.func97 rfl m97 (
  .cons Try.func98 rfl m98 (
  .cons Try.func100 rfl m100 (
  .cons Try.func102 rfl m102 (
  .cons Try.func104 rfl m104 (
  .cons Try.func107 rfl m107 (
  .cons Try.func108 rfl m108 (
  .cons Try.func109 rfl m109 (
  .cons Try.func110 rfl m110 (
  .cons Try.func111 rfl m111 (
  .cons Try.func112 rfl m112 (
  .cons Try.func113 rfl m113 (
  .cons Try.func114 rfl m114 (
  .cons Try.func115 rfl m115 (
  .cons Try.func116 rfl m116 (
  .cons Try.func117 rfl m117 (
  .cons Try.func118 rfl m118 (
  .cons Try.func119 rfl m119 (
  .cons Try.func120 rfl m120 (
  .cons Try.func121 rfl m121 (
  .cons Try.func122 rfl m122 (
  .cons Try.func123 rfl m123 (
  .cons Try.func124 rfl m124 (
  .cons Try.func125 rfl m125 (
  .cons Try.func132 rfl m132 (
  .cons Try.func160 rfl m160 (
  .cons Try.func166 rfl m166 (
  .cons Try.func194 rfl m194 (
  .cons Try.func198 rfl m198 (
  .cons Try.func201 rfl m201 (
  .cons Try.func202 rfl m202 (
  .cons Try.func203 rfl m203 (
  .cons Try.func204 rfl m204 (
  .cons Try.func205 rfl m205 (
  .cons Try.func206 rfl m206 (
  .cons Try.func207 rfl m207 (
  .cons Try.func208 rfl m208 (
  .cons Try.func209 rfl m209 (
  .cons Try.func210 rfl m210 (
  .cons Try.func212 rfl m212 (
  .cons Try.func213 rfl m213 (
  .cons Try.func217 rfl m217 (
  .cons Try.func224 rfl m224 (
  .cons Try.func233 rfl m233 (
  .cons Try.func234 rfl m234 (
  .cons Try.func235 rfl m235 (
  .cons Try.func236 rfl m236 (
  .cons Try.func237 rfl m237 (
  .cons Try.func238 rfl m238 (
  .cons Try.func239 rfl m239 (
  .cons Try.func240 rfl m240 (
  .cons Try.func245 rfl m245 (
  .cons Try.func246 rfl m246 (.nil)))))))))))))))))))))))))))))))))))))))))))))))))))))))))))))))))))))
theorem progOK : GL.ProgOK Try.prog fid eqs GL.p :=
  ⟨by kernel_rfl, (GL.eqs_sound (by kernel_rfl)), allOK.fn, extOK⟩
theorem walk (a0 : Option Addr) (len0 cap0 : Nat) (z0 : List Int) (a1 : Option Addr) (len1 cap1 : Nat) (z1 : List Int) (w : World) (w0 : IsRow .u8 w a0 len0 cap0 z0) (w1 : IsRow .u8 w a1 len1 cap1 z1) :
    Calls Try.prog 4 #[.slice a0 len0 cap0, .slice a1 len1 cap1] w fun e w' => e = .returned (.bool true) ∧ Below w.heap.size w w' :=
  GL.calls2 progOK (f := 585) (fun _ _ _ _ _ ha hb => GL.FnDone_ok ha hb) w0 w1

/-! ### THE ROW's STEP: WRITTEN OUT: LEAVE IT -/
set_option maxRecDepth 100000 in
theorem lifted (os : Os) (started : os.Started) (H : Type) (enc : TypeId × Value → H) :
    ReturnsInHanded {} Try.checked os 4 .any (Rows.fnDoneSpec.pre6 enc Try.prog Try.f4 Rows.fnDoneRow.domain false) (Rows.fnDoneSpec.post enc Try.prog Try.f4 false true false false) := by
  refine returnsInHanded_of_change (C := Try.checked) own started (by kernel_rfl) Try.func4
    (ChangeSpec.witness6 (enc := enc) (C := Try.checked) false ⟨#[], #[.slice none 0 0, .slice none 0 0], []⟩ 8 (by kernel_rfl) (by kernel_rfl) (by kernel_rfl) (by kernel_rfl)) ?_
  intro W base args ds gs before hval0 hW hcnd _
  have hval : ∀ (j : Nat) t v, Try.f4.params[j]? = some t → args[j]? = some v → Value.okWide Try.prog W .any base t v := hval0
  have hW' := hW
  obtain ⟨p, q, hA0, hV, rfl, hfz, hnd⟩ := hW
  have hA : DataW.TrodAll enc Try.prog W 0 (fun _ => true) true Try.f4.params.toList args.toList ds p := hA0
  rw [Try.params4] at hA hval
  obtain ⟨v0, vs0, d0, ds0, p0, q0, hargs, rfl, rfl, h0, r0⟩ := trodAll_cons hA
  obtain ⟨v1, vs1, d1, ds1, p1, q1, rfl, rfl, rfl, h1, r1⟩ := trodAll_cons r0
  obtain ⟨rfl, rfl, rfl⟩ := trodAll_nil r1
  obtain rfl : args = #[v0, v1] := by cases args; simp_all
  obtain ⟨rfl, rfl⟩ := trodVars_none hV
  obtain ⟨a0, len0, cap0, rfl⟩ := okWide_slice Try.underlying22 (hval 0 22 v0 rfl rfl)
  have k0 := h0
  have lt0 : ∀ x ∈ p0, x.block < W.heap.size := by obtain ⟨m, hm⟩ := k0; exact DataW.trod_lt m _ _ _ hm
  obtain ⟨z0, w0⟩ : ∃ zs, IsRow .u8 W a0 len0 cap0 zs := by
    obtain ⟨fuel, hf⟩ := h0
    rcases open_ints Try.underlying22 Try.underlying5 (by kernel_rfl) hf with ⟨hcs, _⟩ | ⟨x, l, c, zs, hcs, _, hl, hm, hz, _, hcell, hwz⟩
    · simp [Value.cells] at hcs
      obtain ⟨rfl, rfl, rfl⟩ := hcs
      exact ⟨[], .inl ⟨rfl, rfl, rfl, rfl⟩⟩
    · simp [Value.cells] at hcs
      obtain ⟨rfl, rfl, rfl⟩ := hcs
      exact ⟨zs, .inr ⟨_, rfl, hl, hm, by simpa using hz, hcell, hwz⟩⟩
  obtain ⟨a1, len1, cap1, rfl⟩ := okWide_slice Try.underlying22 (hval 1 22 v1 rfl rfl)
  have k1 := h1
  have lt1 : ∀ x ∈ p1, x.block < W.heap.size := by obtain ⟨m, hm⟩ := k1; exact DataW.trod_lt m _ _ _ hm
  obtain ⟨z1, w1⟩ : ∃ zs, IsRow .u8 W a1 len1 cap1 zs := by
    obtain ⟨fuel, hf⟩ := h1
    rcases open_ints Try.underlying22 Try.underlying5 (by kernel_rfl) hf with ⟨hcs, _⟩ | ⟨x, l, c, zs, hcs, _, hl, hm, hz, _, hcell, hwz⟩
    · simp [Value.cells] at hcs
      obtain ⟨rfl, rfl, rfl⟩ := hcs
      exact ⟨[], .inl ⟨rfl, rfl, rfl, rfl⟩⟩
    · simp [Value.cells] at hcs
      obtain ⟨rfl, rfl, rfl⟩ := hcs
      exact ⟨zs, .inr ⟨_, rfl, hl, hm, by simpa using hz, hcell, hwz⟩⟩
  clear hA0 hval0
  refine (walk a0 len0 cap0 z0 a1 len1 cap1 z1 W w0 w1).mono fun e W' ⟨he, bel⟩ => ?_
  subst he
  exact ⟨_, rfl, _, _, _, [], _, [], hW', trodAll_mk1 (shut_bool Try.underlying4 _), (trodAll_cons_mk (Below.trod laidOut (by kernel_rfl) (of_decide_eq_true (by kernel_rfl)) k0 bel lt0) (trodAll_cons_mk (Below.trod laidOut (by kernel_rfl) (of_decide_eq_true (by kernel_rfl)) k1 bel lt1) trodAll_mk0)), rfl, bel.frame _, fun h => by cases h⟩

theorem over : Rows.fnDoneRow.holds Try.pinned (OpenSpec.ofChange Rows.fnDoneSpec) :=
  OpenClaim.holds_of_wide 4 Try.f4 rfl rfl rfl rfl rfl rfl rfl ⟨rfl, rfl, rfl, rfl, rfl⟩ rfl rfl rfl rfl rfl (by kernel_rfl) Try.func4 (by kernel_rfl)
    (of_decide_eq_true (by kernel_rfl)) (by unfold Func.isWrapper; first | (rw [if_pos (by decide +kernel)]; kernel_rfl) | (rw [if_neg (by decide +kernel)]; exact ⟨rfl, rfl⟩))
    (fun os started H enc _ => lifted os started H enc)

/-- ████ THE STATEMENT ████ -/
theorem proved : Rows.FnDoneSaid := over
#print axioms proved
end Go.Proofs.Ytmgbbehacaldlaa.fnDone
