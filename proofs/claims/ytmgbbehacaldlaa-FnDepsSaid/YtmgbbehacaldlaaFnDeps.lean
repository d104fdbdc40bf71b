import Derived.Test.YtmgbbehacaldlaaRows
import Derived.WalkKit
import Derived.ProofKit
import Derived.OpenShut
import Derived.ShutString
import Derived.ChangeOld
import Derived.Below
import Derived.Test.YtmgbbehacaldlaaLw
import Derived.Test.YtmgbbehacaldlaaGuFnDeps
/- The law 'FnDeps' holds: its row, from the machine's run. -/
set_option linter.unusedSimpArgs false
set_option linter.unusedVariables false
set_option linter.unnecessarySimpa false
namespace Go.Proofs.Ytmgbbehacaldlaa.fnDeps
open Go.ChangeShapes Go.WideShapes Go.ChangeAt Go.RowKit
open Go.ChangeMaps (open_string shut_string)
set_option linter.unusedVariables false

theorem own : ownKnob Try.prog.godebug = none := by kernel_rfl
theorem laidOut : laidOutB Try.prog = true := by kernel_rfl

/-- WHAT THE WALK IS TOLD OF A SLICE OF INTEGERS THAT CAME IN: it is nil; or it leads to a row of 'cap' cells, the numbers 'zs' (the first 'len' are its elements, the rest its spare room), each fitting its kind. -/
def IsRow (k : IntKind) (w : World) (a : Option Addr) (len cap : Nat) (zs : List Int) : Prop :=
  (a = none ∧ len = 0 ∧ cap = 0 ∧ zs = []) ∨
  ∃ x, a = some x ∧ len ≤ cap ∧ cap ≤ maxLen ∧ zs.length = cap ∧ (∀ i, i < zs.length → w.cell? (x.add i) = some (.int k (zs.getD i 0))) ∧ ∀ n ∈ zs, (Lit.int k n).wf = true

def fidL : List (Nat × Nat) := [(460, 3), (461, 10), (462, 11), (463, 12), (383, 13), (464, 14), (465, 15), (466, 16), (450, 17), (24, 18), (204, 19), (467, 20), (468, 21), (469, 22), (470, 23), (471, 24), (528, 81), (529, 82), (92, 83), (525, 84), (526, 85), (522, 86), (527, 87), (318, 88), (530, 89), (531, 90), (538, 91), (335, 92), (532, 93), (541, 94), (321, 95), (533, 96), (94, 97), (302, 98), (534, 99), (385, 100), (535, 101), (301, 102), (518, 103), (91, 104), (536, 105), (537, 106), (567, 108), (410, 113), (107, 119), (390, 124), (412, 132), (98, 166), (93, 189), (568, 190), (314, 191), (322, 192), (519, 193), (337, 194), (333, 195), (516, 196), (569, 197), (395, 198), (407, 199), (406, 200), (140, 201), (429, 205), (340, 211), (430, 217), (427, 232), (436, 236)]
def fid : Nat → FuncId := fun i => (fidL.lookup i).getD 0
def eqs : List (TypeId × List (Option IntKind)) := []
theorem m3 : GL.fnMt Try.prog fid eqs Try.f3 GL.g460 = true := by kernel_rfl
theorem m10 : GL.fnMt Try.prog fid eqs Try.f10 GL.g461 = true := by kernel_rfl
theorem m11 : GL.fnMt Try.prog fid eqs Try.f11 GL.g462 = true := by kernel_rfl
theorem m12 : GL.fnMt Try.prog fid eqs Try.f12 GL.g463 = true := by kernel_rfl
theorem m13 : GL.fnMt Try.prog fid eqs Try.f13 GL.g383 = true := by kernel_rfl
theorem m14 : GL.fnMt Try.prog fid eqs Try.f14 GL.g464 = true := by kernel_rfl
theorem m15 : GL.fnMt Try.prog fid eqs Try.f15 GL.g465 = true := by kernel_rfl
theorem m16 : GL.fnMt Try.prog fid eqs Try.f16 GL.g466 = true := by kernel_rfl
theorem m17 : GL.fnMt Try.prog fid eqs Try.f17 GL.g450 = true := by kernel_rfl
theorem m18 : GL.fnMt Try.prog fid eqs Try.f18 GL.g24 = true := by kernel_rfl
theorem m19 : GL.fnMt Try.prog fid eqs Try.f19 GL.g204 = true := by kernel_rfl
theorem m20 : GL.fnMt Try.prog fid eqs Try.f20 GL.g467 = true := by kernel_rfl
theorem m21 : GL.fnMt Try.prog fid eqs Try.f21 GL.g468 = true := by kernel_rfl
theorem m22 : GL.fnMt Try.prog fid eqs Try.f22 GL.g469 = true := by kernel_rfl
theorem m23 : GL.fnMt Try.prog fid eqs Try.f23 GL.g470 = true := by kernel_rfl
theorem m24 : GL.fnMt Try.prog fid eqs Try.f24 GL.g471 = true := by kernel_rfl
theorem m81 : GL.fnMt Try.prog fid eqs Try.f81 GL.g528 = true := by kernel_rfl
theorem m82 : GL.fnMt Try.prog fid eqs Try.f82 GL.g529 = true := by kernel_rfl
theorem m83 : GL.fnMt Try.prog fid eqs Try.f83 GL.g92 = true := by kernel_rfl
theorem m84 : GL.fnMt Try.prog fid eqs Try.f84 GL.g525 = true := by kernel_rfl
theorem m85 : GL.fnMt Try.prog fid eqs Try.f85 GL.g526 = true := by kernel_rfl
theorem m86 : GL.fnMt Try.prog fid eqs Try.f86 GL.g522 = true := by kernel_rfl
theorem m87 : GL.fnMt Try.prog fid eqs Try.f87 GL.g527 = true := by kernel_rfl
theorem m88 : GL.fnMt Try.prog fid eqs Try.f88 GL.g318 = true := by kernel_rfl
theorem m89 : GL.fnMt Try.prog fid eqs Try.f89 GL.g530 = true := by kernel_rfl
theorem m90 : GL.fnMt Try.prog fid eqs Try.f90 GL.g531 = true := by kernel_rfl
theorem m91 : GL.fnMt Try.prog fid eqs Try.f91 GL.g538 = true := by kernel_rfl
theorem m92 : GL.fnMt Try.prog fid eqs Try.f92 GL.g335 = true := by kernel_rfl
theorem m93 : GL.fnMt Try.prog fid eqs Try.f93 GL.g532 = true := by kernel_rfl
theorem m94 : GL.fnMt Try.prog fid eqs Try.f94 GL.g541 = true := by kernel_rfl
theorem m95 : GL.fnMt Try.prog fid eqs Try.f95 GL.g321 = true := by kernel_rfl
theorem m96 : GL.fnMt Try.prog fid eqs Try.f96 GL.g533 = true := by kernel_rfl
theorem m97 : GL.fnMt Try.prog fid eqs Try.f97 GL.g94 = true := by kernel_rfl
theorem m98 : GL.fnMt Try.prog fid eqs Try.f98 GL.g302 = true := by kernel_rfl
theorem m99 : GL.fnMt Try.prog fid eqs Try.f99 GL.g534 = true := by kernel_rfl
theorem m100 : GL.fnMt Try.prog fid eqs Try.f100 GL.g385 = true := by kernel_rfl
theorem m101 : GL.fnMt Try.prog fid eqs Try.f101 GL.g535 = true := by kernel_rfl
theorem m102 : GL.fnMt Try.prog fid eqs Try.f102 GL.g301 = true := by kernel_rfl
theorem m103 : GL.fnMt Try.prog fid eqs Try.f103 GL.g518 = true := by kernel_rfl
theorem m104 : GL.fnMt Try.prog fid eqs Try.f104 GL.g91 = true := by kernel_rfl
theorem m105 : GL.fnMt Try.prog fid eqs Try.f105 GL.g536 = true := by kernel_rfl
theorem m106 : GL.fnMt Try.prog fid eqs Try.f106 GL.g537 = true := by kernel_rfl
theorem m108 : GL.fnMt Try.prog fid eqs Try.f108 GL.g567 = true := by kernel_rfl
theorem m113 : GL.fnMt Try.prog fid eqs Try.f113 GL.g410 = true := by kernel_rfl
theorem m119 : GL.fnMt Try.prog fid eqs Try.f119 GL.g107 = true := by kernel_rfl
theorem m124 : GL.fnMt Try.prog fid eqs Try.f124 GL.g390 = true := by kernel_rfl
theorem m132 : GL.fnMt Try.prog fid eqs Try.f132 GL.g412 = true := by kernel_rfl
theorem m166 : GL.fnMt Try.prog fid eqs Try.f166 GL.g98 = true := by kernel_rfl
theorem m189 : GL.fnMt Try.prog fid eqs Try.f189 GL.g93 = true := by kernel_rfl
theorem m190 : GL.fnMt Try.prog fid eqs Try.f190 GL.g568 = true := by kernel_rfl
theorem m191 : GL.fnMt Try.prog fid eqs Try.f191 GL.g314 = true := by kernel_rfl
theorem m192 : GL.fnMt Try.prog fid eqs Try.f192 GL.g322 = true := by kernel_rfl
theorem m193 : GL.fnMt Try.prog fid eqs Try.f193 GL.g519 = true := by kernel_rfl
theorem m194 : GL.fnMt Try.prog fid eqs Try.f194 GL.g337 = true := by kernel_rfl
theorem m195 : GL.fnMt Try.prog fid eqs Try.f195 GL.g333 = true := by kernel_rfl
theorem m196 : GL.fnMt Try.prog fid eqs Try.f196 GL.g516 = true := by kernel_rfl
theorem m197 : GL.fnMt Try.prog fid eqs Try.f197 GL.g569 = true := by kernel_rfl
theorem m198 : GL.fnMt Try.prog fid eqs Try.f198 GL.g395 = true := by kernel_rfl
theorem m201 : GL.fnMt Try.prog fid eqs Try.f201 GL.g140 = true := by kernel_rfl
theorem m205 : GL.fnMt Try.prog fid eqs Try.f205 GL.g429 = true := by kernel_rfl
theorem m217 : GL.fnMt Try.prog fid eqs Try.f217 GL.g430 = true := by kernel_rfl
theorem m236 : GL.fnMt Try.prog fid eqs Try.f236 GL.g436 = true := by kernel_rfl
theorem valF : GL.CallOK Try.prog fid fun g args h => if g = 406 then GL.valuesE args h else none := GL.valuesE_ok ⟨_, Try.func200, by kernel_rfl, by kernel_rfl⟩ (fun a len cap w => Try.valuesC a len cap w)
theorem srtF : GL.CallOK Try.prog fid fun g args h => if g = 407 then GL.sortedE args h else none := GL.sortedE_ok ⟨_, Try.func199, by kernel_rfl, by kernel_rfl⟩ (fun Bs Bo sv zs w hl hBs hc hI => Try.sortedVals Bs Bo sv zs (by unfold maxLen; omega) (by omega) w hBs hc hI)
theorem sorF : GL.CallOK Try.prog fid fun g args h => if g = 340 then GL.sortE args h else none := GL.sortE_ok ⟨_, Try.func211, by kernel_rfl, by kernel_rfl⟩ (fun blk off cap ss W hH hb hs => Go.Proofs.AnyM.slices_Sort_int Try.sortA blk off cap ss W hH hb hs) (fun p cap W => Go.Proofs.AnyM.slices_Sort_int_none Try.sortA p cap W)
theorem extOK : ∀ f e, GL.p.ext f = some e → GL.CallOK Try.prog fid fun g args h => if g = f then e args h else none := fun f e h => by
  have h : (bif Nat.beq f 407 then some GL.sortedE else bif Nat.beq f 406 then some GL.valuesE else bif Nat.beq f 340 then some GL.sortE else none) = some e := h
  rcases GL.bif_some h with ⟨rfl, h⟩ | ⟨_, h⟩
  · cases h; exact srtF
  rcases GL.bif_some h with ⟨rfl, h⟩ | ⟨_, h⟩
  · cases h; exact valF
  rcases GL.bif_some h with ⟨rfl, h⟩ | ⟨_, h⟩
  · cases h; exact sorF
  cases h
theorem allOK : GL.AllOK Try.prog fid eqs GL.fnL :=
  .cons Try.func3 rfl m3 (
  .cons Try.func10 rfl m10 (
  .cons Try.func11 rfl m11 (
  .cons Try.func12 rfl m12 (
  .cons Try.func13 rfl m13 (
  .cons Try.func14 rfl m14 (
  .cons Try.func15 rfl m15 (
  .cons Try.func16 rfl m16 (
  .cons Try.func17 rfl m17 (
  .cons Try.func18 rfl m18 (
  .cons Try.func19 rfl m19 (
  .cons Try.func20 rfl m20 (
  .cons Try.func21 rfl m21 (
  .cons Try.func22 rfl m22 (
  .cons Try.func23 rfl m23 (
  .cons Try.func24 rfl m24 (
  .cons Try.func81 rfl m81 (
  .cons Try.func82 rfl m82 (
  .cons Try.func83 rfl m83 (
  .cons Try.func84 rfl m84 (
  .cons Try.func85 rfl m85 (
  .cons Try.func86 rfl m86 (
  .cons Try.func87 rfl m87 (
  .cons Try.func88 rfl m88 (
  .cons Try.func89 rfl m89 (
  .cons Try.func90 rfl m90 (
  .cons Try.func91 rfl m91 (
  .cons Try.func92 rfl m92 (
  .cons Try.func93 rfl m93 (
  .cons Try.func94 rfl m94 (
  .cons Try.func95 rfl m95 (
  .cons Try.func96 rfl m96 (
  .cons Try.func97 rfl m97 (
  .cons Try.func98 rfl m98 (
  .cons Try.func99 rfl m99 (
  .cons Try.func100 rfl m100 (
  .cons Try.func101 rfl m101 (
  .cons Try.func102 rfl m102 (
  .cons Try.func103 rfl m103 (
  .cons Try.func104 rfl m104 (
  .cons Try.func105 rfl m105 (
  .cons Try.func106 rfl m106 (
  .cons Try.func108 rfl m108 (
  .cons Try.func113 rfl m113 (
  .cons Try.func119 rfl m119 (
  .cons Try.func124 rfl m124 (
  .cons Try.func132 rfl m132 (
  .cons Try.func166 rfl m166 (
  .cons Try.func189 rfl m189 (
  .cons Try.func190 rfl m190 (
  .cons Try.func191 rfl m191 (
  .cons Try.func192 rfl m192 (
  .cons Try.func193 rfl m193 (
  .cons Try.func194 rfl m194 (
  .cons Try.func195 rfl m195 (
  .cons Try.func196 rfl m196 (
  .cons Try.func197 rfl m197 (
  .cons Try.func198 rfl m198 (
  .cons Try.func201 rfl m201 (
  .cons Try.func205 rfl m205 (
  .cons Try.func217 rfl m217 (
  .cons Try.func236 rfl m236 (.nil))))))))))))))))))))))))))))))))))))))))))))))))))))))))))))))
theorem progOK : GL.ProgOK Try.prog fid eqs GL.p :=
  ⟨by kernel_rfl, (GL.eqs_sound (by kernel_rfl)), allOK.fn, extOK⟩
theorem walk (a0 : Option Addr) (len0 cap0 : Nat) (z0 : List Int) (a1 : Option Addr) (len1 cap1 : Nat) (z1 : List Int) (w : World) (w0 : IsRow .u8 w a0 len0 cap0 z0) (w1 : IsRow .u8 w a1 len1 cap1 z1) :
    Calls Try.prog 3 #[.slice a0 len0 cap0, .slice a1 len1 cap1] w fun e w' => e = .returned (.bool true) ∧ Below w.heap.size w w' :=
  GL.calls2 progOK (f := 460) (fun _ _ _ _ _ ha hb => GL.FnDeps_ok ha hb) w0 w1

/-! ### THE ROW's STEP: WRITTEN OUT: LEAVE IT -/
set_option maxRecDepth 100000 in
theorem lifted (os : Os) (started : os.Started) (H : Type) (enc : TypeId × Value → H) :
    ReturnsInHanded {} Try.checked os 3 .any (Rows.fnDepsSpec.pre6 enc Try.prog Try.f3 Rows.fnDepsRow.domain false) (Rows.fnDepsSpec.post enc Try.prog Try.f3 false true false false) := by
  refine returnsInHanded_of_change (C := Try.checked) own started (by kernel_rfl) Try.func3
    (ChangeSpec.witness6 (enc := enc) (C := Try.checked) false ⟨#[], #[.slice none 0 0, .slice none 0 0], []⟩ 8 (by kernel_rfl) (by kernel_rfl) (by kernel_rfl) (by kernel_rfl)) ?_
  intro W base args ds gs before hval0 hW hcnd _
  have hval : ∀ (j : Nat) t v, Try.f3.params[j]? = some t → args[j]? = some v → Value.okWide Try.prog W .any base t v := hval0
  have hW' := hW
  obtain ⟨p, q, hA0, hV, rfl, hfz, hnd⟩ := hW
  have hA : DataW.TrodAll enc Try.prog W 0 (fun _ => true) true Try.f3.params.toList args.toList ds p := hA0
  rw [Try.params3] at hA hval
  obtain ⟨v0, vs0, d0, ds0, p0, q0, hargs, rfl, rfl, h0, r0⟩ := trodAll_cons hA
  obtain ⟨v1, vs1, d1, ds1, p1, q1, rfl, rfl, rfl, h1, r1⟩ := trodAll_cons r0
  obtain ⟨rfl, rfl, rfl⟩ := trodAll_nil r1
  obtain rfl : args = #[v0, v1] := by cases args; simp_all
  obtain ⟨rfl, rfl⟩ := trodVars_none hV
  obtain ⟨a0, len0, cap0, rfl⟩ := okWide_slice Try.underlying22 (hval 0 22 v0 rfl rfl)
  have k0 := h0
  have lt0 : ∀ x ∈ p0, x.block < W.heap.size := by obtain ⟨m, hm⟩ := k0; exact DataW.trod_lt m _ _ _ hm
  obtain ⟨z0, w0⟩ : ∃ zs, IsRow .u8 W a0 len0 cap0 zs := by
    obtain ⟨fuel, hf⟩ := h0
    rcases open_ints Try.underlying22 Try.underlying5 (by kernel_rfl) hf with ⟨hcs, _⟩ | ⟨x, l, c, zs, hcs, _, hl, hm, hz, _, hcell, hwz⟩
    · simp [Value.cells] at hcs
      obtain ⟨rfl, rfl, rfl⟩ := hcs
      exact ⟨[], .inl ⟨rfl, rfl, rfl, rfl⟩⟩
    · simp [Value.cells] at hcs
      obtain ⟨rfl, rfl, rfl⟩ := hcs
      exact ⟨zs, .inr ⟨_, rfl, hl, hm, by simpa using hz, hcell, hwz⟩⟩
  obtain ⟨a1, len1, cap1, rfl⟩ := okWide_slice Try.underlying22 (hval 1 22 v1 rfl rfl)
  have k1 := h1
  have lt1 : ∀ x ∈ p1, x.block < W.heap.size := by obtain ⟨m, hm⟩ := k1; exact DataW.trod_lt m _ _ _ hm
  obtain ⟨z1, w1⟩ : ∃ zs, IsRow .u8 W a1 len1 cap1 zs := by
    obtain ⟨fuel, hf⟩ := h1
    rcases open_ints Try.underlying22 Try.underlying5 (by kernel_rfl) hf with ⟨hcs, _⟩ | ⟨x, l, c, zs, hcs, _, hl, hm, hz, _, hcell, hwz⟩
    · simp [Value.cells] at hcs
      obtain ⟨rfl, rfl, rfl⟩ := hcs
      exact ⟨[], .inl ⟨rfl, rfl, rfl, rfl⟩⟩
    · simp [Value.cells] at hcs
      obtain ⟨rfl, rfl, rfl⟩ := hcs
      exact ⟨zs, .inr ⟨_, rfl, hl, hm, by simpa using hz, hcell, hwz⟩⟩
  clear hA0 hval0
  refine (walk a0 len0 cap0 z0 a1 len1 cap1 z1 W w0 w1).mono fun e W' ⟨he, bel⟩ => ?_
  subst he
  exact ⟨_, rfl, _, _, _, [], _, [], hW', trodAll_mk1 (shut_bool Try.underlying4 _), (trodAll_cons_mk (Below.trod laidOut (by kernel_rfl) (of_decide_eq_true (by kernel_rfl)) k0 bel lt0) (trodAll_cons_mk (Below.trod laidOut (by kernel_rfl) (of_decide_eq_true (by kernel_rfl)) k1 bel lt1) trodAll_mk0)), rfl, bel.frame _, fun h => by cases h⟩

theorem over : Rows.fnDepsRow.holds Try.pinned (OpenSpec.ofChange Rows.fnDepsSpec) :=
  OpenClaim.holds_of_wide 3 Try.f3 rfl rfl rfl rfl rfl rfl rfl ⟨rfl, rfl, rfl, rfl, rfl⟩ rfl rfl rfl rfl rfl (by kernel_rfl) Try.func3 (by kernel_rfl)
    (of_decide_eq_true (by kernel_rfl)) (by unfold Func.isWrapper; first | (rw [if_pos (by decide +kernel)]; kernel_rfl) | (rw [if_neg (by decide +kernel)]; exact ⟨rfl, rfl⟩))
    (fun os started H enc _ => lifted os started H enc)

/-- ████ THE STATEMENT ████ -/
theorem proved : Rows.FnDepsSaid := over
#print axioms proved
end Go.Proofs.Ytmgbbehacaldlaa.fnDeps
