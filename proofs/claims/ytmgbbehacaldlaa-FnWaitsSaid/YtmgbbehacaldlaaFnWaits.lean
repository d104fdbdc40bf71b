import Derived.Test.YtmgbbehacaldlaaRows
import Derived.WalkKit
import Derived.ProofKit
import Derived.OpenShut
import Derived.ShutString
import Derived.ChangeOld
import Derived.Below
import Derived.Test.YtmgbbehacaldlaaLs
import Derived.Test.YtmgbbehacaldlaaGuFnWaits
/- The law 'FnWaits' holds: its row, from the machine's run. -/
set_option linter.unusedSimpArgs false
set_option linter.unusedVariables false
set_option linter.unnecessarySimpa false
namespace Go.Proofs.Ytmgbbehacaldlaa.fnWaits
open Go.ChangeShapes Go.WideShapes Go.ChangeAt Go.RowKit
open Go.ChangeMaps (open_string shut_string)
set_option linter.unusedVariables false

theorem own : ownKnob Try.prog.godebug = none := by kernel_rfl
theorem laidOut : laidOutB Try.prog = true := by kernel_rfl

/-- WHAT THE WALK IS TOLD OF A SLICE OF INTEGERS THAT CAME IN: it is nil; or it leads to a row of 'cap' cells, the numbers 'zs' (the first 'len' are its elements, the rest its spare room), each fitting its kind. -/
def IsRow (k : IntKind) (w : World) (a : Option Addr) (len cap : Nat) (zs : List Int) : Prop :=
  (a = none ∧ len = 0 ∧ cap = 0 ∧ zs = []) ∨
  ∃ x, a = some x ∧ len ≤ cap ∧ cap ≤ maxLen ∧ zs.length = cap ∧ (∀ i, i < zs.length → w.cell? (x.add i) = some (.int k (zs.getD i 0))) ∧ ∀ n ∈ zs, (Lit.int k n).wf = true

def fidL : List (Nat × Nat) := [(280, 7), (383, 13), (24, 18), (204, 19), (275, 44), (276, 47), (281, 51), (282, 52), (283, 53), (284, 54), (285, 55), (286, 56), (287, 57), (288, 58), (289, 59), (92, 83), (94, 97), (302, 98), (385, 100), (301, 102), (91, 104), (410, 113), (107, 119), (304, 121), (390, 124), (412, 132), (368, 139), (370, 140), (369, 141), (372, 144), (373, 145), (377, 152), (378, 153), (379, 154), (380, 155), (381, 156), (382, 157), (384, 158), (386, 159), (336, 160), (387, 161), (98, 166), (405, 186), (337, 194), (140, 201), (429, 205), (397, 208), (389, 209), (340, 211), (391, 212), (430, 217), (408, 218), (409, 219), (411, 220), (414, 221), (413, 222), (415, 223), (396, 224), (428, 233), (436, 236), (435, 245)]
def fid : Nat → FuncId := fun i => (fidL.lookup i).getD 0
def eqs : List (TypeId × List (Option IntKind)) := []
theorem m7 : GL.fnMt Try.prog fid eqs Try.f7 GL.g280 = true := by kernel_rfl
theorem m13 : GL.fnMt Try.prog fid eqs Try.f13 GL.g383 = true := by kernel_rfl
theorem m18 : GL.fnMt Try.prog fid eqs Try.f18 GL.g24 = true := by kernel_rfl
theorem m19 : GL.fnMt Try.prog fid eqs Try.f19 GL.g204 = true := by kernel_rfl
theorem m44 : GL.fnMt Try.prog fid eqs Try.f44 GL.g275 = true := by kernel_rfl
theorem m47 : GL.fnMt Try.prog fid eqs Try.f47 GL.g276 = true := by kernel_rfl
theorem m51 : GL.fnMt Try.prog fid eqs Try.f51 GL.g281 = true := by kernel_rfl
theorem m52 : GL.fnMt Try.prog fid eqs Try.f52 GL.g282 = true := by kernel_rfl
theorem m53 : GL.fnMt Try.prog fid eqs Try.f53 GL.g283 = true := by kernel_rfl
theorem m54 : GL.fnMt Try.prog fid eqs Try.f54 GL.g284 = true := by kernel_rfl
theorem m55 : GL.fnMt Try.prog fid eqs Try.f55 GL.g285 = true := by kernel_rfl
theorem m56 : GL.fnMt Try.prog fid eqs Try.f56 GL.g286 = true := by kernel_rfl
theorem m57 : GL.fnMt Try.prog fid eqs Try.f57 GL.g287 = true := by kernel_rfl
theorem m58 : GL.fnMt Try.prog fid eqs Try.f58 GL.g288 = true := by kernel_rfl
theorem m59 : GL.fnMt Try.prog fid eqs Try.f59 GL.g289 = true := by kernel_rfl
theorem m83 : GL.fnMt Try.prog fid eqs Try.f83 GL.g92 = true := by kernel_rfl
theorem m97 : GL.fnMt Try.prog fid eqs Try.f97 GL.g94 = true := by kernel_rfl
theorem m98 : GL.fnMt Try.prog fid eqs Try.f98 GL.g302 = true := by kernel_rfl
theorem m100 : GL.fnMt Try.prog fid eqs Try.f100 GL.g385 = true := by kernel_rfl
theorem m102 : GL.fnMt Try.prog fid eqs Try.f102 GL.g301 = true := by kernel_rfl
theorem m104 : GL.fnMt Try.prog fid eqs Try.f104 GL.g91 = true := by kernel_rfl
theorem m113 : GL.fnMt Try.prog fid eqs Try.f113 GL.g410 = true := by kernel_rfl
theorem m119 : GL.fnMt Try.prog fid eqs Try.f119 GL.g107 = true := by kernel_rfl
theorem m121 : GL.fnMt Try.prog fid eqs Try.f121 GL.g304 = true := by kernel_rfl
theorem m124 : GL.fnMt Try.prog fid eqs Try.f124 GL.g390 = true := by kernel_rfl
theorem m132 : GL.fnMt Try.prog fid eqs Try.f132 GL.g412 = true := by kernel_rfl
theorem m139 : GL.fnMt Try.prog fid eqs Try.f139 GL.g368 = true := by kernel_rfl
theorem m140 : GL.fnMt Try.prog fid eqs Try.f140 GL.g370 = true := by kernel_rfl
theorem m141 : GL.fnMt Try.prog fid eqs Try.f141 GL.g369 = true := by kernel_rfl
theorem m144 : GL.fnMt Try.prog fid eqs Try.f144 GL.g372 = true := by kernel_rfl
theorem m145 : GL.fnMt Try.prog fid eqs Try.f145 GL.g373 = true := by kernel_rfl
theorem m152 : GL.fnMt Try.prog fid eqs Try.f152 GL.g377 = true := by kernel_rfl
theorem m153 : GL.fnMt Try.prog fid eqs Try.f153 GL.g378 = true := by kernel_rfl
theorem m154 : GL.fnMt Try.prog fid eqs Try.f154 GL.g379 = true := by kernel_rfl
theorem m155 : GL.fnMt Try.prog fid eqs Try.f155 GL.g380 = true := by kernel_rfl
theorem m156 : GL.fnMt Try.prog fid eqs Try.f156 GL.g381 = true := by kernel_rfl
theorem m157 : GL.fnMt Try.prog fid eqs Try.f157 GL.g382 = true := by kernel_rfl
theorem m158 : GL.fnMt Try.prog fid eqs Try.f158 GL.g384 = true := by kernel_rfl
theorem m159 : GL.fnMt Try.prog fid eqs Try.f159 GL.g386 = true := by kernel_rfl
theorem m160 : GL.fnMt Try.prog fid eqs Try.f160 GL.g336 = true := by kernel_rfl
theorem m161 : GL.fnMt Try.prog fid eqs Try.f161 GL.g387 = true := by kernel_rfl
theorem m166 : GL.fnMt Try.prog fid eqs Try.f166 GL.g98 = true := by kernel_rfl
theorem m186 : GL.fnMt Try.prog fid eqs Try.f186 GL.g405 = true := by kernel_rfl
theorem m194 : GL.fnMt Try.prog fid eqs Try.f194 GL.g337 = true := by kernel_rfl
theorem m201 : GL.fnMt Try.prog fid eqs Try.f201 GL.g140 = true := by kernel_rfl
theorem m205 : GL.fnMt Try.prog fid eqs Try.f205 GL.g429 = true := by kernel_rfl
theorem m208 : GL.fnMt Try.prog fid eqs Try.f208 GL.g397 = true := by kernel_rfl
theorem m209 : GL.fnMt Try.prog fid eqs Try.f209 GL.g389 = true := by kernel_rfl
theorem m212 : GL.fnMt Try.prog fid eqs Try.f212 GL.g391 = true := by kernel_rfl
theorem m217 : GL.fnMt Try.prog fid eqs Try.f217 GL.g430 = true := by kernel_rfl
theorem m218 : GL.fnMt Try.prog fid eqs Try.f218 GL.g408 = true := by kernel_rfl
theorem m219 : GL.fnMt Try.prog fid eqs Try.f219 GL.g409 = true := by kernel_rfl
theorem m220 : GL.fnMt Try.prog fid eqs Try.f220 GL.g411 = true := by kernel_rfl
theorem m221 : GL.fnMt Try.prog fid eqs Try.f221 GL.g414 = true := by kernel_rfl
theorem m222 : GL.fnMt Try.prog fid eqs Try.f222 GL.g413 = true := by kernel_rfl
theorem m223 : GL.fnMt Try.prog fid eqs Try.f223 GL.g415 = true := by kernel_rfl
theorem m224 : GL.fnMt Try.prog fid eqs Try.f224 GL.g396 = true := by kernel_rfl
theorem m233 : GL.fnMt Try.prog fid eqs Try.f233 GL.g428 = true := by kernel_rfl
theorem m236 : GL.fnMt Try.prog fid eqs Try.f236 GL.g436 = true := by kernel_rfl
theorem m245 : GL.fnMt Try.prog fid eqs Try.f245 GL.g435 = true := by kernel_rfl
theorem sorF : GL.CallOK Try.prog fid fun g args h => if g = 340 then GL.sortE args h else none := GL.sortE_ok ⟨_, Try.func211, by kernel_rfl, by kernel_rfl⟩ (fun blk off cap ss W hH hb hs => Go.Proofs.AnyM.slices_Sort_int Try.sortA blk off cap ss W hH hb hs) (fun p cap W => Go.Proofs.AnyM.slices_Sort_int_none Try.sortA p cap W)
theorem extOK : ∀ f e, GL.p.ext f = some e → GL.CallOK Try.prog fid fun g args h => if g = f then e args h else none := fun f e h => by
  have h : (bif Nat.beq f 340 then some GL.sortE else none) = some e := h
  rcases GL.bif_some h with ⟨rfl, h⟩ | ⟨_, h⟩
  · cases h; exact sorF
  cases h
theorem allOK : GL.AllOK Try.prog fid eqs GL.fnL :=
  .cons Try.func7 rfl m7 (
  .cons Try.func13 rfl m13 (
  .cons Try.func18 rfl m18 (
  .cons Try.func19 rfl m19 (
  .cons Try.func44 rfl m44 (
  .cons Try.func47 rfl m47 (
  .cons Try.func51 rfl m51 (
  .cons Try.func52 rfl m52 (
  .cons Try.func53 rfl m53 (
  .cons Try.func54 rfl m54 (
  .cons Try.func55 rfl m55 (
  .cons Try.func56 rfl m56 (
  .cons Try.func57 rfl m57 (
  .cons Try.func58 rfl m58 (
  .cons Try.func59 rfl m59 (
  .cons Try.func83 rfl m83 (
  .cons Try.func97 rfl m97 (
  .cons Try.func98 rfl m98 (
  .cons Try.func100 rfl m100 (
  .cons Try.func102 rfl m102 (
  .cons Try.func104 rfl m104 (
  .cons Try.func113 rfl m113 (
  .cons Try.func119 rfl m119 (
  .cons Try.func121 rfl m121 (
  .cons Try.func124 rfl m124 (
  .cons Try.func132 rfl m132 (
  .cons Try.func139 rfl m139 (
  .cons Try.func140 rfl m140 (
  .cons Try.func141 rfl m141 (
  .cons Try.func144 rfl m144 (
  .cons Try.func145 rfl m145 (
  .cons Try.func152 rfl m152 (
  .cons Try.func153 rfl m153 (
  .cons Try.func154 rfl m154 (
  .cons Try.func155 rfl m155 (
  .cons Try.func156 rfl m156 (
  .cons Try.func157 rfl m157 (
  .cons Try.func158 rfl m158 (
  .cons Try.func159 rfl m159 (
  .cons Try.func160 rfl m160 (
  .cons Try.func161 rfl m161 (
  .cons Try.func166 rfl m166 (
  .cons Try.func186 rfl m186 (
  .cons Try.func194 rfl m194 (
  .cons Try.func201 rfl m201 (
  .cons Try.func205 rfl m205 (
  .cons Try.func208 rfl m208 (
  .cons Try.func209 rfl m209 (
  .cons Try.func212 rfl m212 (
  .cons Try.func217 rfl m217 (
  .cons Try.func218 rfl m218 (
  .cons Try.func219 rfl m219 (
  .cons Try.func220 rfl m220 (
  .cons Try.func221 rfl m221 (
  .cons Try.func222 rfl m222 (
  .cons Try.func223 rfl m223 (
  .cons Try.func224 rfl m224 (
  .cons Try.func233 rfl m233 (
  .cons Try.func236 rfl m236 (
  .cons Try.func245 rfl m245 (.nil))))))))))))))))))))))))))))))))))))))))))))))))))))))))))))
theorem progOK : GL.ProgOK Try.prog fid eqs GL.p :=
  ⟨by kernel_rfl, (GL.eqs_sound (by kernel_rfl)), allOK.fn, extOK⟩
theorem walk (a0 : Option Addr) (len0 cap0 : Nat) (z0 : List Int) (a1 : Option Addr) (len1 cap1 : Nat) (z1 : List Int) (w : World) (w0 : IsRow .u8 w a0 len0 cap0 z0) (w1 : IsRow .u8 w a1 len1 cap1 z1) :
    Calls Try.prog 7 #[.slice a0 len0 cap0, .slice a1 len1 cap1] w fun e w' => e = .returned (.bool true) ∧ Below w.heap.size w w' :=
  GL.calls2 progOK (f := 280) (fun _ _ _ _ _ ha hb => GL.FnWaits_ok ha hb) w0 w1

/-! ### THE ROW's STEP: WRITTEN OUT: LEAVE IT -/
set_option maxRecDepth 100000 in
theorem lifted (os : Os) (started : os.Started) (H : Type) (enc : TypeId × Value → H) :
    ReturnsInHanded {} Try.checked os 7 .any (Rows.fnWaitsSpec.pre6 enc Try.prog Try.f7 Rows.fnWaitsRow.domain false) (Rows.fnWaitsSpec.post enc Try.prog Try.f7 false true false false) := by
  refine returnsInHanded_of_change (C := Try.checked) own started (by kernel_rfl) Try.func7
    (ChangeSpec.witness6 (enc := enc) (C := Try.checked) false ⟨#[], #[.slice none 0 0, .slice none 0 0], []⟩ 8 (by kernel_rfl) (by kernel_rfl) (by kernel_rfl) (by kernel_rfl)) ?_
  intro W base args ds gs before hval0 hW hcnd _
  have hval : ∀ (j : Nat) t v, Try.f7.params[j]? = some t → args[j]? = some v → Value.okWide Try.prog W .any base t v := hval0
  have hW' := hW
  obtain ⟨p, q, hA0, hV, rfl, hfz, hnd⟩ := hW
  have hA : DataW.TrodAll enc Try.prog W 0 (fun _ => true) true Try.f7.params.toList args.toList ds p := hA0
  rw [Try.params7] at hA hval
  obtain ⟨v0, vs0, d0, ds0, p0, q0, hargs, rfl, rfl, h0, r0⟩ := trodAll_cons hA
  obtain ⟨v1, vs1, d1, ds1, p1, q1, rfl, rfl, rfl, h1, r1⟩ := trodAll_cons r0
  obtain ⟨rfl, rfl, rfl⟩ := trodAll_nil r1
  obtain rfl : args = #[v0, v1] := by cases args; simp_all
  obtain ⟨rfl, rfl⟩ := trodVars_none hV
  obtain ⟨a0, len0, cap0, rfl⟩ := okWide_slice Try.underlying22 (hval 0 22 v0 rfl rfl)
  have k0 := h0
  have lt0 : ∀ x ∈ p0, x.block < W.heap.size := by obtain ⟨m, hm⟩ := k0; exact DataW.trod_lt m _ _ _ hm
  obtain ⟨z0, w0⟩ : ∃ zs, IsRow .u8 W a0 len0 cap0 zs := by
    obtain ⟨fuel, hf⟩ := h0
    rcases open_ints Try.underlying22 Try.underlying5 (by kernel_rfl) hf with ⟨hcs, _⟩ | ⟨x, l, c, zs, hcs, _, hl, hm, hz, _, hcell, hwz⟩
    · simp [Value.cells] at hcs
      obtain ⟨rfl, rfl, rfl⟩ := hcs
      exact ⟨[], .inl ⟨rfl, rfl, rfl, rfl⟩⟩
    · simp [Value.cells] at hcs
      obtain ⟨rfl, rfl, rfl⟩ := hcs
      exact ⟨zs, .inr ⟨_, rfl, hl, hm, by simpa using hz, hcell, hwz⟩⟩
  obtain ⟨a1, len1, cap1, rfl⟩ := okWide_slice Try.underlying22 (hval 1 22 v1 rfl rfl)
  have k1 := h1
  have lt1 : ∀ x ∈ p1, x.block < W.heap.size := by obtain ⟨m, hm⟩ := k1; exact DataW.trod_lt m _ _ _ hm
  obtain ⟨z1, w1⟩ : ∃ zs, IsRow .u8 W a1 len1 cap1 zs := by
    obtain ⟨fuel, hf⟩ := h1
    rcases open_ints Try.underlying22 Try.underlying5 (by kernel_rfl) hf with ⟨hcs, _⟩ | ⟨x, l, c, zs, hcs, _, hl, hm, hz, _, hcell, hwz⟩
    · simp [Value.cells] at hcs
      obtain ⟨rfl, rfl, rfl⟩ := hcs
      exact ⟨[], .inl ⟨rfl, rfl, rfl, rfl⟩⟩
    · simp [Value.cells] at hcs
      obtain ⟨rfl, rfl, rfl⟩ := hcs
      exact ⟨zs, .inr ⟨_, rfl, hl, hm, by simpa using hz, hcell, hwz⟩⟩
  clear hA0 hval0
  refine (walk a0 len0 cap0 z0 a1 len1 cap1 z1 W w0 w1).mono fun e W' ⟨he, bel⟩ => ?_
  subst he
  exact ⟨_, rfl, _, _, _, [], _, [], hW', trodAll_mk1 (shut_bool Try.underlying4 _), (trodAll_cons_mk (Below.trod laidOut (by kernel_rfl) (of_decide_eq_true (by kernel_rfl)) k0 bel lt0) (trodAll_cons_mk (Below.trod laidOut (by kernel_rfl) (of_decide_eq_true (by kernel_rfl)) k1 bel lt1) trodAll_mk0)), rfl, bel.frame _, fun h => by cases h⟩

theorem over : Rows.fnWaitsRow.holds Try.pinned (OpenSpec.ofChange Rows.fnWaitsSpec) :=
  OpenClaim.holds_of_wide 7 Try.f7 rfl rfl rfl rfl rfl rfl rfl ⟨rfl, rfl, rfl, rfl, rfl⟩ rfl rfl rfl rfl rfl (by kernel_rfl) Try.func7 (by kernel_rfl)
    (of_decide_eq_true (by kernel_rfl)) (by unfold Func.isWrapper; first | (rw [if_pos (by decide +kernel)]; kernel_rfl) | (rw [if_neg (by decide +kernel)]; exact ⟨rfl, rfl⟩))
    (fun os started H enc _ => lifted os started H enc)

/-- ████ THE STATEMENT ████ -/
theorem proved : Rows.FnWaitsSaid := over
#print axioms proved
end Go.Proofs.Ytmgbbehacaldlaa.fnWaits
