import Derived.Test.YtmgbbehacaldlaaRows
import Derived.WalkKit
import Derived.ProofKit
import Derived.OpenShut
import Derived.ShutString
import Derived.ChangeOld
import Derived.Below
import Derived.Test.YtmgbbehacaldlaaLs
import Derived.Test.YtmgbbehacaldlaaGuFnRuns
/- The law 'FnRuns' holds: its row, from the machine's run. -/
set_option linter.unusedSimpArgs false
set_option linter.unusedVariables false
set_option linter.unnecessarySimpa false
namespace Go.Proofs.Ytmgbbehacaldlaa.fnRuns
open Go.ChangeShapes Go.WideShapes Go.ChangeAt Go.RowKit
open Go.ChangeMaps (open_string shut_string)
set_option linter.unusedVariables false

theorem own : ownKnob Try.prog.godebug = none := by kernel_rfl
theorem laidOut : laidOutB Try.prog = true := by kernel_rfl

/-- WHAT THE WALK IS TOLD OF A SLICE OF INTEGERS THAT CAME IN: it is nil; or it leads to a row of 'cap' cells, the numbers 'zs' (the first 'len' are its elements, the rest its spare room), each fitting its kind. -/
def IsRow (k : IntKind) (w : World) (a : Option Addr) (len cap : Nat) (zs : List Int) : Prop :=
  (a = none ∧ len = 0 ∧ cap = 0 ∧ zs = []) ∨
  ∃ x, a = some x ∧ len ≤ cap ∧ cap ≤ maxLen ∧ zs.length = cap ∧ (∀ i, i < zs.length → w.cell? (x.add i) = some (.int k (zs.getD i 0))) ∧ ∀ n ∈ zs, (Lit.int k n).wf = true

def fidL : List (Nat × Nat) := [(577, 5), (383, 13), (24, 18), (204, 19), (578, 35), (579, 36), (580, 37), (581, 38), (31, 39), (582, 40), (583, 41), (584, 42), (92, 83), (91, 104), (410, 113), (107, 119), (304, 121), (594, 126), (595, 127), (596, 128), (597, 129), (599, 130), (598, 131), (412, 132), (600, 133), (601, 134), (602, 135), (603, 136), (98, 166), (93, 189), (140, 201), (429, 205), (389, 209), (340, 211), (391, 212), (607, 214), (608, 215), (609, 216), (430, 217), (436, 236)]
def fid : Nat → FuncId := fun i => (fidL.lookup i).getD 0
def eqs : List (TypeId × List (Option IntKind)) := []
theorem m5 : GL.fnMt Try.prog fid eqs Try.f5 GL.g577 = true := by kernel_rfl
theorem m13 : GL.fnMt Try.prog fid eqs Try.f13 GL.g383 = true := by kernel_rfl
theorem m18 : GL.fnMt Try.prog fid eqs Try.f18 GL.g24 = true := by kernel_rfl
theorem m19 : GL.fnMt Try.prog fid eqs Try.f19 GL.g204 = true := by kernel_rfl
theorem m35 : GL.fnMt Try.prog fid eqs Try.f35 GL.g578 = true := by kernel_rfl
theorem m36 : GL.fnMt Try.prog fid eqs Try.f36 GL.g579 = true := by kernel_rfl
theorem m37 : GL.fnMt Try.prog fid eqs Try.f37 GL.g580 = true := by kernel_rfl
theorem m38 : GL.fnMt Try.prog fid eqs Try.f38 GL.g581 = true := by kernel_rfl
theorem m39 : GL.fnMt Try.prog fid eqs Try.f39 GL.g31 = true := by kernel_rfl
theorem m40 : GL.fnMt Try.prog fid eqs Try.f40 GL.g582 = true := by kernel_rfl
theorem m41 : GL.fnMt Try.prog fid eqs Try.f41 GL.g583 = true := by kernel_rfl
theorem m42 : GL.fnMt Try.prog fid eqs Try.f42 GL.g584 = true := by kernel_rfl
theorem m83 : GL.fnMt Try.prog fid eqs Try.f83 GL.g92 = true := by kernel_rfl
theorem m104 : GL.fnMt Try.prog fid eqs Try.f104 GL.g91 = true := by kernel_rfl
theorem m113 : GL.fnMt Try.prog fid eqs Try.f113 GL.g410 = true := by kernel_rfl
theorem m119 : GL.fnMt Try.prog fid eqs Try.f119 GL.g107 = true := by kernel_rfl
theorem m121 : GL.fnMt Try.prog fid eqs Try.f121 GL.g304 = true := by kernel_rfl
theorem m126 : GL.fnMt Try.prog fid eqs Try.f126 GL.g594 = true := by kernel_rfl
theorem m127 : GL.fnMt Try.prog fid eqs Try.f127 GL.g595 = true := by kernel_rfl
theorem m128 : GL.fnMt Try.prog fid eqs Try.f128 GL.g596 = true := by kernel_rfl
theorem m129 : GL.fnMt Try.prog fid eqs Try.f129 GL.g597 = true := by kernel_rfl
theorem m130 : GL.fnMt Try.prog fid eqs Try.f130 GL.g599 = true := by kernel_rfl
theorem m131 : GL.fnMt Try.prog fid eqs Try.f131 GL.g598 = true := by kernel_rfl
theorem m132 : GL.fnMt Try.prog fid eqs Try.f132 GL.g412 = true := by kernel_rfl
theorem m133 : GL.fnMt Try.prog fid eqs Try.f133 GL.g600 = true := by kernel_rfl
theorem m134 : GL.fnMt Try.prog fid eqs Try.f134 GL.g601 = true := by kernel_rfl
theorem m135 : GL.fnMt Try.prog fid eqs Try.f135 GL.g602 = true := by kernel_rfl
theorem m136 : GL.fnMt Try.prog fid eqs Try.f136 GL.g603 = true := by kernel_rfl
theorem m166 : GL.fnMt Try.prog fid eqs Try.f166 GL.g98 = true := by kernel_rfl
theorem m189 : GL.fnMt Try.prog fid eqs Try.f189 GL.g93 = true := by kernel_rfl
theorem m201 : GL.fnMt Try.prog fid eqs Try.f201 GL.g140 = true := by kernel_rfl
theorem m205 : GL.fnMt Try.prog fid eqs Try.f205 GL.g429 = true := by kernel_rfl
theorem m209 : GL.fnMt Try.prog fid eqs Try.f209 GL.g389 = true := by kernel_rfl
theorem m212 : GL.fnMt Try.prog fid eqs Try.f212 GL.g391 = true := by kernel_rfl
theorem m214 : GL.fnMt Try.prog fid eqs Try.f214 GL.g607 = true := by kernel_rfl
theorem m215 : GL.fnMt Try.prog fid eqs Try.f215 GL.g608 = true := by kernel_rfl
theorem m216 : GL.fnMt Try.prog fid eqs Try.f216 GL.g609 = true := by kernel_rfl
theorem m217 : GL.fnMt Try.prog fid eqs Try.f217 GL.g430 = true := by kernel_rfl
theorem m236 : GL.fnMt Try.prog fid eqs Try.f236 GL.g436 = true := by kernel_rfl
theorem sorF : GL.CallOK Try.prog fid fun g args h => if g = 340 then GL.sortE args h else none := GL.sortE_ok ⟨_, Try.func211, by kernel_rfl, by kernel_rfl⟩ (fun blk off cap ss W hH hb hs => Go.Proofs.AnyM.slices_Sort_int Try.sortA blk off cap ss W hH hb hs) (fun p cap W => Go.Proofs.AnyM.slices_Sort_int_none Try.sortA p cap W)
theorem extOK : ∀ f e, GL.p.ext f = some e → GL.CallOK Try.prog fid fun g args h => if g = f then e args h else none := fun f e h => by
  have h : (bif Nat.beq f 340 then some GL.sortE else none) = some e := h
  rcases GL.bif_some h with ⟨rfl, h⟩ | ⟨_, h⟩
  · cases h; exact sorF
  cases h
theorem allOK : GL.AllOK Try.prog fid eqs GL.fnL :=
  .cons Try.func5 rfl m5 (
  .cons Try.func13 rfl m13 (
  .cons Try.func18 rfl m18 (
  .cons Try.func19 rfl m19 (
  .cons Try.func35 rfl m35 (
  .cons Try.func36 rfl m36 (
  .cons Try.func37 rfl m37 (
  .cons Try.func38 rfl m38 (
  .cons Try.func39 rfl m39 (
  .cons Try.func40 rfl m40 (
  .cons Try.func41 rfl m41 (
  .cons Try.func42 rfl m42 (
  .cons Try.func83 rfl m83 (
  .cons Try.func104 rfl m104 (
  .cons Try.func113 rfl m113 (
  .cons Try.func119 rfl m119 (
  .cons Try.func121 rfl m121 (
  .cons Try.func126 rfl m126 (
  .cons Try.func127 rfl m127 (
  .cons Try.func128 rfl m128 (
  .cons Try.func129 rfl m129 (
  .cons Try.func130 rfl m130 (
  .cons Try.func131 rfl m131 (
  .cons Try.func132 rfl m132 (
  .cons Try.func133 rfl m133 (
  .cons Try.func134 rfl m134 (
  .cons Try.func135 rfl m135 (
  .cons Try.func136 rfl m136 (
  .cons Try.func166 rfl m166 (
  .cons Try.func189 rfl m189 (
  .cons Try.func201 rfl m201 (
  .cons Try.func205 rfl m205 (
  .cons Try.func209 rfl m209 (
  .cons Try.func212 rfl m212 (
  .cons Try.func214 rfl m214 (
  .cons Try.func215 rfl m215 (
  .cons Try.func216 rfl m216 (
  .cons Try.func217 rfl m217 (
  .cons Try.func236 rfl m236 (.nil)))))))))))))))))))))))))))))))))))))))
theorem progOK : GL.ProgOK Try.prog fid eqs GL.p :=
  ⟨by kernel_rfl, (GL.eqs_sound (by kernel_rfl)), allOK.fn, extOK⟩
theorem walk (a0 : Option Addr) (len0 cap0 : Nat) (z0 : List Int) (a1 : Option Addr) (len1 cap1 : Nat) (z1 : List Int) (w : World) (w0 : IsRow .u8 w a0 len0 cap0 z0) (w1 : IsRow .u8 w a1 len1 cap1 z1) :
    Calls Try.prog 5 #[.slice a0 len0 cap0, .slice a1 len1 cap1] w fun e w' => e = .returned (.bool true) ∧ Below w.heap.size w w' :=
  GL.calls2 progOK (f := 577) (fun _ _ _ _ _ ha hb => GL.FnRuns_ok ha hb) w0 w1

/-! ### THE ROW's STEP: WRITTEN OUT: LEAVE IT -/
set_option maxRecDepth 100000 in
theorem lifted (os : Os) (started : os.Started) (H : Type) (enc : TypeId × Value → H) :
    ReturnsInHanded {} Try.checked os 5 .any (Rows.fnRunsSpec.pre6 enc Try.prog Try.f5 Rows.fnRunsRow.domain false) (Rows.fnRunsSpec.post enc Try.prog Try.f5 false true false false) := by
  refine returnsInHanded_of_change (C := Try.checked) own started (by kernel_rfl) Try.func5
    (ChangeSpec.witness6 (enc := enc) (C := Try.checked) false ⟨#[], #[.slice none 0 0, .slice none 0 0], []⟩ 8 (by kernel_rfl) (by kernel_rfl) (by kernel_rfl) (by kernel_rfl)) ?_
  intro W base args ds gs before hval0 hW hcnd _
  have hval : ∀ (j : Nat) t v, Try.f5.params[j]? = some t → args[j]? = some v → Value.okWide Try.prog W .any base t v := hval0
  have hW' := hW
  obtain ⟨p, q, hA0, hV, rfl, hfz, hnd⟩ := hW
  have hA : DataW.TrodAll enc Try.prog W 0 (fun _ => true) true Try.f5.params.toList args.toList ds p := hA0
  rw [Try.params5] at hA hval
  obtain ⟨v0, vs0, d0, ds0, p0, q0, hargs, rfl, rfl, h0, r0⟩ := trodAll_cons hA
  obtain ⟨v1, vs1, d1, ds1, p1, q1, rfl, rfl, rfl, h1, r1⟩ := trodAll_cons r0
  obtain ⟨rfl, rfl, rfl⟩ := trodAll_nil r1
  obtain rfl : args = #[v0, v1] := by cases args; simp_all
  obtain ⟨rfl, rfl⟩ := trodVars_none hV
  obtain ⟨a0, len0, cap0, rfl⟩ := okWide_slice Try.underlying22 (hval 0 22 v0 rfl rfl)
  have k0 := h0
  have lt0 : ∀ x ∈ p0, x.block < W.heap.size := by obtain ⟨m, hm⟩ := k0; exact DataW.trod_lt m _ _ _ hm
  obtain ⟨z0, w0⟩ : ∃ zs, IsRow .u8 W a0 len0 cap0 zs := by
    obtain ⟨fuel, hf⟩ := h0
    rcases open_ints Try.underlying22 Try.underlying5 (by kernel_rfl) hf with ⟨hcs, _⟩ | ⟨x, l, c, zs, hcs, _, hl, hm, hz, _, hcell, hwz⟩
    · simp [Value.cells] at hcs
      obtain ⟨rfl, rfl, rfl⟩ := hcs
      exact ⟨[], .inl ⟨rfl, rfl, rfl, rfl⟩⟩
    · simp [Value.cells] at hcs
      obtain ⟨rfl, rfl, rfl⟩ := hcs
      exact ⟨zs, .inr ⟨_, rfl, hl, hm, by simpa using hz, hcell, hwz⟩⟩
  obtain ⟨a1, len1, cap1, rfl⟩ := okWide_slice Try.underlying22 (hval 1 22 v1 rfl rfl)
  have k1 := h1
  have lt1 : ∀ x ∈ p1, x.block < W.heap.size := by obtain ⟨m, hm⟩ := k1; exact DataW.trod_lt m _ _ _ hm
  obtain ⟨z1, w1⟩ : ∃ zs, IsRow .u8 W a1 len1 cap1 zs := by
    obtain ⟨fuel, hf⟩ := h1
    rcases open_ints Try.underlying22 Try.underlying5 (by kernel_rfl) hf with ⟨hcs, _⟩ | ⟨x, l, c, zs, hcs, _, hl, hm, hz, _, hcell, hwz⟩
    · simp [Value.cells] at hcs
      obtain ⟨rfl, rfl, rfl⟩ := hcs
      exact ⟨[], .inl ⟨rfl, rfl, rfl, rfl⟩⟩
    · simp [Value.cells] at hcs
      obtain ⟨rfl, rfl, rfl⟩ := hcs
      exact ⟨zs, .inr ⟨_, rfl, hl, hm, by simpa using hz, hcell, hwz⟩⟩
  clear hA0 hval0
  refine (walk a0 len0 cap0 z0 a1 len1 cap1 z1 W w0 w1).mono fun e W' ⟨he, bel⟩ => ?_
  subst he
  exact ⟨_, rfl, _, _, _, [], _, [], hW', trodAll_mk1 (shut_bool Try.underlying4 _), (trodAll_cons_mk (Below.trod laidOut (by kernel_rfl) (of_decide_eq_true (by kernel_rfl)) k0 bel lt0) (trodAll_cons_mk (Below.trod laidOut (by kernel_rfl) (of_decide_eq_true (by kernel_rfl)) k1 bel lt1) trodAll_mk0)), rfl, bel.frame _, fun h => by cases h⟩

theorem over : Rows.fnRunsRow.holds Try.pinned (OpenSpec.ofChange Rows.fnRunsSpec) :=
  OpenClaim.holds_of_wide 5 Try.f5 rfl rfl rfl rfl rfl rfl rfl ⟨rfl, rfl, rfl, rfl, rfl⟩ rfl rfl rfl rfl rfl (by kernel_rfl) Try.func5 (by kernel_rfl)
    (of_decide_eq_true (by kernel_rfl)) (by unfold Func.isWrapper; first | (rw [if_pos (by decide +kernel)]; kernel_rfl) | (rw [if_neg (by decide +kernel)]; exact ⟨rfl, rfl⟩))
    (fun os started H enc _ => lifted os started H enc)

/-- ████ THE STATEMENT ████ -/
theorem proved : Rows.FnRunsSaid := over
#print axioms proved
end Go.Proofs.Ytmgbbehacaldlaa.fnRuns
