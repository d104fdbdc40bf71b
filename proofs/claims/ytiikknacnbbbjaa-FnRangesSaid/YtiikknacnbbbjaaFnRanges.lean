import Derived.Test.YtiikknacnbbbjaaRows
import Derived.WalkKit
import Derived.ProofKit
import Derived.OpenShut
import Derived.ShutString
import Derived.ChangeOld
import Derived.Below
import Derived.Test.YtiikknacnbbbjaaGuFnRanges
/- The law 'FnRanges' holds: its row, from the machine's run. -/
set_option linter.unusedSimpArgs false
set_option linter.unusedVariables false
namespace Go.Proofs.Ytiikknacnbbbjaa.fnRanges
open Go.ChangeShapes Go.WideShapes Go.ChangeAt Go.RowKit
open Go.ChangeMaps (open_string shut_string)
set_option linter.unusedVariables false

theorem own : ownKnob Try.prog.godebug = none := by kernel_rfl
theorem laidOut : laidOutB Try.prog = true := by kernel_rfl

/-- WHAT THE WALK IS TOLD OF A SLICE OF INTEGERS THAT CAME IN: it is nil; or it leads to a row of 'cap' cells, the numbers 'zs' (the first 'len' are its elements, the rest its spare room), each fitting its kind. -/
def IsRow (k : IntKind) (w : World) (a : Option Addr) (len cap : Nat) (zs : List Int) : Prop :=
  (a = none ∧ len = 0 ∧ cap = 0 ∧ zs = []) ∨
  ∃ x, a = some x ∧ len ≤ cap ∧ cap ≤ maxLen ∧ zs.length = cap ∧ (∀ i, i < zs.length → w.cell? (x.add i) = some (.int k (zs.getD i 0))) ∧ ∀ n ∈ zs, (Lit.int k n).wf = true

def fidL : List (Nat × Nat) := [(68, 10), (24, 32), (25, 33), (26, 34), (31, 38), (50, 54), (51, 56), (55, 58), (61, 64), (62, 65), (63, 66), (64, 67), (65, 68), (69, 71), (70, 72), (71, 73), (72, 74), (73, 75), (74, 76), (75, 77), (91, 92), (92, 93), (93, 94), (95, 96), (98, 99), (100, 101), (102, 103), (107, 108), (110, 111), (112, 112), (111, 113), (116, 117), (117, 118), (119, 120), (120, 121), (122, 123), (124, 125), (125, 126), (126, 127), (127, 128), (128, 129), (130, 131), (133, 132), (131, 133), (132, 134), (134, 135), (140, 141), (143, 144), (145, 146), (147, 148), (148, 149), (149, 150), (150, 151), (155, 157), (156, 158), (161, 162), (172, 173)]
def fid : Nat → FuncId := fun i => (fidL.lookup i).getD 0
def eqs : List (TypeId × List (Option IntKind)) := [(34, [none, some .i64])]
theorem m10 : GL.fnMt Try.prog fid eqs Try.f10 GL.g68 = true := by kernel_rfl
theorem m32 : GL.fnMt Try.prog fid eqs Try.f32 GL.g24 = true := by kernel_rfl
theorem m33 : GL.fnMt Try.prog fid eqs Try.f33 GL.g25 = true := by kernel_rfl
theorem m34 : GL.fnMt Try.prog fid eqs Try.f34 GL.g26 = true := by kernel_rfl
theorem m38 : GL.fnMt Try.prog fid eqs Try.f38 GL.g31 = true := by kernel_rfl
theorem m54 : GL.fnMt Try.prog fid eqs Try.f54 GL.g50 = true := by kernel_rfl
theorem m56 : GL.fnMt Try.prog fid eqs Try.f56 GL.g51 = true := by kernel_rfl
theorem m58 : GL.fnMt Try.prog fid eqs Try.f58 GL.g55 = true := by kernel_rfl
theorem m64 : GL.fnMt Try.prog fid eqs Try.f64 GL.g61 = true := by kernel_rfl
theorem m65 : GL.fnMt Try.prog fid eqs Try.f65 GL.g62 = true := by kernel_rfl
theorem m66 : GL.fnMt Try.prog fid eqs Try.f66 GL.g63 = true := by kernel_rfl
theorem m67 : GL.fnMt Try.prog fid eqs Try.f67 GL.g64 = true := by kernel_rfl
theorem m68 : GL.fnMt Try.prog fid eqs Try.f68 GL.g65 = true := by kernel_rfl
theorem m71 : GL.fnMt Try.prog fid eqs Try.f71 GL.g69 = true := by kernel_rfl
theorem m72 : GL.fnMt Try.prog fid eqs Try.f72 GL.g70 = true := by kernel_rfl
theorem m73 : GL.fnMt Try.prog fid eqs Try.f73 GL.g71 = true := by kernel_rfl
theorem m74 : GL.fnMt Try.prog fid eqs Try.f74 GL.g72 = true := by kernel_rfl
theorem m75 : GL.fnMt Try.prog fid eqs Try.f75 GL.g73 = true := by kernel_rfl
theorem m76 : GL.fnMt Try.prog fid eqs Try.f76 GL.g74 = true := by kernel_rfl
theorem m77 : GL.fnMt Try.prog fid eqs Try.f77 GL.g75 = true := by kernel_rfl
theorem m92 : GL.fnMt Try.prog fid eqs Try.f92 GL.g91 = true := by kernel_rfl
theorem m93 : GL.fnMt Try.prog fid eqs Try.f93 GL.g92 = true := by kernel_rfl
theorem m94 : GL.fnMt Try.prog fid eqs Try.f94 GL.g93 = true := by kernel_rfl
theorem m96 : GL.fnMt Try.prog fid eqs Try.f96 GL.g95 = true := by kernel_rfl
theorem m99 : GL.fnMt Try.prog fid eqs Try.f99 GL.g98 = true := by kernel_rfl
theorem m101 : GL.fnMt Try.prog fid eqs Try.f101 GL.g100 = true := by kernel_rfl
theorem m103 : GL.fnMt Try.prog fid eqs Try.f103 GL.g102 = true := by kernel_rfl
theorem m108 : GL.fnMt Try.prog fid eqs Try.f108 GL.g107 = true := by kernel_rfl
theorem m111 : GL.fnMt Try.prog fid eqs Try.f111 GL.g110 = true := by kernel_rfl
theorem m112 : GL.fnMt Try.prog fid eqs Try.f112 GL.g112 = true := by kernel_rfl
theorem m113 : GL.fnMt Try.prog fid eqs Try.f113 GL.g111 = true := by kernel_rfl
theorem m117 : GL.fnMt Try.prog fid eqs Try.f117 GL.g116 = true := by kernel_rfl
theorem m118 : GL.fnMt Try.prog fid eqs Try.f118 GL.g117 = true := by kernel_rfl
theorem m120 : GL.fnMt Try.prog fid eqs Try.f120 GL.g119 = true := by kernel_rfl
theorem m121 : GL.fnMt Try.prog fid eqs Try.f121 GL.g120 = true := by kernel_rfl
theorem m123 : GL.fnMt Try.prog fid eqs Try.f123 GL.g122 = true := by kernel_rfl
theorem m125 : GL.fnMt Try.prog fid eqs Try.f125 GL.g124 = true := by kernel_rfl
theorem m126 : GL.fnMt Try.prog fid eqs Try.f126 GL.g125 = true := by kernel_rfl
theorem m127 : GL.fnMt Try.prog fid eqs Try.f127 GL.g126 = true := by kernel_rfl
theorem m128 : GL.fnMt Try.prog fid eqs Try.f128 GL.g127 = true := by kernel_rfl
theorem m129 : GL.fnMt Try.prog fid eqs Try.f129 GL.g128 = true := by kernel_rfl
theorem m131 : GL.fnMt Try.prog fid eqs Try.f131 GL.g130 = true := by kernel_rfl
theorem m132 : GL.fnMt Try.prog fid eqs Try.f132 GL.g133 = true := by kernel_rfl
theorem m133 : GL.fnMt Try.prog fid eqs Try.f133 GL.g131 = true := by kernel_rfl
theorem m134 : GL.fnMt Try.prog fid eqs Try.f134 GL.g132 = true := by kernel_rfl
theorem m135 : GL.fnMt Try.prog fid eqs Try.f135 GL.g134 = true := by kernel_rfl
theorem m141 : GL.fnMt Try.prog fid eqs Try.f141 GL.g140 = true := by kernel_rfl
theorem m144 : GL.fnMt Try.prog fid eqs Try.f144 GL.g143 = true := by kernel_rfl
theorem m146 : GL.fnMt Try.prog fid eqs Try.f146 GL.g145 = true := by kernel_rfl
theorem m148 : GL.fnMt Try.prog fid eqs Try.f148 GL.g147 = true := by kernel_rfl
theorem m149 : GL.fnMt Try.prog fid eqs Try.f149 GL.g148 = true := by kernel_rfl
theorem m150 : GL.fnMt Try.prog fid eqs Try.f150 GL.g149 = true := by kernel_rfl
theorem m151 : GL.fnMt Try.prog fid eqs Try.f151 GL.g150 = true := by kernel_rfl
theorem m158 : GL.fnMt Try.prog fid eqs Try.f158 GL.g156 = true := by kernel_rfl
theorem m162 : GL.fnMt Try.prog fid eqs Try.f162 GL.g161 = true := by kernel_rfl
theorem m173 : GL.fnMt Try.prog fid eqs Try.f173 GL.g172 = true := by kernel_rfl
theorem allOK : GL.AllOK Try.prog fid eqs GL.fnL :=
  .cons Try.func10 rfl m10 (
  .cons Try.func32 rfl m32 (
  .cons Try.func33 rfl m33 (
  .cons Try.func34 rfl m34 (
  .cons Try.func38 rfl m38 (
  .cons Try.func54 rfl m54 (
  .cons Try.func56 rfl m56 (
  .cons Try.func58 rfl m58 (
  .cons Try.func64 rfl m64 (
  .cons Try.func65 rfl m65 (
  .cons Try.func66 rfl m66 (
  .cons Try.func67 rfl m67 (
  .cons Try.func68 rfl m68 (
  .cons Try.func71 rfl m71 (
  .cons Try.func72 rfl m72 (
  .cons Try.func73 rfl m73 (
  .cons Try.func74 rfl m74 (
  .cons Try.func75 rfl m75 (
  .cons Try.func76 rfl m76 (
  .cons Try.func77 rfl m77 (
  .cons Try.func92 rfl m92 (
  .cons Try.func93 rfl m93 (
  .cons Try.func94 rfl m94 (
  .cons Try.func96 rfl m96 (
  .cons Try.func99 rfl m99 (
  .cons Try.func101 rfl m101 (
  .cons Try.func103 rfl m103 (
  .cons Try.func108 rfl m108 (
  .cons Try.func111 rfl m111 (
  .cons Try.func112 rfl m112 (
  .cons Try.func113 rfl m113 (
  .cons Try.func117 rfl m117 (
  .cons Try.func118 rfl m118 (
  .cons Try.func120 rfl m120 (
  .cons Try.func121 rfl m121 (
  .cons Try.func123 rfl m123 (
  .cons Try.func125 rfl m125 (
  .cons Try.func126 rfl m126 (
  .cons Try.func127 rfl m127 (
  .cons Try.func128 rfl m128 (
  .cons Try.func129 rfl m129 (
  .cons Try.func131 rfl m131 (
  .cons Try.func132 rfl m132 (
  .cons Try.func133 rfl m133 (
  .cons Try.func134 rfl m134 (
  .cons Try.func135 rfl m135 (
  .cons Try.func141 rfl m141 (
  .cons Try.func144 rfl m144 (
  .cons Try.func146 rfl m146 (
  .cons Try.func148 rfl m148 (
  .cons Try.func149 rfl m149 (
  .cons Try.func150 rfl m150 (
  .cons Try.func151 rfl m151 (
  .cons Try.func158 rfl m158 (
  .cons Try.func162 rfl m162 (
  .cons Try.func173 rfl m173 (.nil))))))))))))))))))))))))))))))))))))))))))))))))))))))))
theorem progOK : GL.ProgOK Try.prog fid eqs GL.p :=
  ⟨by kernel_rfl, (GL.eqs_sound (by kernel_rfl)), allOK.fn, (fun f e h => by cases h)⟩
theorem walk (a0 : Option Addr) (len0 cap0 : Nat) (z0 : List Int) (a1 : Option Addr) (len1 cap1 : Nat) (z1 : List Int) (w : World) (w0 : IsRow .u8 w a0 len0 cap0 z0) (w1 : IsRow .u8 w a1 len1 cap1 z1) :
    Calls Try.prog 10 #[.slice a0 len0 cap0, .slice a1 len1 cap1] w fun e w' => e = .returned (.bool true) ∧ Below w.heap.size w w' :=
  GL.calls2 progOK (f := 68) (fun _ _ _ _ _ ha hb => GL.FnRanges_ok ha hb) w0 w1

/-! ### THE ROW's STEP: WRITTEN OUT: LEAVE IT -/
set_option maxRecDepth 100000 in
theorem lifted (os : Os) (started : os.Started) (H : Type) (enc : TypeId × Value → H) :
    ReturnsInHanded {} Try.checked os 10 .any (Rows.fnRangesSpec.pre6 enc Try.prog Try.f10 Rows.fnRangesRow.domain false) (Rows.fnRangesSpec.post enc Try.prog Try.f10 false true false false) := by
  refine returnsInHanded_of_change (C := Try.checked) own started (by kernel_rfl) Try.func10
    (ChangeSpec.witness6 (enc := enc) (C := Try.checked) false ⟨#[], #[.slice none 0 0, .slice none 0 0], []⟩ 8 (by kernel_rfl) (by kernel_rfl) (by kernel_rfl) (by kernel_rfl)) ?_
  intro W base args ds gs before hval0 hW hcnd _
  have hval : ∀ (j : Nat) t v, Try.f10.params[j]? = some t → args[j]? = some v → Value.okWide Try.prog W .any base t v := hval0
  have hW' := hW
  obtain ⟨p, q, hA0, hV, rfl, hfz, hnd⟩ := hW
  have hA : DataW.TrodAll enc Try.prog W 0 (fun _ => true) true Try.f10.params.toList args.toList ds p := hA0
  rw [Try.params10] at hA hval
  obtain ⟨v0, vs0, d0, ds0, p0, q0, hargs, rfl, rfl, h0, r0⟩ := trodAll_cons hA
  obtain ⟨v1, vs1, d1, ds1, p1, q1, rfl, rfl, rfl, h1, r1⟩ := trodAll_cons r0
  obtain ⟨rfl, rfl, rfl⟩ := trodAll_nil r1
  obtain rfl : args = #[v0, v1] := by cases args; simp_all
  obtain ⟨rfl, rfl⟩ := trodVars_none hV
  obtain ⟨a0, len0, cap0, rfl⟩ := okWide_slice Try.underlying22 (hval 0 22 v0 rfl rfl)
  have k0 := h0
  have lt0 : ∀ x ∈ p0, x.block < W.heap.size := by obtain ⟨m, hm⟩ := k0; exact DataW.trod_lt m _ _ _ hm
  obtain ⟨z0, w0⟩ : ∃ zs, IsRow .u8 W a0 len0 cap0 zs := by
    obtain ⟨fuel, hf⟩ := h0
    rcases open_ints Try.underlying22 Try.underlying5 (by kernel_rfl) hf with ⟨hcs, _⟩ | ⟨x, l, c, zs, hcs, _, hl, hm, hz, _, hcell, hwz⟩
    · simp [Value.cells] at hcs
      obtain ⟨rfl, rfl, rfl⟩ := hcs
      exact ⟨[], .inl ⟨rfl, rfl, rfl, rfl⟩⟩
    · simp [Value.cells] at hcs
      obtain ⟨rfl, rfl, rfl⟩ := hcs
      exact ⟨zs, .inr ⟨_, rfl, hl, hm, by simpa using hz, hcell, hwz⟩⟩
  obtain ⟨a1, len1, cap1, rfl⟩ := okWide_slice Try.underlying22 (hval 1 22 v1 rfl rfl)
  have k1 := h1
  have lt1 : ∀ x ∈ p1, x.block < W.heap.size := by obtain ⟨m, hm⟩ := k1; exact DataW.trod_lt m _ _ _ hm
  obtain ⟨z1, w1⟩ : ∃ zs, IsRow .u8 W a1 len1 cap1 zs := by
    obtain ⟨fuel, hf⟩ := h1
    rcases open_ints Try.underlying22 Try.underlying5 (by kernel_rfl) hf with ⟨hcs, _⟩ | ⟨x, l, c, zs, hcs, _, hl, hm, hz, _, hcell, hwz⟩
    · simp [Value.cells] at hcs
      obtain ⟨rfl, rfl, rfl⟩ := hcs
      exact ⟨[], .inl ⟨rfl, rfl, rfl, rfl⟩⟩
    · simp [Value.cells] at hcs
      obtain ⟨rfl, rfl, rfl⟩ := hcs
      exact ⟨zs, .inr ⟨_, rfl, hl, hm, by simpa using hz, hcell, hwz⟩⟩
  clear hA0 hval0
  refine (walk a0 len0 cap0 z0 a1 len1 cap1 z1 W w0 w1).mono fun e W' ⟨he, bel⟩ => ?_
  subst he
  exact ⟨_, rfl, _, _, _, [], _, [], hW', trodAll_mk1 (shut_bool Try.underlying4 _), (trodAll_cons_mk (Below.trod laidOut (by kernel_rfl) (of_decide_eq_true (by kernel_rfl)) k0 bel lt0) (trodAll_cons_mk (Below.trod laidOut (by kernel_rfl) (of_decide_eq_true (by kernel_rfl)) k1 bel lt1) trodAll_mk0)), rfl, bel.frame _, fun h => by cases h⟩

theorem over : Rows.fnRangesRow.holds Try.pinned (OpenSpec.ofChange Rows.fnRangesSpec) :=
  OpenClaim.holds_of_wide 10 Try.f10 rfl rfl rfl rfl rfl rfl rfl ⟨rfl, rfl, rfl, rfl, rfl⟩ rfl rfl rfl rfl rfl (by kernel_rfl) Try.func10 (by kernel_rfl)
    (of_decide_eq_true (by kernel_rfl)) (by unfold Func.isWrapper; first | (rw [if_pos (by decide +kernel)]; kernel_rfl) | (rw [if_neg (by decide +kernel)]; exact ⟨rfl, rfl⟩))
    (fun os started H enc _ => lifted os started H enc)

/-- ████ THE STATEMENT ████ -/
theorem proved : Rows.FnRangesSaid := over
#print axioms proved
end Go.Proofs.Ytiikknacnbbbjaa.fnRanges
