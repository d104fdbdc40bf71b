import Derived.Test.YtkelbpaegbnahaaRows
import Derived.WalkKit
import Derived.ProofKit
import Derived.OpenShut
import Derived.ShutString
import Derived.ChangeOld
import Derived.Below
import Derived.Test.YtkelbpaegbnahaaGuFnSums
/- The law 'FnSums' holds: its row, from the machine's run. -/
namespace Go.Proofs.Ytkelbpaegbnahaa.fnSums
open Go.ChangeShapes Go.WideShapes Go.ChangeAt Go.RowKit
open Go.ChangeMaps (open_string shut_string)
set_option linter.unusedVariables false

theorem own : ownKnob Try.prog.godebug = none := by kernel_rfl
theorem laidOut : laidOutB Try.prog = true := by kernel_rfl

/-- WHAT THE WALK IS TOLD OF A SLICE OF INTEGERS THAT CAME IN: it is nil; or it leads to a row of 'cap' cells, the numbers 'zs' (the first 'len' are its elements, the rest its spare room), each fitting its kind. -/
def IsRow (k : IntKind) (w : World) (a : Option Addr) (len cap : Nat) (zs : List Int) : Prop :=
  (a = none ∧ len = 0 ∧ cap = 0 ∧ zs = []) ∨
  ∃ x, a = some x ∧ len ≤ cap ∧ cap ≤ maxLen ∧ zs.length = cap ∧ (∀ i, i < zs.length → w.cell? (x.add i) = some (.int k (zs.getD i 0))) ∧ ∀ n ∈ zs, (Lit.int k n).wf = true

def fidL : List (Nat × Nat) := [(2, 3), (14, 4), (27, 5), (3, 8), (4, 9), (5, 10), (6, 11), (7, 12), (8, 13), (9, 14), (10, 15), (11, 16), (12, 17), (13, 18), (15, 19), (16, 20), (17, 21), (18, 22), (19, 23), (20, 24), (21, 25), (22, 26), (23, 27), (24, 28), (25, 29), (26, 30), (28, 31), (29, 32), (30, 33), (31, 34), (32, 35), (33, 36), (34, 37), (35, 38), (36, 39), (37, 40), (38, 41), (39, 42), (86, 58), (87, 59), (88, 60), (89, 61), (90, 62), (91, 63), (92, 64), (93, 65), (94, 66), (95, 67), (96, 68), (97, 69), (98, 70), (99, 71), (100, 72), (101, 73), (102, 74), (103, 75), (104, 76), (105, 77), (106, 78), (107, 79), (108, 80), (109, 81), (140, 104), (141, 105), (142, 106), (143, 107)]
def fid : Nat → FuncId := fun i => (fidL.lookup i).getD 0
def eqs : List (TypeId × List (Option IntKind)) := [(51, [some .i64, some .i64, some .i64, none, some .i64, none, some .i64]), (34, [none, some .i64])]
theorem m3 : GL.fnMt Try.prog fid eqs Try.f3 GL.g2 = true := by kernel_rfl
theorem m4 : GL.fnMt Try.prog fid eqs Try.f4 GL.g14 = true := by kernel_rfl
theorem m5 : GL.fnMt Try.prog fid eqs Try.f5 GL.g27 = true := by kernel_rfl
theorem m8 : GL.fnMt Try.prog fid eqs Try.f8 GL.g3 = true := by kernel_rfl
theorem m9 : GL.fnMt Try.prog fid eqs Try.f9 GL.g4 = true := by kernel_rfl
theorem m10 : GL.fnMt Try.prog fid eqs Try.f10 GL.g5 = true := by kernel_rfl
theorem m11 : GL.fnMt Try.prog fid eqs Try.f11 GL.g6 = true := by kernel_rfl
theorem m12 : GL.fnMt Try.prog fid eqs Try.f12 GL.g7 = true := by kernel_rfl
theorem m13 : GL.fnMt Try.prog fid eqs Try.f13 GL.g8 = true := by kernel_rfl
theorem m14 : GL.fnMt Try.prog fid eqs Try.f14 GL.g9 = true := by kernel_rfl
theorem m15 : GL.fnMt Try.prog fid eqs Try.f15 GL.g10 = true := by kernel_rfl
theorem m16 : GL.fnMt Try.prog fid eqs Try.f16 GL.g11 = true := by kernel_rfl
theorem m17 : GL.fnMt Try.prog fid eqs Try.f17 GL.g12 = true := by kernel_rfl
theorem m18 : GL.fnMt Try.prog fid eqs Try.f18 GL.g13 = true := by kernel_rfl
theorem m19 : GL.fnMt Try.prog fid eqs Try.f19 GL.g15 = true := by kernel_rfl
theorem m20 : GL.fnMt Try.prog fid eqs Try.f20 GL.g16 = true := by kernel_rfl
theorem m21 : GL.fnMt Try.prog fid eqs Try.f21 GL.g17 = true := by kernel_rfl
theorem m22 : GL.fnMt Try.prog fid eqs Try.f22 GL.g18 = true := by kernel_rfl
theorem m23 : GL.fnMt Try.prog fid eqs Try.f23 GL.g19 = true := by kernel_rfl
theorem m24 : GL.fnMt Try.prog fid eqs Try.f24 GL.g20 = true := by kernel_rfl
theorem m25 : GL.fnMt Try.prog fid eqs Try.f25 GL.g21 = true := by kernel_rfl
theorem m26 : GL.fnMt Try.prog fid eqs Try.f26 GL.g22 = true := by kernel_rfl
theorem m27 : GL.fnMt Try.prog fid eqs Try.f27 GL.g23 = true := by kernel_rfl
theorem m28 : GL.fnMt Try.prog fid eqs Try.f28 GL.g24 = true := by kernel_rfl
theorem m29 : GL.fnMt Try.prog fid eqs Try.f29 GL.g25 = true := by kernel_rfl
theorem m30 : GL.fnMt Try.prog fid eqs Try.f30 GL.g26 = true := by kernel_rfl
theorem m31 : GL.fnMt Try.prog fid eqs Try.f31 GL.g28 = true := by kernel_rfl
theorem m32 : GL.fnMt Try.prog fid eqs Try.f32 GL.g29 = true := by kernel_rfl
theorem m33 : GL.fnMt Try.prog fid eqs Try.f33 GL.g30 = true := by kernel_rfl
theorem m34 : GL.fnMt Try.prog fid eqs Try.f34 GL.g31 = true := by kernel_rfl
theorem m35 : GL.fnMt Try.prog fid eqs Try.f35 GL.g32 = true := by kernel_rfl
theorem m36 : GL.fnMt Try.prog fid eqs Try.f36 GL.g33 = true := by kernel_rfl
theorem m37 : GL.fnMt Try.prog fid eqs Try.f37 GL.g34 = true := by kernel_rfl
theorem m38 : GL.fnMt Try.prog fid eqs Try.f38 GL.g35 = true := by kernel_rfl
theorem m39 : GL.fnMt Try.prog fid eqs Try.f39 GL.g36 = true := by kernel_rfl
theorem m40 : GL.fnMt Try.prog fid eqs Try.f40 GL.g37 = true := by kernel_rfl
theorem m41 : GL.fnMt Try.prog fid eqs Try.f41 GL.g38 = true := by kernel_rfl
theorem m42 : GL.fnMt Try.prog fid eqs Try.f42 GL.g39 = true := by kernel_rfl
theorem m58 : GL.fnMt Try.prog fid eqs Try.f58 GL.g86 = true := by kernel_rfl
theorem m59 : GL.fnMt Try.prog fid eqs Try.f59 GL.g87 = true := by kernel_rfl
theorem m60 : GL.fnMt Try.prog fid eqs Try.f60 GL.g88 = true := by kernel_rfl
theorem m61 : GL.fnMt Try.prog fid eqs Try.f61 GL.g89 = true := by kernel_rfl
theorem m62 : GL.fnMt Try.prog fid eqs Try.f62 GL.g90 = true := by kernel_rfl
theorem m63 : GL.fnMt Try.prog fid eqs Try.f63 GL.g91 = true := by kernel_rfl
theorem m64 : GL.fnMt Try.prog fid eqs Try.f64 GL.g92 = true := by kernel_rfl
theorem m65 : GL.fnMt Try.prog fid eqs Try.f65 GL.g93 = true := by kernel_rfl
theorem m66 : GL.fnMt Try.prog fid eqs Try.f66 GL.g94 = true := by kernel_rfl
theorem m67 : GL.fnMt Try.prog fid eqs Try.f67 GL.g95 = true := by kernel_rfl
theorem m68 : GL.fnMt Try.prog fid eqs Try.f68 GL.g96 = true := by kernel_rfl
theorem m69 : GL.fnMt Try.prog fid eqs Try.f69 GL.g97 = true := by kernel_rfl
theorem m70 : GL.fnMt Try.prog fid eqs Try.f70 GL.g98 = true := by kernel_rfl
theorem m71 : GL.fnMt Try.prog fid eqs Try.f71 GL.g99 = true := by kernel_rfl
theorem m72 : GL.fnMt Try.prog fid eqs Try.f72 GL.g100 = true := by kernel_rfl
theorem m73 : GL.fnMt Try.prog fid eqs Try.f73 GL.g101 = true := by kernel_rfl
theorem m74 : GL.fnMt Try.prog fid eqs Try.f74 GL.g102 = true := by kernel_rfl
theorem m75 : GL.fnMt Try.prog fid eqs Try.f75 GL.g103 = true := by kernel_rfl
theorem m76 : GL.fnMt Try.prog fid eqs Try.f76 GL.g104 = true := by kernel_rfl
theorem m77 : GL.fnMt Try.prog fid eqs Try.f77 GL.g105 = true := by kernel_rfl
theorem m78 : GL.fnMt Try.prog fid eqs Try.f78 GL.g106 = true := by kernel_rfl
theorem m79 : GL.fnMt Try.prog fid eqs Try.f79 GL.g107 = true := by kernel_rfl
theorem m80 : GL.fnMt Try.prog fid eqs Try.f80 GL.g108 = true := by kernel_rfl
theorem m81 : GL.fnMt Try.prog fid eqs Try.f81 GL.g109 = true := by kernel_rfl
theorem m104 : GL.fnMt Try.prog fid eqs Try.f104 GL.g140 = true := by kernel_rfl
theorem m105 : GL.fnMt Try.prog fid eqs Try.f105 GL.g141 = true := by kernel_rfl
theorem m106 : GL.fnMt Try.prog fid eqs Try.f106 GL.g142 = true := by kernel_rfl
theorem m107 : GL.fnMt Try.prog fid eqs Try.f107 GL.g143 = true := by kernel_rfl
theorem allOK : GL.AllOK Try.prog fid eqs GL.fnL :=
  .cons Try.func3 rfl m3 (
  .cons Try.func4 rfl m4 (
  .cons Try.func5 rfl m5 (
  .cons Try.func8 rfl m8 (
  .cons Try.func9 rfl m9 (
  .cons Try.func10 rfl m10 (
  .cons Try.func11 rfl m11 (
  .cons Try.func12 rfl m12 (
  .cons Try.func13 rfl m13 (
  .cons Try.func14 rfl m14 (
  .cons Try.func15 rfl m15 (
  .cons Try.func16 rfl m16 (
  .cons Try.func17 rfl m17 (
  .cons Try.func18 rfl m18 (
  .cons Try.func19 rfl m19 (
  .cons Try.func20 rfl m20 (
  .cons Try.func21 rfl m21 (
  .cons Try.func22 rfl m22 (
  .cons Try.func23 rfl m23 (
  .cons Try.func24 rfl m24 (
  .cons Try.func25 rfl m25 (
  .cons Try.func26 rfl m26 (
  .cons Try.func27 rfl m27 (
  .cons Try.func28 rfl m28 (
  .cons Try.func29 rfl m29 (
  .cons Try.func30 rfl m30 (
  .cons Try.func31 rfl m31 (
  .cons Try.func32 rfl m32 (
  .cons Try.func33 rfl m33 (
  .cons Try.func34 rfl m34 (
  .cons Try.func35 rfl m35 (
  .cons Try.func36 rfl m36 (
  .cons Try.func37 rfl m37 (
  .cons Try.func38 rfl m38 (
  .cons Try.func39 rfl m39 (
  .cons Try.func40 rfl m40 (
  .cons Try.func41 rfl m41 (
  .cons Try.func42 rfl m42 (
  .cons Try.func58 rfl m58 (
  .cons Try.func59 rfl m59 (
  .cons Try.func60 rfl m60 (
  .cons Try.func61 rfl m61 (
  .cons Try.func62 rfl m62 (
  .cons Try.func63 rfl m63 (
  .cons Try.func64 rfl m64 (
  .cons Try.func65 rfl m65 (
  .cons Try.func66 rfl m66 (
  .cons Try.func67 rfl m67 (
  .cons Try.func68 rfl m68 (
  .cons Try.func69 rfl m69 (
  .cons Try.func70 rfl m70 (
  .cons Try.func71 rfl m71 (
  .cons Try.func72 rfl m72 (
  .cons Try.func73 rfl m73 (
  .cons Try.func74 rfl m74 (
  .cons Try.func75 rfl m75 (
  .cons Try.func76 rfl m76 (
  .cons Try.func77 rfl m77 (
  .cons Try.func78 rfl m78 (
  .cons Try.func79 rfl m79 (
  .cons Try.func80 rfl m80 (
  .cons Try.func81 rfl m81 (
  .cons Try.func104 rfl m104 (
  .cons Try.func105 rfl m105 (
  .cons Try.func106 rfl m106 (
  .cons Try.func107 rfl m107 (.nil))))))))))))))))))))))))))))))))))))))))))))))))))))))))))))))))))
theorem progOK : GL.ProgOK Try.prog fid eqs GL.p :=
  ⟨by kernel_rfl, (GL.eqs_sound (by kernel_rfl)), allOK.fn, (fun f e h => by cases h)⟩
theorem walk (a0 : Option Addr) (len0 cap0 : Nat) (z0 : List Int) (a1 : Option Addr) (len1 cap1 : Nat) (z1 : List Int) (w : World) (w0 : IsRow .u8 w a0 len0 cap0 z0) (w1 : IsRow .u8 w a1 len1 cap1 z1) :
    Calls Try.prog 5 #[.slice a0 len0 cap0, .slice a1 len1 cap1] w fun e w' => e = .returned (.bool true) ∧ Below w.heap.size w w' :=
  GL.calls2 progOK (f := 27) (fun _ _ _ _ _ ha hb => GL.FnSums_ok ha hb) w0 w1

/-! ### THE ROW's STEP: WRITTEN OUT: LEAVE IT -/
set_option maxRecDepth 100000 in
theorem lifted (os : Os) (started : os.Started) (H : Type) (enc : TypeId × Value → H) :
    ReturnsInHanded {} Try.checked os 5 .any (Rows.fnSumsSpec.pre6 enc Try.prog Try.f5 Rows.fnSumsRow.domain false) (Rows.fnSumsSpec.post enc Try.prog Try.f5 false true false false) := by
  refine returnsInHanded_of_change (C := Try.checked) own started (by kernel_rfl) Try.func5
    (ChangeSpec.witness6 (enc := enc) (C := Try.checked) false ⟨#[], #[.slice none 0 0, .slice none 0 0], []⟩ 8 (by kernel_rfl) (by kernel_rfl) (by kernel_rfl) (by kernel_rfl)) ?_
  intro W base args ds gs before hval0 hW hcnd _
  have hval : ∀ (j : Nat) t v, Try.f5.params[j]? = some t → args[j]? = some v → Value.okWide Try.prog W .any base t v := hval0
  have hW' := hW
  obtain ⟨p, q, hA0, hV, rfl, hfz, hnd⟩ := hW
  have hA : DataW.TrodAll enc Try.prog W 0 (fun _ => true) true Try.f5.params.toList args.toList ds p := hA0
  rw [Try.params5] at hA hval
  obtain ⟨v0, vs0, d0, ds0, p0, q0, hargs, rfl, rfl, h0, r0⟩ := trodAll_cons hA
  obtain ⟨v1, vs1, d1, ds1, p1, q1, rfl, rfl, rfl, h1, r1⟩ := trodAll_cons r0
  obtain ⟨rfl, rfl, rfl⟩ := trodAll_nil r1
  obtain rfl : args = #[v0, v1] := by cases args; simp_all
  obtain ⟨rfl, rfl⟩ := trodVars_none hV
  obtain ⟨a0, len0, cap0, rfl⟩ := okWide_slice Try.underlying22 (hval 0 22 v0 rfl rfl)
  have k0 := h0
  have lt0 : ∀ x ∈ p0, x.block < W.heap.size := by obtain ⟨m, hm⟩ := k0; exact DataW.trod_lt m _ _ _ hm
  obtain ⟨z0, w0⟩ : ∃ zs, IsRow .u8 W a0 len0 cap0 zs := by
    obtain ⟨fuel, hf⟩ := h0
    rcases open_ints Try.underlying22 Try.underlying5 (by kernel_rfl) hf with ⟨hcs, _⟩ | ⟨x, l, c, zs, hcs, _, hl, hm, hz, _, hcell, hwz⟩
    · simp [Value.cells] at hcs
      obtain ⟨rfl, rfl, rfl⟩ := hcs
      exact ⟨[], .inl ⟨rfl, rfl, rfl, rfl⟩⟩
    · simp [Value.cells] at hcs
      obtain ⟨rfl, rfl, rfl⟩ := hcs
      exact ⟨zs, .inr ⟨_, rfl, hl, hm, by simpa using hz, hcell, hwz⟩⟩
  obtain ⟨a1, len1, cap1, rfl⟩ := okWide_slice Try.underlying22 (hval 1 22 v1 rfl rfl)
  have k1 := h1
  have lt1 : ∀ x ∈ p1, x.block < W.heap.size := by obtain ⟨m, hm⟩ := k1; exact DataW.trod_lt m _ _ _ hm
  obtain ⟨z1, w1⟩ : ∃ zs, IsRow .u8 W a1 len1 cap1 zs := by
    obtain ⟨fuel, hf⟩ := h1
    rcases open_ints Try.underlying22 Try.underlying5 (by kernel_rfl) hf with ⟨hcs, _⟩ | ⟨x, l, c, zs, hcs, _, hl, hm, hz, _, hcell, hwz⟩
    · simp [Value.cells] at hcs
      obtain ⟨rfl, rfl, rfl⟩ := hcs
      exact ⟨[], .inl ⟨rfl, rfl, rfl, rfl⟩⟩
    · simp [Value.cells] at hcs
      obtain ⟨rfl, rfl, rfl⟩ := hcs
      exact ⟨zs, .inr ⟨_, rfl, hl, hm, by simpa using hz, hcell, hwz⟩⟩
  clear hA0 hval0
  refine (walk a0 len0 cap0 z0 a1 len1 cap1 z1 W w0 w1).mono fun e W' ⟨he, bel⟩ => ?_
  subst he
  exact ⟨_, rfl, _, _, _, [], _, [], hW', trodAll_mk1 (shut_bool Try.underlying4 _), (trodAll_cons_mk (Below.trod laidOut (by kernel_rfl) (of_decide_eq_true (by kernel_rfl)) k0 bel lt0) (trodAll_cons_mk (Below.trod laidOut (by kernel_rfl) (of_decide_eq_true (by kernel_rfl)) k1 bel lt1) trodAll_mk0)), rfl, bel.frame _, fun h => by cases h⟩

theorem over : Rows.fnSumsRow.holds Try.pinned (OpenSpec.ofChange Rows.fnSumsSpec) :=
  OpenClaim.holds_of_wide 5 Try.f5 rfl rfl rfl rfl rfl rfl rfl ⟨rfl, rfl, rfl, rfl, rfl⟩ rfl rfl rfl rfl rfl (by kernel_rfl) Try.func5 (by kernel_rfl)
    (of_decide_eq_true (by kernel_rfl)) (by unfold Func.isWrapper; first | (rw [if_pos (by decide +kernel)]; kernel_rfl) | (rw [if_neg (by decide +kernel)]; exact ⟨rfl, rfl⟩))
    (fun os started H enc _ => lifted os started H enc)

/-- ████ THE STATEMENT ████ -/
theorem proved : Rows.FnSumsSaid := over
#print axioms proved
end Go.Proofs.Ytkelbpaegbnahaa.fnSums
