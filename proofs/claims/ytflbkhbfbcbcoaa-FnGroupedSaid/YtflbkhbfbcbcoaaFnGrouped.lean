import Derived.Test.YtflbkhbfbcbcoaaRows
import Derived.WalkKit
import Derived.ProofKit
import Derived.OpenShut
import Derived.ShutString
import Derived.ChangeOld
import Derived.Below
import Derived.Test.YtflbkhbfbcbcoaaSv
import Derived.Test.YtflbkhbfbcbcoaaGuFnGrouped
/- The law 'FnGrouped' holds: its row, from the machine's run. -/
set_option linter.unusedSimpArgs false
set_option linter.unusedVariables false
set_option linter.unnecessarySimpa false
namespace Go.Proofs.Ytflbkhbfbcbcoaa.fnGrouped
open Go.ChangeShapes Go.WideShapes Go.ChangeAt Go.RowKit
open Go.ChangeMaps (open_string shut_string)
set_option linter.unusedVariables false

theorem own : ownKnob Try.prog.godebug = none := by kernel_rfl
theorem laidOut : laidOutB Try.prog = true := by kernel_rfl

/-- WHAT THE WALK IS TOLD OF A SLICE OF INTEGERS THAT CAME IN: it is nil; or it leads to a row of 'cap' cells, the numbers 'zs' (the first 'len' are its elements, the rest its spare room), each fitting its kind. -/
def IsRow (k : IntKind) (w : World) (a : Option Addr) (len cap : Nat) (zs : List Int) : Prop :=
  (a = none ∧ len = 0 ∧ cap = 0 ∧ zs = []) ∨
  ∃ x, a = some x ∧ len ≤ cap ∧ cap ≤ maxLen ∧ zs.length = cap ∧ (∀ i, i < zs.length → w.cell? (x.add i) = some (.int k (zs.getD i 0))) ∧ ∀ n ∈ zs, (Lit.int k n).wf = true

def fidL : List (Nat × Nat) := [(76, 3), (77, 7), (78, 8), (79, 9), (61, 10), (80, 11), (62, 12), (81, 13), (82, 14), (83, 15), (84, 16), (85, 17), (55, 20), (63, 30), (65, 33), (124, 52), (91, 53), (107, 54), (136, 55), (135, 56), (133, 57), (137, 58), (138, 59), (103, 60), (100, 61), (98, 62), (139, 63), (105, 64), (106, 65), (26, 66), (102, 67), (122, 68), (28, 69), (104, 70), (101, 71), (95, 72), (96, 73), (25, 74), (97, 75), (99, 76), (119, 78), (112, 79), (120, 80), (125, 86), (92, 87), (126, 88), (111, 94), (130, 95), (93, 122), (140, 123), (149, 124), (151, 125), (152, 126), (159, 127), (153, 128), (150, 129), (154, 130), (143, 131), (141, 132), (142, 133), (116, 134), (160, 167)]
def fid : Nat → FuncId := fun i => (fidL.lookup i).getD 0
def eqs : List (TypeId × List (Option IntKind)) := [(33, [none, some .i64])]
theorem m3 : GL.fnMt Try.prog fid eqs Try.f3 GL.g76 = true := by kernel_rfl
theorem m7 : GL.fnMt Try.prog fid eqs Try.f7 GL.g77 = true := by kernel_rfl
theorem m8 : GL.fnMt Try.prog fid eqs Try.f8 GL.g78 = true := by kernel_rfl
theorem m9 : GL.fnMt Try.prog fid eqs Try.f9 GL.g79 = true := by kernel_rfl
theorem m10 : GL.fnMt Try.prog fid eqs Try.f10 GL.g61 = true := by kernel_rfl
theorem m11 : GL.fnMt Try.prog fid eqs Try.f11 GL.g80 = true := by kernel_rfl
theorem m12 : GL.fnMt Try.prog fid eqs Try.f12 GL.g62 = true := by kernel_rfl
theorem m13 : GL.fnMt Try.prog fid eqs Try.f13 GL.g81 = true := by kernel_rfl
theorem m14 : GL.fnMt Try.prog fid eqs Try.f14 GL.g82 = true := by kernel_rfl
theorem m15 : GL.fnMt Try.prog fid eqs Try.f15 GL.g83 = true := by kernel_rfl
theorem m16 : GL.fnMt Try.prog fid eqs Try.f16 GL.g84 = true := by kernel_rfl
theorem m17 : GL.fnMt Try.prog fid eqs Try.f17 GL.g85 = true := by kernel_rfl
theorem m20 : GL.fnMt Try.prog fid eqs Try.f20 GL.g55 = true := by kernel_rfl
theorem m30 : GL.fnMt Try.prog fid eqs Try.f30 GL.g63 = true := by kernel_rfl
theorem m33 : GL.fnMt Try.prog fid eqs Try.f33 GL.g65 = true := by kernel_rfl
theorem m52 : GL.fnMt Try.prog fid eqs Try.f52 GL.g124 = true := by kernel_rfl
theorem m53 : GL.fnMt Try.prog fid eqs Try.f53 GL.g91 = true := by kernel_rfl
theorem m54 : GL.fnMt Try.prog fid eqs Try.f54 GL.g107 = true := by kernel_rfl
theorem m55 : GL.fnMt Try.prog fid eqs Try.f55 GL.g136 = true := by kernel_rfl
theorem m56 : GL.fnMt Try.prog fid eqs Try.f56 GL.g135 = true := by kernel_rfl
theorem m57 : GL.fnMt Try.prog fid eqs Try.f57 GL.g133 = true := by kernel_rfl
theorem m58 : GL.fnMt Try.prog fid eqs Try.f58 GL.g137 = true := by kernel_rfl
theorem m59 : GL.fnMt Try.prog fid eqs Try.f59 GL.g138 = true := by kernel_rfl
theorem m60 : GL.fnMt Try.prog fid eqs Try.f60 GL.g103 = true := by kernel_rfl
theorem m61 : GL.fnMt Try.prog fid eqs Try.f61 GL.g100 = true := by kernel_rfl
theorem m62 : GL.fnMt Try.prog fid eqs Try.f62 GL.g98 = true := by kernel_rfl
theorem m63 : GL.fnMt Try.prog fid eqs Try.f63 GL.g139 = true := by kernel_rfl
theorem m64 : GL.fnMt Try.prog fid eqs Try.f64 GL.g105 = true := by kernel_rfl
theorem m65 : GL.fnMt Try.prog fid eqs Try.f65 GL.g106 = true := by kernel_rfl
theorem m66 : GL.fnMt Try.prog fid eqs Try.f66 GL.g26 = true := by kernel_rfl
theorem m67 : GL.fnMt Try.prog fid eqs Try.f67 GL.g102 = true := by kernel_rfl
theorem m68 : GL.fnMt Try.prog fid eqs Try.f68 GL.g122 = true := by kernel_rfl
theorem m69 : GL.fnMt Try.prog fid eqs Try.f69 GL.g28 = true := by kernel_rfl
theorem m70 : GL.fnMt Try.prog fid eqs Try.f70 GL.g104 = true := by kernel_rfl
theorem m71 : GL.fnMt Try.prog fid eqs Try.f71 GL.g101 = true := by kernel_rfl
theorem m72 : GL.fnMt Try.prog fid eqs Try.f72 GL.g95 = true := by kernel_rfl
theorem m73 : GL.fnMt Try.prog fid eqs Try.f73 GL.g96 = true := by kernel_rfl
theorem m74 : GL.fnMt Try.prog fid eqs Try.f74 GL.g25 = true := by kernel_rfl
theorem m75 : GL.fnMt Try.prog fid eqs Try.f75 GL.g97 = true := by kernel_rfl
theorem m76 : GL.fnMt Try.prog fid eqs Try.f76 GL.g99 = true := by kernel_rfl
theorem m78 : GL.fnMt Try.prog fid eqs Try.f78 GL.g119 = true := by kernel_rfl
theorem m79 : GL.fnMt Try.prog fid eqs Try.f79 GL.g112 = true := by kernel_rfl
theorem m80 : GL.fnMt Try.prog fid eqs Try.f80 GL.g120 = true := by kernel_rfl
theorem m86 : GL.fnMt Try.prog fid eqs Try.f86 GL.g125 = true := by kernel_rfl
theorem m87 : GL.fnMt Try.prog fid eqs Try.f87 GL.g92 = true := by kernel_rfl
theorem m88 : GL.fnMt Try.prog fid eqs Try.f88 GL.g126 = true := by kernel_rfl
theorem m94 : GL.fnMt Try.prog fid eqs Try.f94 GL.g111 = true := by kernel_rfl
theorem m95 : GL.fnMt Try.prog fid eqs Try.f95 GL.g130 = true := by kernel_rfl
theorem m122 : GL.fnMt Try.prog fid eqs Try.f122 GL.g93 = true := by kernel_rfl
theorem m123 : GL.fnMt Try.prog fid eqs Try.f123 GL.g140 = true := by kernel_rfl
theorem m124 : GL.fnMt Try.prog fid eqs Try.f124 GL.g149 = true := by kernel_rfl
theorem m126 : GL.fnMt Try.prog fid eqs Try.f126 GL.g152 = true := by kernel_rfl
theorem m127 : GL.fnMt Try.prog fid eqs Try.f127 GL.g159 = true := by kernel_rfl
theorem m128 : GL.fnMt Try.prog fid eqs Try.f128 GL.g153 = true := by kernel_rfl
theorem m129 : GL.fnMt Try.prog fid eqs Try.f129 GL.g150 = true := by kernel_rfl
theorem m130 : GL.fnMt Try.prog fid eqs Try.f130 GL.g154 = true := by kernel_rfl
theorem m131 : GL.fnMt Try.prog fid eqs Try.f131 GL.g143 = true := by kernel_rfl
theorem m132 : GL.fnMt Try.prog fid eqs Try.f132 GL.g141 = true := by kernel_rfl
theorem m133 : GL.fnMt Try.prog fid eqs Try.f133 GL.g142 = true := by kernel_rfl
theorem m134 : GL.fnMt Try.prog fid eqs Try.f134 GL.g116 = true := by kernel_rfl
theorem m167 : GL.fnMt Try.prog fid eqs Try.f167 GL.g160 = true := by kernel_rfl
theorem svE : Try.cmpW = GL.cmpW := rfl
theorem svF : GL.CallOK Try.prog fid fun g args h => if g = 151 then GL.sortVE args h else none := GL.sortVE_ok ⟨_, Try.func125, by kernel_rfl, by kernel_rfl⟩ (fun blk off cap zs W hH hb hs => by
  have h := Try.sortValC blk off cap zs W hH hb hs
  rw [svE] at h
  exact h) (fun p cap W => Try.sortValNone p cap W)
theorem extOK : ∀ f e, GL.p.ext f = some e → GL.CallOK Try.prog fid fun g args h => if g = f then e args h else none := fun f e h => by
  have h : (bif Nat.beq f 151 then some GL.sortVE else none) = some e := h
  rcases GL.bif_some h with ⟨rfl, h⟩ | ⟨_, h⟩
  · cases h; exact svF
  cases h
theorem allOK : GL.AllOK Try.prog fid eqs GL.fnL :=
  .cons Try.func3 rfl m3 (
  .cons Try.func7 rfl m7 (
  .cons Try.func8 rfl m8 (
  .cons Try.func9 rfl m9 (
  .cons Try.func10 rfl m10 (
  .cons Try.func11 rfl m11 (
  .cons Try.func12 rfl m12 (
  .cons Try.func13 rfl m13 (
  .cons Try.func14 rfl m14 (
  .cons Try.func15 rfl m15 (
  .cons Try.func16 rfl m16 (
  .cons Try.func17 rfl m17 (
  .cons Try.func20 rfl m20 (
  .cons Try.func30 rfl m30 (
  .cons Try.func33 rfl m33 (
  .cons Try.func52 rfl m52 (
  .cons Try.func53 rfl m53 (
  .cons Try.func54 rfl m54 (
  .cons Try.func55 rfl m55 (
  .cons Try.func56 rfl m56 (
  .cons Try.func57 rfl m57 (
  .cons Try.func58 rfl m58 (
  .cons Try.func59 rfl m59 (
  .cons Try.func60 rfl m60 (
  .cons Try.func61 rfl m61 (
  .cons Try.func62 rfl m62 (
  .cons Try.func63 rfl m63 (
  .cons Try.func64 rfl m64 (
  .cons Try.func65 rfl m65 (
  .cons Try.func66 rfl m66 (
  .cons Try.func67 rfl m67 (
  .cons Try.func68 rfl m68 (
  .cons Try.func69 rfl m69 (
  .cons Try.func70 rfl m70 (
  .cons Try.func71 rfl m71 (
  .cons Try.func72 rfl m72 (
  .cons Try.func73 rfl m73 (
  .cons Try.func74 rfl m74 (
  .cons Try.func75 rfl m75 (
  .cons Try.func76 rfl m76 (
  .cons Try.func78 rfl m78 (
  .cons Try.func79 rfl m79 (
  .cons Try.func80 rfl m80 (
  .cons Try.func86 rfl m86 (
  .cons Try.func87 rfl m87 (
  .cons Try.func88 rfl m88 (
  .cons Try.func94 rfl m94 (
  .cons Try.func95 rfl m95 (
  .cons Try.func122 rfl m122 (
  .cons Try.func123 rfl m123 (
  .cons Try.func124 rfl m124 (
  .cons Try.func126 rfl m126 (
  .cons Try.func127 rfl m127 (
  .cons Try.func128 rfl m128 (
  .cons Try.func129 rfl m129 (
  .cons Try.func130 rfl m130 (
  .cons Try.func131 rfl m131 (
  .cons Try.func132 rfl m132 (
  .cons Try.func133 rfl m133 (
  .cons Try.func134 rfl m134 (
  .cons Try.func167 rfl m167 (.nil)))))))))))))))))))))))))))))))))))))))))))))))))))))))))))))
theorem progOK : GL.ProgOK Try.prog fid eqs GL.p :=
  ⟨by kernel_rfl, (GL.eqs_sound (by kernel_rfl)), allOK.fn, extOK⟩
theorem walk (a0 : Option Addr) (len0 cap0 : Nat) (z0 : List Int) (a1 : Option Addr) (len1 cap1 : Nat) (z1 : List Int) (w : World) (w0 : IsRow .u8 w a0 len0 cap0 z0) (w1 : IsRow .u8 w a1 len1 cap1 z1) :
    Calls Try.prog 3 #[.slice a0 len0 cap0, .slice a1 len1 cap1] w fun e w' => e = .returned (.bool true) ∧ Below w.heap.size w w' :=
  GL.calls2 progOK (f := 76) (fun _ _ _ _ _ ha hb => GL.FnGrouped_ok ha hb) w0 w1

/-! ### THE ROW's STEP: WRITTEN OUT: LEAVE IT -/
set_option maxRecDepth 100000 in
theorem lifted (os : Os) (started : os.Started) (H : Type) (enc : TypeId × Value → H) :
    ReturnsInHanded {} Try.checked os 3 .any (Rows.fnGroupedSpec.pre6 enc Try.prog Try.f3 Rows.fnGroupedRow.domain false) (Rows.fnGroupedSpec.post enc Try.prog Try.f3 false true false false) := by
  refine returnsInHanded_of_change (C := Try.checked) own started (by kernel_rfl) Try.func3
    (ChangeSpec.witness6 (enc := enc) (C := Try.checked) false ⟨#[], #[.slice none 0 0, .slice none 0 0], []⟩ 8 (by kernel_rfl) (by kernel_rfl) (by kernel_rfl) (by kernel_rfl)) ?_
  intro W base args ds gs before hval0 hW hcnd _
  have hval : ∀ (j : Nat) t v, Try.f3.params[j]? = some t → args[j]? = some v → Value.okWide Try.prog W .any base t v := hval0
  have hW' := hW
  obtain ⟨p, q, hA0, hV, rfl, hfz, hnd⟩ := hW
  have hA : DataW.TrodAll enc Try.prog W 0 (fun _ => true) true Try.f3.params.toList args.toList ds p := hA0
  rw [Try.params3] at hA hval
  obtain ⟨v0, vs0, d0, ds0, p0, q0, hargs, rfl, rfl, h0, r0⟩ := trodAll_cons hA
  obtain ⟨v1, vs1, d1, ds1, p1, q1, rfl, rfl, rfl, h1, r1⟩ := trodAll_cons r0
  obtain ⟨rfl, rfl, rfl⟩ := trodAll_nil r1
  obtain rfl : args = #[v0, v1] := by cases args; simp_all
  obtain ⟨rfl, rfl⟩ := trodVars_none hV
  obtain ⟨a0, len0, cap0, rfl⟩ := okWide_slice Try.underlying22 (hval 0 22 v0 rfl rfl)
  have k0 := h0
  have lt0 : ∀ x ∈ p0, x.block < W.heap.size := by obtain ⟨m, hm⟩ := k0; exact DataW.trod_lt m _ _ _ hm
  obtain ⟨z0, w0⟩ : ∃ zs, IsRow .u8 W a0 len0 cap0 zs := by
    obtain ⟨fuel, hf⟩ := h0
    rcases open_ints Try.underlying22 Try.underlying5 (by kernel_rfl) hf with ⟨hcs, _⟩ | ⟨x, l, c, zs, hcs, _, hl, hm, hz, _, hcell, hwz⟩
    · simp [Value.cells] at hcs
      obtain ⟨rfl, rfl, rfl⟩ := hcs
      exact ⟨[], .inl ⟨rfl, rfl, rfl, rfl⟩⟩
    · simp [Value.cells] at hcs
      obtain ⟨rfl, rfl, rfl⟩ := hcs
      exact ⟨zs, .inr ⟨_, rfl, hl, hm, by simpa using hz, hcell, hwz⟩⟩
  obtain ⟨a1, len1, cap1, rfl⟩ := okWide_slice Try.underlying22 (hval 1 22 v1 rfl rfl)
  have k1 := h1
  have lt1 : ∀ x ∈ p1, x.block < W.heap.size := by obtain ⟨m, hm⟩ := k1; exact DataW.trod_lt m _ _ _ hm
  obtain ⟨z1, w1⟩ : ∃ zs, IsRow .u8 W a1 len1 cap1 zs := by
    obtain ⟨fuel, hf⟩ := h1
    rcases open_ints Try.underlying22 Try.underlying5 (by kernel_rfl) hf with ⟨hcs, _⟩ | ⟨x, l, c, zs, hcs, _, hl, hm, hz, _, hcell, hwz⟩
    · simp [Value.cells] at hcs
      obtain ⟨rfl, rfl, rfl⟩ := hcs
      exact ⟨[], .inl ⟨rfl, rfl, rfl, rfl⟩⟩
    · simp [Value.cells] at hcs
      obtain ⟨rfl, rfl, rfl⟩ := hcs
      exact ⟨zs, .inr ⟨_, rfl, hl, hm, by simpa using hz, hcell, hwz⟩⟩
  clear hA0 hval0
  refine (walk a0 len0 cap0 z0 a1 len1 cap1 z1 W w0 w1).mono fun e W' ⟨he, bel⟩ => ?_
  subst he
  exact ⟨_, rfl, _, _, _, [], _, [], hW', trodAll_mk1 (shut_bool Try.underlying4 _), (trodAll_cons_mk (Below.trod laidOut (by kernel_rfl) (of_decide_eq_true (by kernel_rfl)) k0 bel lt0) (trodAll_cons_mk (Below.trod laidOut (by kernel_rfl) (of_decide_eq_true (by kernel_rfl)) k1 bel lt1) trodAll_mk0)), rfl, bel.frame _, fun h => by cases h⟩

theorem over : Rows.fnGroupedRow.holds Try.pinned (OpenSpec.ofChange Rows.fnGroupedSpec) :=
  OpenClaim.holds_of_wide 3 Try.f3 rfl rfl rfl rfl rfl rfl rfl ⟨rfl, rfl, rfl, rfl, rfl⟩ rfl rfl rfl rfl rfl (by kernel_rfl) Try.func3 (by kernel_rfl)
    (of_decide_eq_true (by kernel_rfl)) (by unfold Func.isWrapper; first | (rw [if_pos (by decide +kernel)]; kernel_rfl) | (rw [if_neg (by decide +kernel)]; exact ⟨rfl, rfl⟩))
    (fun os started H enc _ => lifted os started H enc)

/-- ████ THE STATEMENT ████ -/
theorem proved : Rows.FnGroupedSaid := over
#print axioms proved
end Go.Proofs.Ytflbkhbfbcbcoaa.fnGrouped
