import Derived.Test.YtkmggfhfefaehaaGreatRows
import Derived.WalkKit
import Derived.ProofKit
import Derived.OpenShut
import Derived.ShutString
import Derived.ChangeOld
import Derived.Below
import Derived.Test.YtkmggfhfefaehaaGreatLw
import Derived.Test.YtkmggfhfefaehaaGreatSt
import Derived.Test.YtkmggfhfefaehaaGreatGuFnAlgebra
/- The law 'FnAlgebra' holds: its row, from the machine's run. -/
set_option linter.unusedSimpArgs false
set_option linter.unusedVariables false
set_option linter.unnecessarySimpa false
namespace Go.Proofs.YtkmggfhfefaehaaGreat.fnAlgebra
open Go.ChangeShapes Go.WideShapes Go.ChangeAt Go.RowKit
open Go.ChangeMaps (open_string shut_string)
set_option linter.unusedVariables false

theorem own : ownKnob Tryz.prog.godebug = none := by kernel_rfl
theorem laidOut : laidOutB Tryz.prog = true := by kernel_rfl

/-- WHAT THE WALK IS TOLD OF A SLICE OF INTEGERS THAT CAME IN: it is nil; or it leads to a row of 'cap' cells, the numbers 'zs' (the first 'len' are its elements, the rest its spare room), each fitting its kind. -/
def IsRow (k : IntKind) (w : World) (a : Option Addr) (len cap : Nat) (zs : List Int) : Prop :=
  (a = none ∧ len = 0 ∧ cap = 0 ∧ zs = []) ∨
  ∃ x, a = some x ∧ len ≤ cap ∧ cap ≤ maxLen ∧ zs.length = cap ∧ (∀ i, i < zs.length → w.cell? (x.add i) = some (.int k (zs.getD i 0))) ∧ ∀ n ∈ zs, (Lit.int k n).wf = true

def fidL : List (Nat × Nat) := [(744, 4), (640, 9), (739, 11), (740, 12), (741, 14), (745, 17), (746, 18), (659, 19), (662, 20), (747, 21), (748, 22), (749, 23), (750, 24), (751, 25), (752, 26), (753, 27), (754, 28), (755, 29), (657, 41), (777, 42), (386, 45), (661, 46), (390, 47), (673, 48), (606, 49), (410, 50), (356, 51), (679, 52), (687, 53), (674, 54), (24, 55), (383, 56), (660, 58), (779, 59), (782, 60), (780, 61), (781, 62), (335, 63), (788, 64), (96, 65), (100, 66), (97, 67), (91, 68), (93, 69), (98, 70), (99, 71), (385, 72), (304, 73), (676, 74), (677, 75), (337, 76), (94, 77), (678, 78), (783, 79), (92, 80), (784, 81), (785, 82), (663, 83), (301, 84), (107, 85), (389, 86), (407, 87), (406, 88), (685, 109), (686, 110), (395, 111), (141, 112), (140, 113), (142, 114), (391, 115), (159, 116), (789, 117), (427, 119), (160, 130)]
def fid : Nat → FuncId := fun i => (fidL.lookup i).getD 0
def eqs : List (TypeId × List (Option IntKind)) := []
theorem m4 : GL.fnMt Tryz.prog fid eqs Tryz.f4 GL.g744 = true := by kernel_rfl
theorem m9 : GL.fnMt Tryz.prog fid eqs Tryz.f9 GL.g640 = true := by kernel_rfl
theorem m11 : GL.fnMt Tryz.prog fid eqs Tryz.f11 GL.g739 = true := by kernel_rfl
theorem m12 : GL.fnMt Tryz.prog fid eqs Tryz.f12 GL.g740 = true := by kernel_rfl
theorem m14 : GL.fnMt Tryz.prog fid eqs Tryz.f14 GL.g741 = true := by kernel_rfl
theorem m17 : GL.fnMt Tryz.prog fid eqs Tryz.f17 GL.g745 = true := by kernel_rfl
theorem m18 : GL.fnMt Tryz.prog fid eqs Tryz.f18 GL.g746 = true := by kernel_rfl
theorem m19 : GL.fnMt Tryz.prog fid eqs Tryz.f19 GL.g659 = true := by kernel_rfl
theorem m20 : GL.fnMt Tryz.prog fid eqs Tryz.f20 GL.g662 = true := by kernel_rfl
theorem m21 : GL.fnMt Tryz.prog fid eqs Tryz.f21 GL.g747 = true := by kernel_rfl
theorem m22 : GL.fnMt Tryz.prog fid eqs Tryz.f22 GL.g748 = true := by kernel_rfl
theorem m23 : GL.fnMt Tryz.prog fid eqs Tryz.f23 GL.g749 = true := by kernel_rfl
theorem m24 : GL.fnMt Tryz.prog fid eqs Tryz.f24 GL.g750 = true := by kernel_rfl
theorem m25 : GL.fnMt Tryz.prog fid eqs Tryz.f25 GL.g751 = true := by kernel_rfl
theorem m26 : GL.fnMt Tryz.prog fid eqs Tryz.f26 GL.g752 = true := by kernel_rfl
theorem m27 : GL.fnMt Tryz.prog fid eqs Tryz.f27 GL.g753 = true := by kernel_rfl
theorem m28 : GL.fnMt Tryz.prog fid eqs Tryz.f28 GL.g754 = true := by kernel_rfl
theorem m29 : GL.fnMt Tryz.prog fid eqs Tryz.f29 GL.g755 = true := by kernel_rfl
theorem m41 : GL.fnMt Tryz.prog fid eqs Tryz.f41 GL.g657 = true := by kernel_rfl
theorem m42 : GL.fnMt Tryz.prog fid eqs Tryz.f42 GL.g777 = true := by kernel_rfl
theorem m45 : GL.fnMt Tryz.prog fid eqs Tryz.f45 GL.g386 = true := by kernel_rfl
theorem m46 : GL.fnMt Tryz.prog fid eqs Tryz.f46 GL.g661 = true := by kernel_rfl
theorem m47 : GL.fnMt Tryz.prog fid eqs Tryz.f47 GL.g390 = true := by kernel_rfl
theorem m48 : GL.fnMt Tryz.prog fid eqs Tryz.f48 GL.g673 = true := by kernel_rfl
theorem m49 : GL.fnMt Tryz.prog fid eqs Tryz.f49 GL.g606 = true := by kernel_rfl
theorem m50 : GL.fnMt Tryz.prog fid eqs Tryz.f50 GL.g410 = true := by kernel_rfl
theorem m51 : GL.fnMt Tryz.prog fid eqs Tryz.f51 GL.g356 = true := by kernel_rfl
theorem m52 : GL.fnMt Tryz.prog fid eqs Tryz.f52 GL.g679 = true := by kernel_rfl
theorem m53 : GL.fnMt Tryz.prog fid eqs Tryz.f53 GL.g687 = true := by kernel_rfl
theorem m54 : GL.fnMt Tryz.prog fid eqs Tryz.f54 GL.g674 = true := by kernel_rfl
theorem m55 : GL.fnMt Tryz.prog fid eqs Tryz.f55 GL.g24 = true := by kernel_rfl
theorem m56 : GL.fnMt Tryz.prog fid eqs Tryz.f56 GL.g383 = true := by kernel_rfl
theorem m58 : GL.fnMt Tryz.prog fid eqs Tryz.f58 GL.g660 = true := by kernel_rfl
theorem m59 : GL.fnMt Tryz.prog fid eqs Tryz.f59 GL.g779 = true := by kernel_rfl
theorem m60 : GL.fnMt Tryz.prog fid eqs Tryz.f60 GL.g782 = true := by kernel_rfl
theorem m61 : GL.fnMt Tryz.prog fid eqs Tryz.f61 GL.g780 = true := by kernel_rfl
theorem m62 : GL.fnMt Tryz.prog fid eqs Tryz.f62 GL.g781 = true := by kernel_rfl
theorem m63 : GL.fnMt Tryz.prog fid eqs Tryz.f63 GL.g335 = true := by kernel_rfl
theorem m64 : GL.fnMt Tryz.prog fid eqs Tryz.f64 GL.g788 = true := by kernel_rfl
theorem m65 : GL.fnMt Tryz.prog fid eqs Tryz.f65 GL.g96 = true := by kernel_rfl
theorem m66 : GL.fnMt Tryz.prog fid eqs Tryz.f66 GL.g100 = true := by kernel_rfl
theorem m67 : GL.fnMt Tryz.prog fid eqs Tryz.f67 GL.g97 = true := by kernel_rfl
theorem m68 : GL.fnMt Tryz.prog fid eqs Tryz.f68 GL.g91 = true := by kernel_rfl
theorem m69 : GL.fnMt Tryz.prog fid eqs Tryz.f69 GL.g93 = true := by kernel_rfl
theorem m70 : GL.fnMt Tryz.prog fid eqs Tryz.f70 GL.g98 = true := by kernel_rfl
theorem m71 : GL.fnMt Tryz.prog fid eqs Tryz.f71 GL.g99 = true := by kernel_rfl
theorem m72 : GL.fnMt Tryz.prog fid eqs Tryz.f72 GL.g385 = true := by kernel_rfl
theorem m73 : GL.fnMt Tryz.prog fid eqs Tryz.f73 GL.g304 = true := by kernel_rfl
theorem m74 : GL.fnMt Tryz.prog fid eqs Tryz.f74 GL.g676 = true := by kernel_rfl
theorem m75 : GL.fnMt Tryz.prog fid eqs Tryz.f75 GL.g677 = true := by kernel_rfl
theorem m76 : GL.fnMt Tryz.prog fid eqs Tryz.f76 GL.g337 = true := by kernel_rfl
theorem m77 : GL.fnMt Tryz.prog fid eqs Tryz.f77 GL.g94 = true := by kernel_rfl
theorem m78 : GL.fnMt Tryz.prog fid eqs Tryz.f78 GL.g678 = true := by kernel_rfl
theorem m79 : GL.fnMt Tryz.prog fid eqs Tryz.f79 GL.g783 = true := by kernel_rfl
theorem m80 : GL.fnMt Tryz.prog fid eqs Tryz.f80 GL.g92 = true := by kernel_rfl
theorem m81 : GL.fnMt Tryz.prog fid eqs Tryz.f81 GL.g784 = true := by kernel_rfl
theorem m82 : GL.fnMt Tryz.prog fid eqs Tryz.f82 GL.g785 = true := by kernel_rfl
theorem m83 : GL.fnMt Tryz.prog fid eqs Tryz.f83 GL.g663 = true := by kernel_rfl
theorem m84 : GL.fnMt Tryz.prog fid eqs Tryz.f84 GL.g301 = true := by kernel_rfl
theorem m85 : GL.fnMt Tryz.prog fid eqs Tryz.f85 GL.g107 = true := by kernel_rfl
theorem m86 : GL.fnMt Tryz.prog fid eqs Tryz.f86 GL.g389 = true := by kernel_rfl
theorem m110 : GL.fnMt Tryz.prog fid eqs Tryz.f110 GL.g686 = true := by kernel_rfl
theorem m111 : GL.fnMt Tryz.prog fid eqs Tryz.f111 GL.g395 = true := by kernel_rfl
theorem m112 : GL.fnMt Tryz.prog fid eqs Tryz.f112 GL.g141 = true := by kernel_rfl
theorem m113 : GL.fnMt Tryz.prog fid eqs Tryz.f113 GL.g140 = true := by kernel_rfl
theorem m114 : GL.fnMt Tryz.prog fid eqs Tryz.f114 GL.g142 = true := by kernel_rfl
theorem m115 : GL.fnMt Tryz.prog fid eqs Tryz.f115 GL.g391 = true := by kernel_rfl
theorem m116 : GL.fnMt Tryz.prog fid eqs Tryz.f116 GL.g159 = true := by kernel_rfl
theorem m117 : GL.fnMt Tryz.prog fid eqs Tryz.f117 GL.g789 = true := by kernel_rfl
theorem m130 : GL.fnMt Tryz.prog fid eqs Tryz.f130 GL.g160 = true := by kernel_rfl
theorem valF : GL.CallOK Tryz.prog fid fun g args h => if g = 406 then GL.valuesE args h else none := GL.valuesE_ok ⟨_, Tryz.func88, by kernel_rfl, by kernel_rfl⟩ (fun a len cap w => Tryz.valuesC a len cap w)
theorem srtF : GL.CallOK Tryz.prog fid fun g args h => if g = 407 then GL.sortedE args h else none := GL.sortedE_ok ⟨_, Tryz.func87, by kernel_rfl, by kernel_rfl⟩ (fun Bs Bo sv zs w hl hBs hc hI => Tryz.sortedVals Bs Bo sv zs (by unfold maxLen; omega) (by omega) w hBs hc hI)
theorem stE : ∀ xs ys : List Int, Tryz.cmpT xs ys = GL.cmpT xs ys
  | [], [] => rfl
  | [], _ :: _ => rfl
  | _ :: _, [] => rfl
  | x :: xs, y :: ys => by rw [Tryz.cmpT, GL.cmpT, stE xs ys]
theorem stF : GL.CallOK Tryz.prog fid fun g args h => if g = 685 then GL.sortTE args h else none := GL.sortTE_ok ⟨_, Tryz.func109, by kernel_rfl, by kernel_rfl⟩ (fun blk off cap enc cs W hs hH hb hL => by
  have h := Tryz.sortTupC blk off cap enc cs W hs hH hb hL
  rw [show (fun i j : Nat => Tryz.cmpT (cs.getD i []) (cs.getD j [])) = GL.cfT cs from funext fun i => funext fun j => stE _ _] at h
  exact h) (fun p cap W => Tryz.sortTupNone p cap W)
theorem extOK : ∀ f e, GL.p.ext f = some e → GL.CallOK Tryz.prog fid fun g args h => if g = f then e args h else none := fun f e h => by
  have h : (bif Nat.beq f 407 then some GL.sortedE else bif Nat.beq f 406 then some GL.valuesE else bif Nat.beq f 685 then some GL.sortTE else none) = some e := h
  rcases GL.bif_some h with ⟨rfl, h⟩ | ⟨_, h⟩
  · cases h; exact srtF
  rcases GL.bif_some h with ⟨rfl, h⟩ | ⟨_, h⟩
  · cases h; exact valF
  rcases GL.bif_some h with ⟨rfl, h⟩ | ⟨_, h⟩
  · cases h; exact stF
  cases h
theorem allOK : GL.AllOK Tryz.prog fid eqs GL.fnL :=
  .cons Tryz.func4 rfl m4 (
  .cons Tryz.func9 rfl m9 (
  .cons Tryz.func11 rfl m11 (
  .cons Tryz.func12 rfl m12 (
  .cons Tryz.func14 rfl m14 (
  .cons Tryz.func17 rfl m17 (
  .cons Tryz.func18 rfl m18 (
  .cons Tryz.func19 rfl m19 (
  .cons Tryz.func20 rfl m20 (
  .cons Tryz.func21 rfl m21 (
  .cons Tryz.func22 rfl m22 (
  .cons Tryz.func23 rfl m23 (
  .cons Tryz.func24 rfl m24 (
  .cons Tryz.func25 rfl m25 (
  .cons Tryz.func26 rfl m26 (
  .cons Tryz.func27 rfl m27 (
  .cons Tryz.func28 rfl m28 (
  .cons Tryz.func29 rfl m29 (
  .cons Tryz.func41 rfl m41 (
  .cons Tryz.func42 rfl m42 (
  .cons Tryz.func45 rfl m45 (
  .cons Tryz.func46 rfl m46 (
  .cons Tryz.func47 rfl m47 (
  .cons Tryz.func48 rfl m48 (
  .cons Tryz.func49 rfl m49 (
  .cons Tryz.func50 rfl m50 (
  .cons Tryz.func51 rfl m51 (
  .cons Tryz.func52 rfl m52 (
  .cons Tryz.func53 rfl m53 (
  .cons Tryz.func54 rfl m54 (
  .cons Tryz.func55 rfl m55 (
  .cons Tryz.func56 rfl m56 (
  .cons Tryz.func58 rfl m58 (
  .cons Tryz.func59 rfl m59 (
  .cons Tryz.func60 rfl m60 (
  .cons Tryz.func61 rfl m61 (
  .cons Tryz.func62 rfl m62 (
  .cons Tryz.func63 rfl m63 (
  .cons Tryz.func64 rfl m64 (
  .cons Tryz.func65 rfl m65 (
  .cons Tryz.func66 rfl m66 (
  .cons Tryz.func67 rfl m67 (
  .cons Tryz.func68 rfl m68 (
  .cons Tryz.func69 rfl m69 (
  .cons Tryz.func70 rfl m70 (
  .cons Tryz.func71 rfl m71 (
  .cons Tryz.func72 rfl m72 (
  .cons Tryz.func73 rfl m73 (
  .cons Tryz.func74 rfl m74 (
  .cons Tryz.func75 rfl m75 (
  .cons Tryz.func76 rfl m76 (
  .cons Tryz.func77 rfl m77 (
  .cons Tryz.func78 rfl m78 (
  .cons Tryz.func79 rfl m79 (
  .cons Tryz.func80 rfl m80 (
  .cons Tryz.func81 rfl m81 (
  .cons Tryz.func82 rfl m82 (
  .cons Tryz.func83 rfl m83 (
  .cons Tryz.func84 rfl m84 (
  .cons Tryz.func85 rfl m85 (
  .cons Tryz.func86 rfl m86 (
  .cons Tryz.func110 rfl m110 (
  .cons Tryz.func111 rfl m111 (
  .cons Tryz.func112 rfl m112 (
  .cons Tryz.func113 rfl m113 (
  .cons Tryz.func114 rfl m114 (
  .cons Tryz.func115 rfl m115 (
  .cons Tryz.func116 rfl m116 (
  .cons Tryz.func117 rfl m117 (
  .cons Tryz.func130 rfl m130 (.nil))))))))))))))))))))))))))))))))))))))))))))))))))))))))))))))))))))))
theorem progOK : GL.ProgOK Tryz.prog fid eqs GL.p :=
  ⟨by kernel_rfl, (GL.eqs_sound (by kernel_rfl)), allOK.fn, extOK⟩
theorem walk (a0 : Option Addr) (len0 cap0 : Nat) (z0 : List Int) (a1 : Option Addr) (len1 cap1 : Nat) (z1 : List Int) (w : World) (w0 : IsRow .u8 w a0 len0 cap0 z0) (w1 : IsRow .u8 w a1 len1 cap1 z1) :
    Calls Tryz.prog 4 #[.slice a0 len0 cap0, .slice a1 len1 cap1] w fun e w' => e = .returned (.bool true) ∧ Below w.heap.size w w' :=
  GL.calls2 progOK (f := 744) (fun _ _ _ _ _ ha hb => GL.FnAlgebra_ok ha hb) w0 w1

/-! ### THE ROW's STEP: WRITTEN OUT: LEAVE IT -/
set_option maxRecDepth 100000 in
theorem lifted (os : Os) (started : os.Started) (H : Type) (enc : TypeId × Value → H) :
    ReturnsInHanded {} Tryz.checked os 4 .any (Rows.fnAlgebraSpec.pre6 enc Tryz.prog Tryz.f4 Rows.fnAlgebraRow.domain false) (Rows.fnAlgebraSpec.post enc Tryz.prog Tryz.f4 false true false false) := by
  refine returnsInHanded_of_change (C := Tryz.checked) own started (by kernel_rfl) Tryz.func4
    (ChangeSpec.witness6 (enc := enc) (C := Tryz.checked) false ⟨#[], #[.slice none 0 0, .slice none 0 0], []⟩ 8 (by kernel_rfl) (by kernel_rfl) (by kernel_rfl) (by kernel_rfl)) ?_
  intro W base args ds gs before hval0 hW hcnd _
  have hval : ∀ (j : Nat) t v, Tryz.f4.params[j]? = some t → args[j]? = some v → Value.okWide Tryz.prog W .any base t v := hval0
  have hW' := hW
  obtain ⟨p, q, hA0, hV, rfl, hfz, hnd⟩ := hW
  have hA : DataW.TrodAll enc Tryz.prog W 0 (fun _ => true) true Tryz.f4.params.toList args.toList ds p := hA0
  rw [Tryz.params4] at hA hval
  obtain ⟨v0, vs0, d0, ds0, p0, q0, hargs, rfl, rfl, h0, r0⟩ := trodAll_cons hA
  obtain ⟨v1, vs1, d1, ds1, p1, q1, rfl, rfl, rfl, h1, r1⟩ := trodAll_cons r0
  obtain ⟨rfl, rfl, rfl⟩ := trodAll_nil r1
  obtain rfl : args = #[v0, v1] := by cases args; simp_all
  obtain ⟨rfl, rfl⟩ := trodVars_none hV
  obtain ⟨a0, len0, cap0, rfl⟩ := okWide_slice Tryz.underlying22 (hval 0 22 v0 rfl rfl)
  have k0 := h0
  have lt0 : ∀ x ∈ p0, x.block < W.heap.size := by obtain ⟨m, hm⟩ := k0; exact DataW.trod_lt m _ _ _ hm
  obtain ⟨z0, w0⟩ : ∃ zs, IsRow .u8 W a0 len0 cap0 zs := by
    obtain ⟨fuel, hf⟩ := h0
    rcases open_ints Tryz.underlying22 Tryz.underlying5 (by kernel_rfl) hf with ⟨hcs, _⟩ | ⟨x, l, c, zs, hcs, _, hl, hm, hz, _, hcell, hwz⟩
    · simp [Value.cells] at hcs
      obtain ⟨rfl, rfl, rfl⟩ := hcs
      exact ⟨[], .inl ⟨rfl, rfl, rfl, rfl⟩⟩
    · simp [Value.cells] at hcs
      obtain ⟨rfl, rfl, rfl⟩ := hcs
      exact ⟨zs, .inr ⟨_, rfl, hl, hm, by simpa using hz, hcell, hwz⟩⟩
  obtain ⟨a1, len1, cap1, rfl⟩ := okWide_slice Tryz.underlying22 (hval 1 22 v1 rfl rfl)
  have k1 := h1
  have lt1 : ∀ x ∈ p1, x.block < W.heap.size := by obtain ⟨m, hm⟩ := k1; exact DataW.trod_lt m _ _ _ hm
  obtain ⟨z1, w1⟩ : ∃ zs, IsRow .u8 W a1 len1 cap1 zs := by
    obtain ⟨fuel, hf⟩ := h1
    rcases open_ints Tryz.underlying22 Tryz.underlying5 (by kernel_rfl) hf with ⟨hcs, _⟩ | ⟨x, l, c, zs, hcs, _, hl, hm, hz, _, hcell, hwz⟩
    · simp [Value.cells] at hcs
      obtain ⟨rfl, rfl, rfl⟩ := hcs
      exact ⟨[], .inl ⟨rfl, rfl, rfl, rfl⟩⟩
    · simp [Value.cells] at hcs
      obtain ⟨rfl, rfl, rfl⟩ := hcs
      exact ⟨zs, .inr ⟨_, rfl, hl, hm, by simpa using hz, hcell, hwz⟩⟩
  clear hA0 hval0
  refine (walk a0 len0 cap0 z0 a1 len1 cap1 z1 W w0 w1).mono fun e W' ⟨he, bel⟩ => ?_
  subst he
  exact ⟨_, rfl, _, _, _, [], _, [], hW', trodAll_mk1 (shut_bool Tryz.underlying4 _), (trodAll_cons_mk (Below.trod laidOut (by kernel_rfl) (of_decide_eq_true (by kernel_rfl)) k0 bel lt0) (trodAll_cons_mk (Below.trod laidOut (by kernel_rfl) (of_decide_eq_true (by kernel_rfl)) k1 bel lt1) trodAll_mk0)), rfl, bel.frame _, fun h => by cases h⟩

theorem over : Rows.fnAlgebraRow.holds Tryz.pinned (OpenSpec.ofChange Rows.fnAlgebraSpec) :=
  OpenClaim.holds_of_wide 4 Tryz.f4 rfl rfl rfl rfl rfl rfl rfl ⟨rfl, rfl, rfl, rfl, rfl⟩ rfl rfl rfl rfl rfl (by kernel_rfl) Tryz.func4 (by kernel_rfl)
    (of_decide_eq_true (by kernel_rfl)) (by unfold Func.isWrapper; first | (rw [if_pos (by decide +kernel)]; kernel_rfl) | (rw [if_neg (by decide +kernel)]; exact ⟨rfl, rfl⟩))
    (fun os started H enc _ => lifted os started H enc)

/-- ████ THE STATEMENT ████ -/
theorem proved : Rows.FnAlgebraSaid := over
#print axioms proved
end Go.Proofs.YtkmggfhfefaehaaGreat.fnAlgebra
