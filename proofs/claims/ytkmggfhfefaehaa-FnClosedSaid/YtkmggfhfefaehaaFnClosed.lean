import Derived.Test.YtkmggfhfefaehaaRows
import Derived.WalkKit
import Derived.ProofKit
import Derived.OpenShut
import Derived.ShutString
import Derived.ChangeOld
import Derived.Below
import Derived.Test.YtkmggfhfefaehaaLs
import Derived.Test.YtkmggfhfefaehaaSt
import Derived.Test.YtkmggfhfefaehaaGuFnClosed
/- The law 'FnClosed' holds: its row, from the machine's run. -/
set_option linter.unusedSimpArgs false
set_option linter.unusedVariables false
set_option linter.unnecessarySimpa false
namespace Go.Proofs.Ytkmggfhfefaehaa.fnClosed
open Go.ChangeShapes Go.WideShapes Go.ChangeAt Go.RowKit
open Go.ChangeMaps (open_string shut_string)
set_option linter.unusedVariables false

theorem own : ownKnob Try.prog.godebug = none := by kernel_rfl
theorem laidOut : laidOutB Try.prog = true := by kernel_rfl

/-- WHAT THE WALK IS TOLD OF A SLICE OF INTEGERS THAT CAME IN: it is nil; or it leads to a row of 'cap' cells, the numbers 'zs' (the first 'len' are its elements, the rest its spare room), each fitting its kind. -/
def IsRow (k : IntKind) (w : World) (a : Option Addr) (len cap : Nat) (zs : List Int) : Prop :=
  (a = none ∧ len = 0 ∧ cap = 0 ∧ zs = []) ∨
  ∃ x, a = some x ∧ len ≤ cap ∧ cap ≤ maxLen ∧ zs.length = cap ∧ (∀ i, i < zs.length → w.cell? (x.add i) = some (.int k (zs.getD i 0))) ∧ ∀ n ∈ zs, (Lit.int k n).wf = true

def fidL : List (Nat × Nat) := [(635, 4), (383, 8), (24, 13), (636, 20), (618, 21), (637, 22), (638, 23), (639, 24), (640, 25), (620, 26), (641, 27), (617, 28), (642, 29), (616, 31), (598, 32), (412, 35), (647, 37), (655, 42), (107, 44), (660, 45), (652, 47), (670, 48), (658, 49), (92, 50), (554, 51), (671, 53), (672, 55), (649, 56), (656, 57), (645, 58), (301, 59), (673, 60), (302, 61), (674, 62), (659, 63), (386, 64), (661, 65), (337, 66), (654, 67), (653, 68), (429, 74), (340, 75), (430, 76), (389, 78), (98, 80), (410, 82), (385, 83), (552, 85), (93, 86), (91, 87), (390, 88), (685, 89), (677, 90), (686, 91), (687, 92), (662, 93), (304, 94), (676, 95), (100, 96), (675, 97), (436, 99), (391, 102), (572, 103), (140, 104), (159, 106), (678, 107), (356, 108), (94, 109), (160, 130)]
def fid : Nat → FuncId := fun i => (fidL.lookup i).getD 0
def eqs : List (TypeId × List (Option IntKind)) := []
theorem m4 : GL.fnMt Try.prog fid eqs Try.f4 GL.g635 = true := by kernel_rfl
theorem m8 : GL.fnMt Try.prog fid eqs Try.f8 GL.g383 = true := by kernel_rfl
theorem m13 : GL.fnMt Try.prog fid eqs Try.f13 GL.g24 = true := by kernel_rfl
theorem m20 : GL.fnMt Try.prog fid eqs Try.f20 GL.g636 = true := by kernel_rfl
theorem m21 : GL.fnMt Try.prog fid eqs Try.f21 GL.g618 = true := by kernel_rfl
theorem m22 : GL.fnMt Try.prog fid eqs Try.f22 GL.g637 = true := by kernel_rfl
theorem m23 : GL.fnMt Try.prog fid eqs Try.f23 GL.g638 = true := by kernel_rfl
theorem m24 : GL.fnMt Try.prog fid eqs Try.f24 GL.g639 = true := by kernel_rfl
theorem m25 : GL.fnMt Try.prog fid eqs Try.f25 GL.g640 = true := by kernel_rfl
theorem m26 : GL.fnMt Try.prog fid eqs Try.f26 GL.g620 = true := by kernel_rfl
theorem m27 : GL.fnMt Try.prog fid eqs Try.f27 GL.g641 = true := by kernel_rfl
theorem m28 : GL.fnMt Try.prog fid eqs Try.f28 GL.g617 = true := by kernel_rfl
theorem m29 : GL.fnMt Try.prog fid eqs Try.f29 GL.g642 = true := by kernel_rfl
theorem m31 : GL.fnMt Try.prog fid eqs Try.f31 GL.g616 = true := by kernel_rfl
theorem m32 : GL.fnMt Try.prog fid eqs Try.f32 GL.g598 = true := by kernel_rfl
theorem m35 : GL.fnMt Try.prog fid eqs Try.f35 GL.g412 = true := by kernel_rfl
theorem m37 : GL.fnMt Try.prog fid eqs Try.f37 GL.g647 = true := by kernel_rfl
theorem m42 : GL.fnMt Try.prog fid eqs Try.f42 GL.g655 = true := by kernel_rfl
theorem m44 : GL.fnMt Try.prog fid eqs Try.f44 GL.g107 = true := by kernel_rfl
theorem m45 : GL.fnMt Try.prog fid eqs Try.f45 GL.g660 = true := by kernel_rfl
theorem m47 : GL.fnMt Try.prog fid eqs Try.f47 GL.g652 = true := by kernel_rfl
theorem m48 : GL.fnMt Try.prog fid eqs Try.f48 GL.g670 = true := by kernel_rfl
theorem m49 : GL.fnMt Try.prog fid eqs Try.f49 GL.g658 = true := by kernel_rfl
theorem m50 : GL.fnMt Try.prog fid eqs Try.f50 GL.g92 = true := by kernel_rfl
theorem m51 : GL.fnMt Try.prog fid eqs Try.f51 GL.g554 = true := by kernel_rfl
theorem m53 : GL.fnMt Try.prog fid eqs Try.f53 GL.g671 = true := by kernel_rfl
theorem m55 : GL.fnMt Try.prog fid eqs Try.f55 GL.g672 = true := by kernel_rfl
theorem m56 : GL.fnMt Try.prog fid eqs Try.f56 GL.g649 = true := by kernel_rfl
theorem m57 : GL.fnMt Try.prog fid eqs Try.f57 GL.g656 = true := by kernel_rfl
theorem m58 : GL.fnMt Try.prog fid eqs Try.f58 GL.g645 = true := by kernel_rfl
theorem m59 : GL.fnMt Try.prog fid eqs Try.f59 GL.g301 = true := by kernel_rfl
theorem m60 : GL.fnMt Try.prog fid eqs Try.f60 GL.g673 = true := by kernel_rfl
theorem m61 : GL.fnMt Try.prog fid eqs Try.f61 GL.g302 = true := by kernel_rfl
theorem m62 : GL.fnMt Try.prog fid eqs Try.f62 GL.g674 = true := by kernel_rfl
theorem m63 : GL.fnMt Try.prog fid eqs Try.f63 GL.g659 = true := by kernel_rfl
theorem m64 : GL.fnMt Try.prog fid eqs Try.f64 GL.g386 = true := by kernel_rfl
theorem m65 : GL.fnMt Try.prog fid eqs Try.f65 GL.g661 = true := by kernel_rfl
theorem m66 : GL.fnMt Try.prog fid eqs Try.f66 GL.g337 = true := by kernel_rfl
theorem m67 : GL.fnMt Try.prog fid eqs Try.f67 GL.g654 = true := by kernel_rfl
theorem m68 : GL.fnMt Try.prog fid eqs Try.f68 GL.g653 = true := by kernel_rfl
theorem m74 : GL.fnMt Try.prog fid eqs Try.f74 GL.g429 = true := by kernel_rfl
theorem m76 : GL.fnMt Try.prog fid eqs Try.f76 GL.g430 = true := by kernel_rfl
theorem m78 : GL.fnMt Try.prog fid eqs Try.f78 GL.g389 = true := by kernel_rfl
theorem m80 : GL.fnMt Try.prog fid eqs Try.f80 GL.g98 = true := by kernel_rfl
theorem m82 : GL.fnMt Try.prog fid eqs Try.f82 GL.g410 = true := by kernel_rfl
theorem m83 : GL.fnMt Try.prog fid eqs Try.f83 GL.g385 = true := by kernel_rfl
theorem m85 : GL.fnMt Try.prog fid eqs Try.f85 GL.g552 = true := by kernel_rfl
theorem m86 : GL.fnMt Try.prog fid eqs Try.f86 GL.g93 = true := by kernel_rfl
theorem m87 : GL.fnMt Try.prog fid eqs Try.f87 GL.g91 = true := by kernel_rfl
theorem m88 : GL.fnMt Try.prog fid eqs Try.f88 GL.g390 = true := by kernel_rfl
theorem m90 : GL.fnMt Try.prog fid eqs Try.f90 GL.g677 = true := by kernel_rfl
theorem m91 : GL.fnMt Try.prog fid eqs Try.f91 GL.g686 = true := by kernel_rfl
theorem m92 : GL.fnMt Try.prog fid eqs Try.f92 GL.g687 = true := by kernel_rfl
theorem m93 : GL.fnMt Try.prog fid eqs Try.f93 GL.g662 = true := by kernel_rfl
theorem m94 : GL.fnMt Try.prog fid eqs Try.f94 GL.g304 = true := by kernel_rfl
theorem m95 : GL.fnMt Try.prog fid eqs Try.f95 GL.g676 = true := by kernel_rfl
theorem m96 : GL.fnMt Try.prog fid eqs Try.f96 GL.g100 = true := by kernel_rfl
theorem m97 : GL.fnMt Try.prog fid eqs Try.f97 GL.g675 = true := by kernel_rfl
theorem m99 : GL.fnMt Try.prog fid eqs Try.f99 GL.g436 = true := by kernel_rfl
theorem m102 : GL.fnMt Try.prog fid eqs Try.f102 GL.g391 = true := by kernel_rfl
theorem m103 : GL.fnMt Try.prog fid eqs Try.f103 GL.g572 = true := by kernel_rfl
theorem m104 : GL.fnMt Try.prog fid eqs Try.f104 GL.g140 = true := by kernel_rfl
theorem m106 : GL.fnMt Try.prog fid eqs Try.f106 GL.g159 = true := by kernel_rfl
theorem m107 : GL.fnMt Try.prog fid eqs Try.f107 GL.g678 = true := by kernel_rfl
theorem m108 : GL.fnMt Try.prog fid eqs Try.f108 GL.g356 = true := by kernel_rfl
theorem m109 : GL.fnMt Try.prog fid eqs Try.f109 GL.g94 = true := by kernel_rfl
theorem m130 : GL.fnMt Try.prog fid eqs Try.f130 GL.g160 = true := by kernel_rfl
theorem sorF : GL.CallOK Try.prog fid fun g args h => if g = 340 then GL.sortE args h else none := GL.sortE_ok ⟨_, Try.func75, by kernel_rfl, by kernel_rfl⟩ (fun blk off cap ss W hH hb hs => Go.Proofs.AnyM.slices_Sort_int Try.sortA blk off cap ss W hH hb hs) (fun p cap W => Go.Proofs.AnyM.slices_Sort_int_none Try.sortA p cap W)
theorem stE : ∀ xs ys : List Int, Try.cmpT xs ys = GL.cmpT xs ys
  | [], [] => rfl
  | [], _ :: _ => rfl
  | _ :: _, [] => rfl
  | x :: xs, y :: ys => by rw [Try.cmpT, GL.cmpT, stE xs ys]
theorem stF : GL.CallOK Try.prog fid fun g args h => if g = 685 then GL.sortTE args h else none := GL.sortTE_ok ⟨_, Try.func89, by kernel_rfl, by kernel_rfl⟩ (fun blk off cap enc cs W hs hH hb hL => by
  have h := Try.sortTupC blk off cap enc cs W hs hH hb hL
  rw [show (fun i j : Nat => Try.cmpT (cs.getD i []) (cs.getD j [])) = GL.cfT cs from funext fun i => funext fun j => stE _ _] at h
  exact h) (fun p cap W => Try.sortTupNone p cap W)
theorem extOK : ∀ f e, GL.p.ext f = some e → GL.CallOK Try.prog fid fun g args h => if g = f then e args h else none := fun f e h => by
  have h : (bif Nat.beq f 340 then some GL.sortE else bif Nat.beq f 685 then some GL.sortTE else none) = some e := h
  rcases GL.bif_some h with ⟨rfl, h⟩ | ⟨_, h⟩
  · cases h; exact sorF
  rcases GL.bif_some h with ⟨rfl, h⟩ | ⟨_, h⟩
  · cases h; exact stF
  cases h
theorem allOK : GL.AllOK Try.prog fid eqs GL.fnL :=
  .cons Try.func4 rfl m4 (
  .cons Try.func8 rfl m8 (
  .cons Try.func13 rfl m13 (
  .cons Try.func20 rfl m20 (
  .cons Try.func21 rfl m21 (
  .cons Try.func22 rfl m22 (
  .cons Try.func23 rfl m23 (
  .cons Try.func24 rfl m24 (
  .cons Try.func25 rfl m25 (
  .cons Try.func26 rfl m26 (
  .cons Try.func27 rfl m27 (
  .cons Try.func28 rfl m28 (
  .cons Try.func29 rfl m29 (
  .cons Try.func31 rfl m31 (
  .cons Try.func32 rfl m32 (
  .cons Try.func35 rfl m35 (
  .cons Try.func37 rfl m37 (
  .cons Try.func42 rfl m42 (
  .cons Try.func44 rfl m44 (
  .cons Try.func45 rfl m45 (
  .cons Try.func47 rfl m47 (
  .cons Try.func48 rfl m48 (
  .cons Try.func49 rfl m49 (
  .cons Try.func50 rfl m50 (
  .cons Try.func51 rfl m51 (
  .cons Try.func53 rfl m53 (
  .cons Try.func55 rfl m55 (
  .cons Try.func56 rfl m56 (
  .cons Try.func57 rfl m57 (
  .cons Try.func58 rfl m58 (
  .cons Try.func59 rfl m59 (
  .cons Try.func60 rfl m60 (
  .cons Try.func61 rfl m61 (
  .cons Try.func62 rfl m62 (
  .cons Try.func63 rfl m63 (
  .cons Try.func64 rfl m64 (
  .cons Try.func65 rfl m65 (
  .cons Try.func66 rfl m66 (
  .cons Try.func67 rfl m67 (
  .cons Try.func68 rfl m68 (
  .cons Try.func74 rfl m74 (
  .cons Try.func76 rfl m76 (
  .cons Try.func78 rfl m78 (
  .cons Try.func80 rfl m80 (
  .cons Try.func82 rfl m82 (
  .cons Try.func83 rfl m83 (
  .cons Try.func85 rfl m85 (
  .cons Try.func86 rfl m86 (
  .cons Try.func87 rfl m87 (
  .cons Try.func88 rfl m88 (
  .cons Try.func90 rfl m90 (
  .cons Try.func91 rfl m91 (
  .cons Try.func92 rfl m92 (
  .cons Try.func93 rfl m93 (
  .cons Try.func94 rfl m94 (
  .cons Try.func95 rfl m95 (
  .cons Try.func96 rfl m96 (
  .cons Try.func97 rfl m97 (
  .cons Try.func99 rfl m99 (
  .cons Try.func102 rfl m102 (
  .cons Try.func103 rfl m103 (
  .cons Try.func104 rfl m104 (
  .cons Try.func106 rfl m106 (
  .cons Try.func107 rfl m107 (
  .cons Try.func108 rfl m108 (
  .cons Try.func109 rfl m109 (
  .cons Try.func130 rfl m130 (.nil)))))))))))))))))))))))))))))))))))))))))))))))))))))))))))))))))))
theorem progOK : GL.ProgOK Try.prog fid eqs GL.p :=
  ⟨by kernel_rfl, (GL.eqs_sound (by kernel_rfl)), allOK.fn, extOK⟩
theorem walk (a0 : Option Addr) (len0 cap0 : Nat) (z0 : List Int) (a1 : Option Addr) (len1 cap1 : Nat) (z1 : List Int) (w : World) (w0 : IsRow .u8 w a0 len0 cap0 z0) (w1 : IsRow .u8 w a1 len1 cap1 z1) :
    Calls Try.prog 4 #[.slice a0 len0 cap0, .slice a1 len1 cap1] w fun e w' => e = .returned (.bool true) ∧ Below w.heap.size w w' :=
  GL.calls2 progOK (f := 635) (fun _ _ _ _ _ ha hb => GL.FnClosed_ok ha hb) w0 w1

/-! ### THE ROW's STEP: WRITTEN OUT: LEAVE IT -/
set_option maxRecDepth 100000 in
theorem lifted (os : Os) (started : os.Started) (H : Type) (enc : TypeId × Value → H) :
    ReturnsInHanded {} Try.checked os 4 .any (Rows.fnClosedSpec.pre6 enc Try.prog Try.f4 Rows.fnClosedRow.domain false) (Rows.fnClosedSpec.post enc Try.prog Try.f4 false true false false) := by
  refine returnsInHanded_of_change (C := Try.checked) own started (by kernel_rfl) Try.func4
    (ChangeSpec.witness6 (enc := enc) (C := Try.checked) false ⟨#[], #[.slice none 0 0, .slice none 0 0], []⟩ 8 (by kernel_rfl) (by kernel_rfl) (by kernel_rfl) (by kernel_rfl)) ?_
  intro W base args ds gs before hval0 hW hcnd _
  have hval : ∀ (j : Nat) t v, Try.f4.params[j]? = some t → args[j]? = some v → Value.okWide Try.prog W .any base t v := hval0
  have hW' := hW
  obtain ⟨p, q, hA0, hV, rfl, hfz, hnd⟩ := hW
  have hA : DataW.TrodAll enc Try.prog W 0 (fun _ => true) true Try.f4.params.toList args.toList ds p := hA0
  rw [Try.params4] at hA hval
  obtain ⟨v0, vs0, d0, ds0, p0, q0, hargs, rfl, rfl, h0, r0⟩ := trodAll_cons hA
  obtain ⟨v1, vs1, d1, ds1, p1, q1, rfl, rfl, rfl, h1, r1⟩ := trodAll_cons r0
  obtain ⟨rfl, rfl, rfl⟩ := trodAll_nil r1
  obtain rfl : args = #[v0, v1] := by cases args; simp_all
  obtain ⟨rfl, rfl⟩ := trodVars_none hV
  obtain ⟨a0, len0, cap0, rfl⟩ := okWide_slice Try.underlying22 (hval 0 22 v0 rfl rfl)
  have k0 := h0
  have lt0 : ∀ x ∈ p0, x.block < W.heap.size := by obtain ⟨m, hm⟩ := k0; exact DataW.trod_lt m _ _ _ hm
  obtain ⟨z0, w0⟩ : ∃ zs, IsRow .u8 W a0 len0 cap0 zs := by
    obtain ⟨fuel, hf⟩ := h0
    rcases open_ints Try.underlying22 Try.underlying5 (by kernel_rfl) hf with ⟨hcs, _⟩ | ⟨x, l, c, zs, hcs, _, hl, hm, hz, _, hcell, hwz⟩
    · simp [Value.cells] at hcs
      obtain ⟨rfl, rfl, rfl⟩ := hcs
      exact ⟨[], .inl ⟨rfl, rfl, rfl, rfl⟩⟩
    · simp [Value.cells] at hcs
      obtain ⟨rfl, rfl, rfl⟩ := hcs
      exact ⟨zs, .inr ⟨_, rfl, hl, hm, by simpa using hz, hcell, hwz⟩⟩
  obtain ⟨a1, len1, cap1, rfl⟩ := okWide_slice Try.underlying22 (hval 1 22 v1 rfl rfl)
  have k1 := h1
  have lt1 : ∀ x ∈ p1, x.block < W.heap.size := by obtain ⟨m, hm⟩ := k1; exact DataW.trod_lt m _ _ _ hm
  obtain ⟨z1, w1⟩ : ∃ zs, IsRow .u8 W a1 len1 cap1 zs := by
    obtain ⟨fuel, hf⟩ := h1
    rcases open_ints Try.underlying22 Try.underlying5 (by kernel_rfl) hf with ⟨hcs, _⟩ | ⟨x, l, c, zs, hcs, _, hl, hm, hz, _, hcell, hwz⟩
    · simp [Value.cells] at hcs
      obtain ⟨rfl, rfl, rfl⟩ := hcs
      exact ⟨[], .inl ⟨rfl, rfl, rfl, rfl⟩⟩
    · simp [Value.cells] at hcs
      obtain ⟨rfl, rfl, rfl⟩ := hcs
      exact ⟨zs, .inr ⟨_, rfl, hl, hm, by simpa using hz, hcell, hwz⟩⟩
  clear hA0 hval0
  refine (walk a0 len0 cap0 z0 a1 len1 cap1 z1 W w0 w1).mono fun e W' ⟨he, bel⟩ => ?_
  subst he
  exact ⟨_, rfl, _, _, _, [], _, [], hW', trodAll_mk1 (shut_bool Try.underlying4 _), (trodAll_cons_mk (Below.trod laidOut (by kernel_rfl) (of_decide_eq_true (by kernel_rfl)) k0 bel lt0) (trodAll_cons_mk (Below.trod laidOut (by kernel_rfl) (of_decide_eq_true (by kernel_rfl)) k1 bel lt1) trodAll_mk0)), rfl, bel.frame _, fun h => by cases h⟩

theorem over : Rows.fnClosedRow.holds Try.pinned (OpenSpec.ofChange Rows.fnClosedSpec) :=
  OpenClaim.holds_of_wide 4 Try.f4 rfl rfl rfl rfl rfl rfl rfl ⟨rfl, rfl, rfl, rfl, rfl⟩ rfl rfl rfl rfl rfl (by kernel_rfl) Try.func4 (by kernel_rfl)
    (of_decide_eq_true (by kernel_rfl)) (by unfold Func.isWrapper; first | (rw [if_pos (by decide +kernel)]; kernel_rfl) | (rw [if_neg (by decide +kernel)]; exact ⟨rfl, rfl⟩))
    (fun os started H enc _ => lifted os started H enc)

/-- ████ THE STATEMENT ████ -/
theorem proved : Rows.FnClosedSaid := over
#print axioms proved
end Go.Proofs.Ytkmggfhfefaehaa.fnClosed
