import Derived.Test.YtkmggfhfefaehaaGreatRows
import Derived.WalkKit
import Derived.ProofKit
import Derived.OpenShut
import Derived.ShutString
import Derived.ChangeOld
import Derived.Below
import Derived.Test.YtkmggfhfefaehaaGreatLs
import Derived.Test.YtkmggfhfefaehaaGreatSt
import Derived.Test.YtkmggfhfefaehaaGreatGuFnLossless
/- The law 'FnLossless' holds: its row, from the machine's run. -/
set_option linter.unusedSimpArgs false
set_option linter.unusedVariables false
set_option linter.unnecessarySimpa false
namespace Go.Proofs.YtkmggfhfefaehaaGreat.fnLossless
open Go.ChangeShapes Go.WideShapes Go.ChangeAt Go.RowKit
open Go.ChangeMaps (open_string shut_string)
set_option linter.unusedVariables false

theorem own : ownKnob Tryz.prog.godebug = none := by kernel_rfl
theorem laidOut : laidOutB Tryz.prog = true := by kernel_rfl

/-- WHAT THE WALK IS TOLD OF A SLICE OF INTEGERS THAT CAME IN: it is nil; or it leads to a row of 'cap' cells, the numbers 'zs' (the first 'len' are its elements, the rest its spare room), each fitting its kind. -/
def IsRow (k : IntKind) (w : World) (a : Option Addr) (len cap : Nat) (zs : List Int) : Prop :=
  (a = none ∧ len = 0 ∧ cap = 0 ∧ zs = []) ∨
  ∃ x, a = some x ∧ len ≤ cap ∧ cap ≤ maxLen ∧ zs.length = cap ∧ (∀ i, i < zs.length → w.cell? (x.add i) = some (.int k (zs.getD i 0))) ∧ ∀ n ∈ zs, (Lit.int k n).wf = true

def fidL : List (Nat × Nat) := [(756, 5), (736, 7), (737, 8), (640, 9), (739, 11), (659, 19), (662, 20), (752, 26), (757, 30), (758, 31), (759, 32), (760, 33), (761, 34), (762, 35), (204, 36), (620, 37), (763, 38), (764, 39), (765, 40), (657, 41), (336, 43), (412, 44), (386, 45), (661, 46), (390, 47), (673, 48), (606, 49), (410, 50), (356, 51), (679, 52), (687, 53), (674, 54), (24, 55), (383, 56), (660, 58), (100, 66), (91, 68), (93, 69), (98, 70), (385, 72), (304, 73), (676, 74), (677, 75), (337, 76), (94, 77), (678, 78), (92, 80), (663, 83), (301, 84), (107, 85), (389, 86), (670, 89), (671, 90), (658, 91), (302, 92), (616, 93), (655, 94), (645, 95), (552, 96), (669, 97), (668, 98), (649, 99), (338, 100), (554, 101), (786, 102), (787, 103), (397, 104), (396, 105), (429, 106), (340, 107), (430, 108), (685, 109), (686, 110), (140, 113), (391, 115), (159, 116), (654, 120), (653, 121), (656, 122), (572, 123), (647, 124), (790, 125), (436, 126), (160, 130), (675, 132), (672, 133)]
def fid : Nat → FuncId := fun i => (fidL.lookup i).getD 0
def eqs : List (TypeId × List (Option IntKind)) := []
theorem m5 : GL.fnMt Tryz.prog fid eqs Tryz.f5 GL.g756 = true := by kernel_rfl
theorem m7 : GL.fnMt Tryz.prog fid eqs Tryz.f7 GL.g736 = true := by kernel_rfl
theorem m8 : GL.fnMt Tryz.prog fid eqs Tryz.f8 GL.g737 = true := by kernel_rfl
theorem m9 : GL.fnMt Tryz.prog fid eqs Tryz.f9 GL.g640 = true := by kernel_rfl
theorem m11 : GL.fnMt Tryz.prog fid eqs Tryz.f11 GL.g739 = true := by kernel_rfl
theorem m19 : GL.fnMt Tryz.prog fid eqs Tryz.f19 GL.g659 = true := by kernel_rfl
theorem m20 : GL.fnMt Tryz.prog fid eqs Tryz.f20 GL.g662 = true := by kernel_rfl
theorem m26 : GL.fnMt Tryz.prog fid eqs Tryz.f26 GL.g752 = true := by kernel_rfl
theorem m30 : GL.fnMt Tryz.prog fid eqs Tryz.f30 GL.g757 = true := by kernel_rfl
theorem m31 : GL.fnMt Tryz.prog fid eqs Tryz.f31 GL.g758 = true := by kernel_rfl
theorem m32 : GL.fnMt Tryz.prog fid eqs Tryz.f32 GL.g759 = true := by kernel_rfl
theorem m33 : GL.fnMt Tryz.prog fid eqs Tryz.f33 GL.g760 = true := by kernel_rfl
theorem m34 : GL.fnMt Tryz.prog fid eqs Tryz.f34 GL.g761 = true := by kernel_rfl
theorem m35 : GL.fnMt Tryz.prog fid eqs Tryz.f35 GL.g762 = true := by kernel_rfl
theorem m36 : GL.fnMt Tryz.prog fid eqs Tryz.f36 GL.g204 = true := by kernel_rfl
theorem m37 : GL.fnMt Tryz.prog fid eqs Tryz.f37 GL.g620 = true := by kernel_rfl
theorem m38 : GL.fnMt Tryz.prog fid eqs Tryz.f38 GL.g763 = true := by kernel_rfl
theorem m39 : GL.fnMt Tryz.prog fid eqs Tryz.f39 GL.g764 = true := by kernel_rfl
theorem m40 : GL.fnMt Tryz.prog fid eqs Tryz.f40 GL.g765 = true := by kernel_rfl
theorem m41 : GL.fnMt Tryz.prog fid eqs Tryz.f41 GL.g657 = true := by kernel_rfl
theorem m43 : GL.fnMt Tryz.prog fid eqs Tryz.f43 GL.g336 = true := by kernel_rfl
theorem m44 : GL.fnMt Tryz.prog fid eqs Tryz.f44 GL.g412 = true := by kernel_rfl
theorem m45 : GL.fnMt Tryz.prog fid eqs Tryz.f45 GL.g386 = true := by kernel_rfl
theorem m46 : GL.fnMt Tryz.prog fid eqs Tryz.f46 GL.g661 = true := by kernel_rfl
theorem m47 : GL.fnMt Tryz.prog fid eqs Tryz.f47 GL.g390 = true := by kernel_rfl
theorem m48 : GL.fnMt Tryz.prog fid eqs Tryz.f48 GL.g673 = true := by kernel_rfl
theorem m49 : GL.fnMt Tryz.prog fid eqs Tryz.f49 GL.g606 = true := by kernel_rfl
theorem m50 : GL.fnMt Tryz.prog fid eqs Tryz.f50 GL.g410 = true := by kernel_rfl
theorem m51 : GL.fnMt Tryz.prog fid eqs Tryz.f51 GL.g356 = true := by kernel_rfl
theorem m52 : GL.fnMt Tryz.prog fid eqs Tryz.f52 GL.g679 = true := by kernel_rfl
theorem m53 : GL.fnMt Tryz.prog fid eqs Tryz.f53 GL.g687 = true := by kernel_rfl
theorem m54 : GL.fnMt Tryz.prog fid eqs Tryz.f54 GL.g674 = true := by kernel_rfl
theorem m55 : GL.fnMt Tryz.prog fid eqs Tryz.f55 GL.g24 = true := by kernel_rfl
theorem m56 : GL.fnMt Tryz.prog fid eqs Tryz.f56 GL.g383 = true := by kernel_rfl
theorem m58 : GL.fnMt Tryz.prog fid eqs Tryz.f58 GL.g660 = true := by kernel_rfl
theorem m66 : GL.fnMt Tryz.prog fid eqs Tryz.f66 GL.g100 = true := by kernel_rfl
theorem m68 : GL.fnMt Tryz.prog fid eqs Tryz.f68 GL.g91 = true := by kernel_rfl
theorem m69 : GL.fnMt Tryz.prog fid eqs Tryz.f69 GL.g93 = true := by kernel_rfl
theorem m70 : GL.fnMt Tryz.prog fid eqs Tryz.f70 GL.g98 = true := by kernel_rfl
theorem m72 : GL.fnMt Tryz.prog fid eqs Tryz.f72 GL.g385 = true := by kernel_rfl
theorem m73 : GL.fnMt Tryz.prog fid eqs Tryz.f73 GL.g304 = true := by kernel_rfl
theorem m74 : GL.fnMt Tryz.prog fid eqs Tryz.f74 GL.g676 = true := by kernel_rfl
theorem m75 : GL.fnMt Tryz.prog fid eqs Tryz.f75 GL.g677 = true := by kernel_rfl
theorem m76 : GL.fnMt Tryz.prog fid eqs Tryz.f76 GL.g337 = true := by kernel_rfl
theorem m77 : GL.fnMt Tryz.prog fid eqs Tryz.f77 GL.g94 = true := by kernel_rfl
theorem m78 : GL.fnMt Tryz.prog fid eqs Tryz.f78 GL.g678 = true := by kernel_rfl
theorem m80 : GL.fnMt Tryz.prog fid eqs Tryz.f80 GL.g92 = true := by kernel_rfl
theorem m83 : GL.fnMt Tryz.prog fid eqs Tryz.f83 GL.g663 = true := by kernel_rfl
theorem m84 : GL.fnMt Tryz.prog fid eqs Tryz.f84 GL.g301 = true := by kernel_rfl
theorem m85 : GL.fnMt Tryz.prog fid eqs Tryz.f85 GL.g107 = true := by kernel_rfl
theorem m86 : GL.fnMt Tryz.prog fid eqs Tryz.f86 GL.g389 = true := by kernel_rfl
theorem m89 : GL.fnMt Tryz.prog fid eqs Tryz.f89 GL.g670 = true := by kernel_rfl
theorem m90 : GL.fnMt Tryz.prog fid eqs Tryz.f90 GL.g671 = true := by kernel_rfl
theorem m91 : GL.fnMt Tryz.prog fid eqs Tryz.f91 GL.g658 = true := by kernel_rfl
theorem m92 : GL.fnMt Tryz.prog fid eqs Tryz.f92 GL.g302 = true := by kernel_rfl
theorem m93 : GL.fnMt Tryz.prog fid eqs Tryz.f93 GL.g616 = true := by kernel_rfl
theorem m94 : GL.fnMt Tryz.prog fid eqs Tryz.f94 GL.g655 = true := by kernel_rfl
theorem m95 : GL.fnMt Tryz.prog fid eqs Tryz.f95 GL.g645 = true := by kernel_rfl
theorem m96 : GL.fnMt Tryz.prog fid eqs Tryz.f96 GL.g552 = true := by kernel_rfl
theorem m97 : GL.fnMt Tryz.prog fid eqs Tryz.f97 GL.g669 = true := by kernel_rfl
theorem m98 : GL.fnMt Tryz.prog fid eqs Tryz.f98 GL.g668 = true := by kernel_rfl
theorem m99 : GL.fnMt Tryz.prog fid eqs Tryz.f99 GL.g649 = true := by kernel_rfl
theorem m100 : GL.fnMt Tryz.prog fid eqs Tryz.f100 GL.g338 = true := by kernel_rfl
theorem m101 : GL.fnMt Tryz.prog fid eqs Tryz.f101 GL.g554 = true := by kernel_rfl
theorem m102 : GL.fnMt Tryz.prog fid eqs Tryz.f102 GL.g786 = true := by kernel_rfl
theorem m103 : GL.fnMt Tryz.prog fid eqs Tryz.f103 GL.g787 = true := by kernel_rfl
theorem m104 : GL.fnMt Tryz.prog fid eqs Tryz.f104 GL.g397 = true := by kernel_rfl
theorem m105 : GL.fnMt Tryz.prog fid eqs Tryz.f105 GL.g396 = true := by kernel_rfl
theorem m106 : GL.fnMt Tryz.prog fid eqs Tryz.f106 GL.g429 = true := by kernel_rfl
theorem m108 : GL.fnMt Tryz.prog fid eqs Tryz.f108 GL.g430 = true := by kernel_rfl
theorem m110 : GL.fnMt Tryz.prog fid eqs Tryz.f110 GL.g686 = true := by kernel_rfl
theorem m113 : GL.fnMt Tryz.prog fid eqs Tryz.f113 GL.g140 = true := by kernel_rfl
theorem m115 : GL.fnMt Tryz.prog fid eqs Tryz.f115 GL.g391 = true := by kernel_rfl
theorem m116 : GL.fnMt Tryz.prog fid eqs Tryz.f116 GL.g159 = true := by kernel_rfl
theorem m120 : GL.fnMt Tryz.prog fid eqs Tryz.f120 GL.g654 = true := by kernel_rfl
theorem m121 : GL.fnMt Tryz.prog fid eqs Tryz.f121 GL.g653 = true := by kernel_rfl
theorem m122 : GL.fnMt Tryz.prog fid eqs Tryz.f122 GL.g656 = true := by kernel_rfl
theorem m123 : GL.fnMt Tryz.prog fid eqs Tryz.f123 GL.g572 = true := by kernel_rfl
theorem m124 : GL.fnMt Tryz.prog fid eqs Tryz.f124 GL.g647 = true := by kernel_rfl
theorem m125 : GL.fnMt Tryz.prog fid eqs Tryz.f125 GL.g790 = true := by kernel_rfl
theorem m126 : GL.fnMt Tryz.prog fid eqs Tryz.f126 GL.g436 = true := by kernel_rfl
theorem m130 : GL.fnMt Tryz.prog fid eqs Tryz.f130 GL.g160 = true := by kernel_rfl
theorem m132 : GL.fnMt Tryz.prog fid eqs Tryz.f132 GL.g675 = true := by kernel_rfl
theorem m133 : GL.fnMt Tryz.prog fid eqs Tryz.f133 GL.g672 = true := by kernel_rfl
theorem sorF : GL.CallOK Tryz.prog fid fun g args h => if g = 340 then GL.sortE args h else none := GL.sortE_ok ⟨_, Tryz.func107, by kernel_rfl, by kernel_rfl⟩ (fun blk off cap ss W hH hb hs => Go.Proofs.AnyM.slices_Sort_int Tryz.sortA blk off cap ss W hH hb hs) (fun p cap W => Go.Proofs.AnyM.slices_Sort_int_none Tryz.sortA p cap W)
theorem stE : ∀ xs ys : List Int, Tryz.cmpT xs ys = GL.cmpT xs ys
  | [], [] => rfl
  | [], _ :: _ => rfl
  | _ :: _, [] => rfl
  | x :: xs, y :: ys => by rw [Tryz.cmpT, GL.cmpT, stE xs ys]
theorem stF : GL.CallOK Tryz.prog fid fun g args h => if g = 685 then GL.sortTE args h else none := GL.sortTE_ok ⟨_, Tryz.func109, by kernel_rfl, by kernel_rfl⟩ (fun blk off cap enc cs W hs hH hb hL => by
  have h := Tryz.sortTupC blk off cap enc cs W hs hH hb hL
  rw [show (fun i j : Nat => Tryz.cmpT (cs.getD i []) (cs.getD j [])) = GL.cfT cs from funext fun i => funext fun j => stE _ _] at h
  exact h) (fun p cap W => Tryz.sortTupNone p cap W)
theorem extOK : ∀ f e, GL.p.ext f = some e → GL.CallOK Tryz.prog fid fun g args h => if g = f then e args h else none := fun f e h => by
  have h : (bif Nat.beq f 340 then some GL.sortE else bif Nat.beq f 685 then some GL.sortTE else none) = some e := h
  rcases GL.bif_some h with ⟨rfl, h⟩ | ⟨_, h⟩
  · cases h; exact sorF
  rcases GL.bif_some h with ⟨rfl, h⟩ | ⟨_, h⟩
  · cases h; exact stF
  cases h
theorem allOK : GL.AllOK Tryz.prog fid eqs GL.fnL :=
  .cons Tryz.func5 rfl m5 (
  .cons Tryz.func7 rfl m7 (
  .cons Tryz.func8 rfl m8 (
  .cons Tryz.func9 rfl m9 (
  .cons Tryz.func11 rfl m11 (
  .cons Tryz.func19 rfl m19 (
  .cons Tryz.func20 rfl m20 (
  .cons Tryz.func26 rfl m26 (
  .cons Tryz.func30 rfl m30 (
  .cons Tryz.func31 rfl m31 (
  .cons Tryz.func32 rfl m32 (
  .cons Tryz.func33 rfl m33 (
  .cons Tryz.func34 rfl m34 (
  .cons Tryz.func35 rfl m35 (
  .cons Tryz.func36 rfl m36 (
  .cons Tryz.func37 rfl m37 (
  .cons Tryz.func38 rfl m38 (
  .cons Tryz.func39 rfl m39 (
  .cons Tryz.func40 rfl m40 (
  .cons Tryz.func41 rfl m41 (
  .cons Tryz.func43 rfl m43 (
  .cons Tryz.func44 rfl m44 (
  .cons Tryz.func45 rfl m45 (
  .cons Tryz.func46 rfl m46 (
  .cons Tryz.func47 rfl m47 (
  .cons Tryz.func48 rfl m48 (
  .cons Tryz.func49 rfl m49 (
  .cons Tryz.func50 rfl m50 (
  .cons Tryz.func51 rfl m51 (
  .cons Tryz.func52 rfl m52 (
  .cons Tryz.func53 rfl m53 (
  .cons Tryz.func54 rfl m54 (
  .cons Tryz.func55 rfl m55 (
  .cons Tryz.func56 rfl m56 (
  .cons Tryz.func58 rfl m58 (
  .cons Tryz.func66 rfl m66 (
  .cons Tryz.func68 rfl m68 (
  .cons Tryz.func69 rfl m69 (
  .cons Tryz.func70 rfl m70 (
  .cons Tryz.func72 rfl m72 (
  .cons Tryz.func73 rfl m73 (
  .cons Tryz.func74 rfl m74 (
  .cons Tryz.func75 rfl m75 (
  .cons Tryz.func76 rfl m76 (
  .cons Tryz.func77 rfl m77 (
  .cons Tryz.func78 rfl m78 (
  .cons Tryz.func80 rfl m80 (
  .cons Tryz.func83 rfl m83 (
  .cons Tryz.func84 rfl m84 (
  .cons Tryz.func85 rfl m85 (
  .cons Tryz.func86 rfl m86 (
  .cons Tryz.func89 rfl m89 (
  .cons Tryz.func90 rfl m90 (
  .cons Tryz.func91 rfl m91 (
  .cons Tryz.func92 rfl m92 (
  .cons Tryz.func93 rfl m93 (
  .cons Tryz.func94 rfl m94 (
  .cons Tryz.func95 rfl m95 (
  .cons Tryz.func96 rfl m96 (
  .cons Tryz.func97 rfl m97 (
  .cons Tryz.func98 rfl m98 (
  .cons Tryz.func99 rfl m99 (
  .cons Tryz.func100 rfl m100 (
  .cons Tryz.func101 rfl m101 (
  .cons Tryz.func102 rfl m102 (
  .cons Tryz.func103 rfl m103 (
  .cons Tryz.func104 rfl m104 (
  .cons Tryz.func105 rfl m105 (
  .cons Tryz.func106 rfl m106 (
  .cons Tryz.func108 rfl m108 (
  .cons Tryz.func110 rfl m110 (
  .cons Tryz.func113 rfl m113 (
  .cons Tryz.func115 rfl m115 (
  .cons Tryz.func116 rfl m116 (
  .cons Tryz.func120 rfl m120 (
  .cons Tryz.func121 rfl m121 (
  .cons Tryz.func122 rfl m122 (
  .cons Tryz.func123 rfl m123 (
  .cons Tryz.func124 rfl m124 (
  .cons Tryz.func125 rfl m125 (
  .cons Tryz.func126 rfl m126 (
  .cons Tryz.func130 rfl m130 (
  .cons Tryz.func132 rfl m132 (
  .cons Tryz.func133 rfl m133 (.nil))))))))))))))))))))))))))))))))))))))))))))))))))))))))))))))))))))))))))))))))))))
theorem progOK : GL.ProgOK Tryz.prog fid eqs GL.p :=
  ⟨by kernel_rfl, (GL.eqs_sound (by kernel_rfl)), allOK.fn, extOK⟩
theorem walk (a0 : Option Addr) (len0 cap0 : Nat) (z0 : List Int) (a1 : Option Addr) (len1 cap1 : Nat) (z1 : List Int) (w : World) (w0 : IsRow .u8 w a0 len0 cap0 z0) (w1 : IsRow .u8 w a1 len1 cap1 z1) :
    Calls Tryz.prog 5 #[.slice a0 len0 cap0, .slice a1 len1 cap1] w fun e w' => e = .returned (.bool true) ∧ Below w.heap.size w w' :=
  GL.calls2 progOK (f := 756) (fun _ _ _ _ _ ha hb => GL.FnLossless_ok ha hb) w0 w1

/-! ### THE ROW's STEP: WRITTEN OUT: LEAVE IT -/
set_option maxRecDepth 100000 in
theorem lifted (os : Os) (started : os.Started) (H : Type) (enc : TypeId × Value → H) :
    ReturnsInHanded {} Tryz.checked os 5 .any (Rows.fnLosslessSpec.pre6 enc Tryz.prog Tryz.f5 Rows.fnLosslessRow.domain false) (Rows.fnLosslessSpec.post enc Tryz.prog Tryz.f5 false true false false) := by
  refine returnsInHanded_of_change (C := Tryz.checked) own started (by kernel_rfl) Tryz.func5
    (ChangeSpec.witness6 (enc := enc) (C := Tryz.checked) false ⟨#[], #[.slice none 0 0, .slice none 0 0], []⟩ 8 (by kernel_rfl) (by kernel_rfl) (by kernel_rfl) (by kernel_rfl)) ?_
  intro W base args ds gs before hval0 hW hcnd _
  have hval : ∀ (j : Nat) t v, Tryz.f5.params[j]? = some t → args[j]? = some v → Value.okWide Tryz.prog W .any base t v := hval0
  have hW' := hW
  obtain ⟨p, q, hA0, hV, rfl, hfz, hnd⟩ := hW
  have hA : DataW.TrodAll enc Tryz.prog W 0 (fun _ => true) true Tryz.f5.params.toList args.toList ds p := hA0
  rw [Tryz.params5] at hA hval
  obtain ⟨v0, vs0, d0, ds0, p0, q0, hargs, rfl, rfl, h0, r0⟩ := trodAll_cons hA
  obtain ⟨v1, vs1, d1, ds1, p1, q1, rfl, rfl, rfl, h1, r1⟩ := trodAll_cons r0
  obtain ⟨rfl, rfl, rfl⟩ := trodAll_nil r1
  obtain rfl : args = #[v0, v1] := by cases args; simp_all
  obtain ⟨rfl, rfl⟩ := trodVars_none hV
  obtain ⟨a0, len0, cap0, rfl⟩ := okWide_slice Tryz.underlying22 (hval 0 22 v0 rfl rfl)
  have k0 := h0
  have lt0 : ∀ x ∈ p0, x.block < W.heap.size := by obtain ⟨m, hm⟩ := k0; exact DataW.trod_lt m _ _ _ hm
  obtain ⟨z0, w0⟩ : ∃ zs, IsRow .u8 W a0 len0 cap0 zs := by
    obtain ⟨fuel, hf⟩ := h0
    rcases open_ints Tryz.underlying22 Tryz.underlying5 (by kernel_rfl) hf with ⟨hcs, _⟩ | ⟨x, l, c, zs, hcs, _, hl, hm, hz, _, hcell, hwz⟩
    · simp [Value.cells] at hcs
      obtain ⟨rfl, rfl, rfl⟩ := hcs
      exact ⟨[], .inl ⟨rfl, rfl, rfl, rfl⟩⟩
    · simp [Value.cells] at hcs
      obtain ⟨rfl, rfl, rfl⟩ := hcs
      exact ⟨zs, .inr ⟨_, rfl, hl, hm, by simpa using hz, hcell, hwz⟩⟩
  obtain ⟨a1, len1, cap1, rfl⟩ := okWide_slice Tryz.underlying22 (hval 1 22 v1 rfl rfl)
  have k1 := h1
  have lt1 : ∀ x ∈ p1, x.block < W.heap.size := by obtain ⟨m, hm⟩ := k1; exact DataW.trod_lt m _ _ _ hm
  obtain ⟨z1, w1⟩ : ∃ zs, IsRow .u8 W a1 len1 cap1 zs := by
    obtain ⟨fuel, hf⟩ := h1
    rcases open_ints Tryz.underlying22 Tryz.underlying5 (by kernel_rfl) hf with ⟨hcs, _⟩ | ⟨x, l, c, zs, hcs, _, hl, hm, hz, _, hcell, hwz⟩
    · simp [Value.cells] at hcs
      obtain ⟨rfl, rfl, rfl⟩ := hcs
      exact ⟨[], .inl ⟨rfl, rfl, rfl, rfl⟩⟩
    · simp [Value.cells] at hcs
      obtain ⟨rfl, rfl, rfl⟩ := hcs
      exact ⟨zs, .inr ⟨_, rfl, hl, hm, by simpa using hz, hcell, hwz⟩⟩
  clear hA0 hval0
  refine (walk a0 len0 cap0 z0 a1 len1 cap1 z1 W w0 w1).mono fun e W' ⟨he, bel⟩ => ?_
  subst he
  exact ⟨_, rfl, _, _, _, [], _, [], hW', trodAll_mk1 (shut_bool Tryz.underlying4 _), (trodAll_cons_mk (Below.trod laidOut (by kernel_rfl) (of_decide_eq_true (by kernel_rfl)) k0 bel lt0) (trodAll_cons_mk (Below.trod laidOut (by kernel_rfl) (of_decide_eq_true (by kernel_rfl)) k1 bel lt1) trodAll_mk0)), rfl, bel.frame _, fun h => by cases h⟩

theorem over : Rows.fnLosslessRow.holds Tryz.pinned (OpenSpec.ofChange Rows.fnLosslessSpec) :=
  OpenClaim.holds_of_wide 5 Tryz.f5 rfl rfl rfl rfl rfl rfl rfl ⟨rfl, rfl, rfl, rfl, rfl⟩ rfl rfl rfl rfl rfl (by kernel_rfl) Tryz.func5 (by kernel_rfl)
    (of_decide_eq_true (by kernel_rfl)) (by unfold Func.isWrapper; first | (rw [if_pos (by decide +kernel)]; kernel_rfl) | (rw [if_neg (by decide +kernel)]; exact ⟨rfl, rfl⟩))
    (fun os started H enc _ => lifted os started H enc)

/-- ████ THE STATEMENT ████ -/
theorem proved : Rows.FnLosslessSaid := over
#print axioms proved
end Go.Proofs.YtkmggfhfefaehaaGreat.fnLossless
