import Derived.Test.YtflbkhbfbcbcoaaRows
import Derived.WalkKit
import Derived.ProofKit
import Derived.OpenShut
import Derived.ShutString
import Derived.ChangeOld
import Derived.Below
import Derived.Test.YtflbkhbfbcbcoaaLs
import Derived.Test.YtflbkhbfbcbcoaaSr
import Derived.Test.YtflbkhbfbcbcoaaGuFnApart
/- The law 'FnApart' holds: its row, from the machine's run. -/
set_option linter.unusedSimpArgs false
set_option linter.unusedVariables false
set_option linter.unnecessarySimpa false
namespace Go.Proofs.Ytflbkhbfbcbcoaa.fnApart
open Go.ChangeShapes Go.WideShapes Go.ChangeAt Go.RowKit
open Go.ChangeMaps (open_string shut_string)
set_option linter.unusedVariables false

theorem own : ownKnob Try.prog.godebug = none := by kernel_rfl
theorem laidOut : laidOutB Try.prog = true := by kernel_rfl

/-- WHAT THE WALK IS TOLD OF A SLICE OF INTEGERS THAT CAME IN: it is nil; or it leads to a row of 'cap' cells, the numbers 'zs' (the first 'len' are its elements, the rest its spare room), each fitting its kind. -/
def IsRow (k : IntKind) (w : World) (a : Option Addr) (len cap : Nat) (zs : List Int) : Prop :=
  (a = none ∧ len = 0 ∧ cap = 0 ∧ zs = []) ∨
  ∃ x, a = some x ∧ len ≤ cap ∧ cap ≤ maxLen ∧ zs.length = cap ∧ (∀ i, i < zs.length → w.cell? (x.add i) = some (.int k (zs.getD i 0))) ∧ ∀ n ∈ zs, (Lit.int k n).wf = true

def fidL : List (Nat × Nat) := [(622, 6), (623, 37), (624, 38), (625, 39), (383, 40), (626, 41), (204, 42), (627, 43), (628, 44), (24, 45), (629, 46), (630, 47), (631, 48), (632, 49), (633, 50), (634, 51), (91, 53), (107, 54), (98, 62), (92, 87), (643, 96), (616, 97), (598, 98), (665, 99), (666, 100), (412, 101), (428, 102), (647, 103), (648, 104), (667, 105), (668, 106), (548, 107), (655, 108), (641, 109), (669, 110), (660, 111), (336, 112), (652, 113), (670, 114), (658, 115), (554, 116), (338, 117), (671, 118), (90, 119), (672, 120), (649, 121), (93, 122), (140, 123), (654, 142), (653, 143), (656, 144), (644, 145), (645, 146), (429, 151), (340, 152), (430, 153), (397, 154), (389, 155), (435, 156), (301, 157), (684, 158), (410, 159), (302, 160), (385, 161), (337, 162), (396, 163), (552, 164), (675, 170), (436, 172), (391, 174), (390, 175), (304, 176), (572, 177)]
def fid : Nat → FuncId := fun i => (fidL.lookup i).getD 0
def eqs : List (TypeId × List (Option IntKind)) := []
theorem m6 : GL.fnMt Try.prog fid eqs Try.f6 GL.g622 = true := by kernel_rfl
theorem m37 : GL.fnMt Try.prog fid eqs Try.f37 GL.g623 = true := by kernel_rfl
theorem m38 : GL.fnMt Try.prog fid eqs Try.f38 GL.g624 = true := by kernel_rfl
theorem m39 : GL.fnMt Try.prog fid eqs Try.f39 GL.g625 = true := by kernel_rfl
theorem m40 : GL.fnMt Try.prog fid eqs Try.f40 GL.g383 = true := by kernel_rfl
theorem m41 : GL.fnMt Try.prog fid eqs Try.f41 GL.g626 = true := by kernel_rfl
theorem m42 : GL.fnMt Try.prog fid eqs Try.f42 GL.g204 = true := by kernel_rfl
theorem m43 : GL.fnMt Try.prog fid eqs Try.f43 GL.g627 = true := by kernel_rfl
theorem m44 : GL.fnMt Try.prog fid eqs Try.f44 GL.g628 = true := by kernel_rfl
theorem m45 : GL.fnMt Try.prog fid eqs Try.f45 GL.g24 = true := by kernel_rfl
theorem m46 : GL.fnMt Try.prog fid eqs Try.f46 GL.g629 = true := by kernel_rfl
theorem m47 : GL.fnMt Try.prog fid eqs Try.f47 GL.g630 = true := by kernel_rfl
theorem m48 : GL.fnMt Try.prog fid eqs Try.f48 GL.g631 = true := by kernel_rfl
theorem m49 : GL.fnMt Try.prog fid eqs Try.f49 GL.g632 = true := by kernel_rfl
theorem m50 : GL.fnMt Try.prog fid eqs Try.f50 GL.g633 = true := by kernel_rfl
theorem m51 : GL.fnMt Try.prog fid eqs Try.f51 GL.g634 = true := by kernel_rfl
theorem m53 : GL.fnMt Try.prog fid eqs Try.f53 GL.g91 = true := by kernel_rfl
theorem m54 : GL.fnMt Try.prog fid eqs Try.f54 GL.g107 = true := by kernel_rfl
theorem m62 : GL.fnMt Try.prog fid eqs Try.f62 GL.g98 = true := by kernel_rfl
theorem m87 : GL.fnMt Try.prog fid eqs Try.f87 GL.g92 = true := by kernel_rfl
theorem m96 : GL.fnMt Try.prog fid eqs Try.f96 GL.g643 = true := by kernel_rfl
theorem m97 : GL.fnMt Try.prog fid eqs Try.f97 GL.g616 = true := by kernel_rfl
theorem m98 : GL.fnMt Try.prog fid eqs Try.f98 GL.g598 = true := by kernel_rfl
theorem m99 : GL.fnMt Try.prog fid eqs Try.f99 GL.g665 = true := by kernel_rfl
theorem m101 : GL.fnMt Try.prog fid eqs Try.f101 GL.g412 = true := by kernel_rfl
theorem m102 : GL.fnMt Try.prog fid eqs Try.f102 GL.g428 = true := by kernel_rfl
theorem m103 : GL.fnMt Try.prog fid eqs Try.f103 GL.g647 = true := by kernel_rfl
theorem m104 : GL.fnMt Try.prog fid eqs Try.f104 GL.g648 = true := by kernel_rfl
theorem m105 : GL.fnMt Try.prog fid eqs Try.f105 GL.g667 = true := by kernel_rfl
theorem m106 : GL.fnMt Try.prog fid eqs Try.f106 GL.g668 = true := by kernel_rfl
theorem m107 : GL.fnMt Try.prog fid eqs Try.f107 GL.g548 = true := by kernel_rfl
theorem m108 : GL.fnMt Try.prog fid eqs Try.f108 GL.g655 = true := by kernel_rfl
theorem m109 : GL.fnMt Try.prog fid eqs Try.f109 GL.g641 = true := by kernel_rfl
theorem m110 : GL.fnMt Try.prog fid eqs Try.f110 GL.g669 = true := by kernel_rfl
theorem m111 : GL.fnMt Try.prog fid eqs Try.f111 GL.g660 = true := by kernel_rfl
theorem m112 : GL.fnMt Try.prog fid eqs Try.f112 GL.g336 = true := by kernel_rfl
theorem m113 : GL.fnMt Try.prog fid eqs Try.f113 GL.g652 = true := by kernel_rfl
theorem m114 : GL.fnMt Try.prog fid eqs Try.f114 GL.g670 = true := by kernel_rfl
theorem m115 : GL.fnMt Try.prog fid eqs Try.f115 GL.g658 = true := by kernel_rfl
theorem m116 : GL.fnMt Try.prog fid eqs Try.f116 GL.g554 = true := by kernel_rfl
theorem m117 : GL.fnMt Try.prog fid eqs Try.f117 GL.g338 = true := by kernel_rfl
theorem m118 : GL.fnMt Try.prog fid eqs Try.f118 GL.g671 = true := by kernel_rfl
theorem m119 : GL.fnMt Try.prog fid eqs Try.f119 GL.g90 = true := by kernel_rfl
theorem m120 : GL.fnMt Try.prog fid eqs Try.f120 GL.g672 = true := by kernel_rfl
theorem m121 : GL.fnMt Try.prog fid eqs Try.f121 GL.g649 = true := by kernel_rfl
theorem m122 : GL.fnMt Try.prog fid eqs Try.f122 GL.g93 = true := by kernel_rfl
theorem m123 : GL.fnMt Try.prog fid eqs Try.f123 GL.g140 = true := by kernel_rfl
theorem m142 : GL.fnMt Try.prog fid eqs Try.f142 GL.g654 = true := by kernel_rfl
theorem m143 : GL.fnMt Try.prog fid eqs Try.f143 GL.g653 = true := by kernel_rfl
theorem m144 : GL.fnMt Try.prog fid eqs Try.f144 GL.g656 = true := by kernel_rfl
theorem m145 : GL.fnMt Try.prog fid eqs Try.f145 GL.g644 = true := by kernel_rfl
theorem m146 : GL.fnMt Try.prog fid eqs Try.f146 GL.g645 = true := by kernel_rfl
theorem m151 : GL.fnMt Try.prog fid eqs Try.f151 GL.g429 = true := by kernel_rfl
theorem m153 : GL.fnMt Try.prog fid eqs Try.f153 GL.g430 = true := by kernel_rfl
theorem m154 : GL.fnMt Try.prog fid eqs Try.f154 GL.g397 = true := by kernel_rfl
theorem m155 : GL.fnMt Try.prog fid eqs Try.f155 GL.g389 = true := by kernel_rfl
theorem m156 : GL.fnMt Try.prog fid eqs Try.f156 GL.g435 = true := by kernel_rfl
theorem m157 : GL.fnMt Try.prog fid eqs Try.f157 GL.g301 = true := by kernel_rfl
theorem m158 : GL.fnMt Try.prog fid eqs Try.f158 GL.g684 = true := by kernel_rfl
theorem m159 : GL.fnMt Try.prog fid eqs Try.f159 GL.g410 = true := by kernel_rfl
theorem m160 : GL.fnMt Try.prog fid eqs Try.f160 GL.g302 = true := by kernel_rfl
theorem m161 : GL.fnMt Try.prog fid eqs Try.f161 GL.g385 = true := by kernel_rfl
theorem m162 : GL.fnMt Try.prog fid eqs Try.f162 GL.g337 = true := by kernel_rfl
theorem m163 : GL.fnMt Try.prog fid eqs Try.f163 GL.g396 = true := by kernel_rfl
theorem m164 : GL.fnMt Try.prog fid eqs Try.f164 GL.g552 = true := by kernel_rfl
theorem m170 : GL.fnMt Try.prog fid eqs Try.f170 GL.g675 = true := by kernel_rfl
theorem m172 : GL.fnMt Try.prog fid eqs Try.f172 GL.g436 = true := by kernel_rfl
theorem m174 : GL.fnMt Try.prog fid eqs Try.f174 GL.g391 = true := by kernel_rfl
theorem m175 : GL.fnMt Try.prog fid eqs Try.f175 GL.g390 = true := by kernel_rfl
theorem m176 : GL.fnMt Try.prog fid eqs Try.f176 GL.g304 = true := by kernel_rfl
theorem m177 : GL.fnMt Try.prog fid eqs Try.f177 GL.g572 = true := by kernel_rfl
theorem sorF : GL.CallOK Try.prog fid fun g args h => if g = 340 then GL.sortE args h else none := GL.sortE_ok ⟨_, Try.func152, by kernel_rfl, by kernel_rfl⟩ (fun blk off cap ss W hH hb hs => Go.Proofs.AnyM.slices_Sort_int Try.sortA blk off cap ss W hH hb hs) (fun p cap W => Go.Proofs.AnyM.slices_Sort_int_none Try.sortA p cap W)
theorem reF : GL.CallOK Try.prog fid fun g args h => if g = 666 then GL.repE args h else none := GL.repE_ok ⟨_, Try.func100, by kernel_rfl, by kernel_rfl⟩ Try.replaceC
theorem extOK : ∀ f e, GL.p.ext f = some e → GL.CallOK Try.prog fid fun g args h => if g = f then e args h else none := fun f e h => by
  have h : (bif Nat.beq f 666 then some GL.repE else bif Nat.beq f 340 then some GL.sortE else none) = some e := h
  rcases GL.bif_some h with ⟨rfl, h⟩ | ⟨_, h⟩
  · cases h; exact reF
  rcases GL.bif_some h with ⟨rfl, h⟩ | ⟨_, h⟩
  · cases h; exact sorF
  cases h
theorem allOK : GL.AllOK Try.prog fid eqs GL.fnL :=
  .cons Try.func6 rfl m6 (
  .cons Try.func37 rfl m37 (
  .cons Try.func38 rfl m38 (
  .cons Try.func39 rfl m39 (
  .cons Try.func40 rfl m40 (
  .cons Try.func41 rfl m41 (
  .cons Try.func42 rfl m42 (
  .cons Try.func43 rfl m43 (
  .cons Try.func44 rfl m44 (
  .cons Try.func45 rfl m45 (
  .cons Try.func46 rfl m46 (
  .cons Try.func47 rfl m47 (
  .cons Try.func48 rfl m48 (
  .cons Try.func49 rfl m49 (
  .cons Try.func50 rfl m50 (
  .cons Try.func51 rfl m51 (
  .cons Try.func53 rfl m53 (
  .cons Try.func54 rfl m54 (
  .cons Try.func62 rfl m62 (
  .cons Try.func87 rfl m87 (
  .cons Try.func96 rfl m96 (
  .cons Try.func97 rfl m97 (
  .cons Try.func98 rfl m98 (
  .cons Try.func99 rfl m99 (
  .cons Try.func101 rfl m101 (
  .cons Try.func102 rfl m102 (
  .cons Try.func103 rfl m103 (
  .cons Try.func104 rfl m104 (
  .cons Try.func105 rfl m105 (
  .cons Try.func106 rfl m106 (
  .cons Try.func107 rfl m107 (
  .cons Try.func108 rfl m108 (
  .cons Try.func109 rfl m109 (
  .cons Try.func110 rfl m110 (
  .cons Try.func111 rfl m111 (
  .cons Try.func112 rfl m112 (
  .cons Try.func113 rfl m113 (
  .cons Try.func114 rfl m114 (
  .cons Try.func115 rfl m115 (
  .cons Try.func116 rfl m116 (
  .cons Try.func117 rfl m117 (
  .cons Try.func118 rfl m118 (
  .cons Try.func119 rfl m119 (
  .cons Try.func120 rfl m120 (
  .cons Try.func121 rfl m121 (
  .cons Try.func122 rfl m122 (
  .cons Try.func123 rfl m123 (
  .cons Try.func142 rfl m142 (
  .cons Try.func143 rfl m143 (
  .cons Try.func144 rfl m144 (
  .cons Try.func145 rfl m145 (
  .cons Try.func146 rfl m146 (
  .cons Try.func151 rfl m151 (
  .cons Try.func153 rfl m153 (
  .cons Try.func154 rfl m154 (
  .cons Try.func155 rfl m155 (
  .cons Try.func156 rfl m156 (
  .cons Try.func157 rfl m157 (
  .cons Try.func158 rfl m158 (
  .cons Try.func159 rfl m159 (
  .cons Try.func160 rfl m160 (
  .cons Try.func161 rfl m161 (
  .cons Try.func162 rfl m162 (
  .cons Try.func163 rfl m163 (
  .cons Try.func164 rfl m164 (
  .cons Try.func170 rfl m170 (
  .cons Try.func172 rfl m172 (
  .cons Try.func174 rfl m174 (
  .cons Try.func175 rfl m175 (
  .cons Try.func176 rfl m176 (
  .cons Try.func177 rfl m177 (.nil)))))))))))))))))))))))))))))))))))))))))))))))))))))))))))))))))))))))
theorem progOK : GL.ProgOK Try.prog fid eqs GL.p :=
  ⟨by kernel_rfl, (GL.eqs_sound (by kernel_rfl)), allOK.fn, extOK⟩
theorem walk (a0 : Option Addr) (len0 cap0 : Nat) (z0 : List Int) (a1 : Option Addr) (len1 cap1 : Nat) (z1 : List Int) (w : World) (w0 : IsRow .u8 w a0 len0 cap0 z0) (w1 : IsRow .u8 w a1 len1 cap1 z1) :
    Calls Try.prog 6 #[.slice a0 len0 cap0, .slice a1 len1 cap1] w fun e w' => e = .returned (.bool true) ∧ Below w.heap.size w w' :=
  GL.calls2 progOK (f := 622) (fun _ _ _ _ _ ha hb => GL.FnApart_ok ha hb) w0 w1

/-! ### THE ROW's STEP: WRITTEN OUT: LEAVE IT -/
set_option maxRecDepth 100000 in
theorem lifted (os : Os) (started : os.Started) (H : Type) (enc : TypeId × Value → H) :
    ReturnsInHanded {} Try.checked os 6 .any (Rows.fnApartSpec.pre6 enc Try.prog Try.f6 Rows.fnApartRow.domain false) (Rows.fnApartSpec.post enc Try.prog Try.f6 false true false false) := by
  refine returnsInHanded_of_change (C := Try.checked) own started (by kernel_rfl) Try.func6
    (ChangeSpec.witness6 (enc := enc) (C := Try.checked) false ⟨#[], #[.slice none 0 0, .slice none 0 0], []⟩ 8 (by kernel_rfl) (by kernel_rfl) (by kernel_rfl) (by kernel_rfl)) ?_
  intro W base args ds gs before hval0 hW hcnd _
  have hval : ∀ (j : Nat) t v, Try.f6.params[j]? = some t → args[j]? = some v → Value.okWide Try.prog W .any base t v := hval0
  have hW' := hW
  obtain ⟨p, q, hA0, hV, rfl, hfz, hnd⟩ := hW
  have hA : DataW.TrodAll enc Try.prog W 0 (fun _ => true) true Try.f6.params.toList args.toList ds p := hA0
  rw [Try.params6] at hA hval
  obtain ⟨v0, vs0, d0, ds0, p0, q0, hargs, rfl, rfl, h0, r0⟩ := trodAll_cons hA
  obtain ⟨v1, vs1, d1, ds1, p1, q1, rfl, rfl, rfl, h1, r1⟩ := trodAll_cons r0
  obtain ⟨rfl, rfl, rfl⟩ := trodAll_nil r1
  obtain rfl : args = #[v0, v1] := by cases args; simp_all
  obtain ⟨rfl, rfl⟩ := trodVars_none hV
  obtain ⟨a0, len0, cap0, rfl⟩ := okWide_slice Try.underlying22 (hval 0 22 v0 rfl rfl)
  have k0 := h0
  have lt0 : ∀ x ∈ p0, x.block < W.heap.size := by obtain ⟨m, hm⟩ := k0; exact DataW.trod_lt m _ _ _ hm
  obtain ⟨z0, w0⟩ : ∃ zs, IsRow .u8 W a0 len0 cap0 zs := by
    obtain ⟨fuel, hf⟩ := h0
    rcases open_ints Try.underlying22 Try.underlying5 (by kernel_rfl) hf with ⟨hcs, _⟩ | ⟨x, l, c, zs, hcs, _, hl, hm, hz, _, hcell, hwz⟩
    · simp [Value.cells] at hcs
      obtain ⟨rfl, rfl, rfl⟩ := hcs
      exact ⟨[], .inl ⟨rfl, rfl, rfl, rfl⟩⟩
    · simp [Value.cells] at hcs
      obtain ⟨rfl, rfl, rfl⟩ := hcs
      exact ⟨zs, .inr ⟨_, rfl, hl, hm, by simpa using hz, hcell, hwz⟩⟩
  obtain ⟨a1, len1, cap1, rfl⟩ := okWide_slice Try.underlying22 (hval 1 22 v1 rfl rfl)
  have k1 := h1
  have lt1 : ∀ x ∈ p1, x.block < W.heap.size := by obtain ⟨m, hm⟩ := k1; exact DataW.trod_lt m _ _ _ hm
  obtain ⟨z1, w1⟩ : ∃ zs, IsRow .u8 W a1 len1 cap1 zs := by
    obtain ⟨fuel, hf⟩ := h1
    rcases open_ints Try.underlying22 Try.underlying5 (by kernel_rfl) hf with ⟨hcs, _⟩ | ⟨x, l, c, zs, hcs, _, hl, hm, hz, _, hcell, hwz⟩
    · simp [Value.cells] at hcs
      obtain ⟨rfl, rfl, rfl⟩ := hcs
      exact ⟨[], .inl ⟨rfl, rfl, rfl, rfl⟩⟩
    · simp [Value.cells] at hcs
      obtain ⟨rfl, rfl, rfl⟩ := hcs
      exact ⟨zs, .inr ⟨_, rfl, hl, hm, by simpa using hz, hcell, hwz⟩⟩
  clear hA0 hval0
  refine (walk a0 len0 cap0 z0 a1 len1 cap1 z1 W w0 w1).mono fun e W' ⟨he, bel⟩ => ?_
  subst he
  exact ⟨_, rfl, _, _, _, [], _, [], hW', trodAll_mk1 (shut_bool Try.underlying4 _), (trodAll_cons_mk (Below.trod laidOut (by kernel_rfl) (of_decide_eq_true (by kernel_rfl)) k0 bel lt0) (trodAll_cons_mk (Below.trod laidOut (by kernel_rfl) (of_decide_eq_true (by kernel_rfl)) k1 bel lt1) trodAll_mk0)), rfl, bel.frame _, fun h => by cases h⟩

theorem over : Rows.fnApartRow.holds Try.pinned (OpenSpec.ofChange Rows.fnApartSpec) :=
  OpenClaim.holds_of_wide 6 Try.f6 rfl rfl rfl rfl rfl rfl rfl ⟨rfl, rfl, rfl, rfl, rfl⟩ rfl rfl rfl rfl rfl (by kernel_rfl) Try.func6 (by kernel_rfl)
    (of_decide_eq_true (by kernel_rfl)) (by unfold Func.isWrapper; first | (rw [if_pos (by decide +kernel)]; kernel_rfl) | (rw [if_neg (by decide +kernel)]; exact ⟨rfl, rfl⟩))
    (fun os started H enc _ => lifted os started H enc)

/-- ████ THE STATEMENT ████ -/
theorem proved : Rows.FnApartSaid := over
#print axioms proved
end Go.Proofs.Ytflbkhbfbcbcoaa.fnApart
