import Derived.Test.YtaaccpeacckdaaaRows
import Derived.WalkKit
import Derived.ProofKit
import Derived.OpenShut
import Derived.ShutString
import Derived.ChangeOld
import Derived.Below
import Derived.Test.YtaaccpeacckdaaaLs
import Derived.Test.YtaaccpeacckdaaaGuFnKeys
/- The law 'FnKeys' holds: its row, from the machine's run. -/
set_option linter.unusedSimpArgs false
set_option linter.unusedVariables false
set_option linter.unnecessarySimpa false
namespace Go.Proofs.Ytaaccpeacckdaaa.fnKeys
open Go.ChangeShapes Go.WideShapes Go.ChangeAt Go.RowKit
open Go.ChangeMaps (open_string shut_string)
set_option linter.unusedVariables false

theorem own : ownKnob Try.prog.godebug = none := by kernel_rfl
theorem laidOut : laidOutB Try.prog = true := by kernel_rfl

/-- WHAT THE WALK IS TOLD OF A SLICE OF INTEGERS THAT CAME IN: it is nil; or it leads to a row of 'cap' cells, the numbers 'zs' (the first 'len' are its elements, the rest its spare room), each fitting its kind. -/
def IsRow (k : IntKind) (w : World) (a : Option Addr) (len cap : Nat) (zs : List Int) : Prop :=
  (a = none ∧ len = 0 ∧ cap = 0 ∧ zs = []) ∨
  ∃ x, a = some x ∧ len ≤ cap ∧ cap ≤ maxLen ∧ zs.length = cap ∧ (∀ i, i < zs.length → w.cell? (x.add i) = some (.int k (zs.getD i 0))) ∧ ∀ n ∈ zs, (Lit.int k n).wf = true

def fidL : List (Nat × Nat) := [(610, 8), (618, 21), (620, 26), (617, 28), (24, 30), (383, 53), (611, 64), (612, 65), (613, 66), (614, 67), (615, 68), (616, 69), (619, 70), (621, 71), (91, 73), (107, 74), (100, 81), (98, 82), (670, 97), (671, 98), (658, 99), (656, 100), (652, 101), (647, 102), (672, 103), (554, 104), (649, 105), (645, 106), (301, 107), (598, 109), (302, 110), (674, 111), (659, 112), (660, 113), (386, 114), (661, 115), (655, 116), (337, 117), (92, 128), (643, 137), (412, 140), (428, 141), (648, 142), (644, 150), (304, 151), (646, 152), (650, 153), (651, 154), (389, 155), (654, 156), (653, 157), (657, 158), (662, 159), (663, 160), (664, 161), (93, 162), (140, 163), (159, 167), (552, 174), (410, 175), (390, 176), (677, 178), (687, 180), (385, 181), (676, 182), (429, 195), (340, 196), (430, 197), (397, 198), (435, 199), (391, 202), (675, 203), (94, 204), (678, 205), (606, 206), (356, 207), (679, 208), (160, 211), (572, 212), (436, 217)]
def fid : Nat → FuncId := fun i => (fidL.lookup i).getD 0
def eqs : List (TypeId × List (Option IntKind)) := []
theorem m8 : GL.fnMt Try.prog fid eqs Try.f8 GL.g610 = true := by kernel_rfl
theorem m21 : GL.fnMt Try.prog fid eqs Try.f21 GL.g618 = true := by kernel_rfl
theorem m26 : GL.fnMt Try.prog fid eqs Try.f26 GL.g620 = true := by kernel_rfl
theorem m28 : GL.fnMt Try.prog fid eqs Try.f28 GL.g617 = true := by kernel_rfl
theorem m30 : GL.fnMt Try.prog fid eqs Try.f30 GL.g24 = true := by kernel_rfl
theorem m53 : GL.fnMt Try.prog fid eqs Try.f53 GL.g383 = true := by kernel_rfl
theorem m64 : GL.fnMt Try.prog fid eqs Try.f64 GL.g611 = true := by kernel_rfl
theorem m65 : GL.fnMt Try.prog fid eqs Try.f65 GL.g612 = true := by kernel_rfl
theorem m66 : GL.fnMt Try.prog fid eqs Try.f66 GL.g613 = true := by kernel_rfl
theorem m67 : GL.fnMt Try.prog fid eqs Try.f67 GL.g614 = true := by kernel_rfl
theorem m68 : GL.fnMt Try.prog fid eqs Try.f68 GL.g615 = true := by kernel_rfl
theorem m69 : GL.fnMt Try.prog fid eqs Try.f69 GL.g616 = true := by kernel_rfl
theorem m70 : GL.fnMt Try.prog fid eqs Try.f70 GL.g619 = true := by kernel_rfl
theorem m71 : GL.fnMt Try.prog fid eqs Try.f71 GL.g621 = true := by kernel_rfl
theorem m73 : GL.fnMt Try.prog fid eqs Try.f73 GL.g91 = true := by kernel_rfl
theorem m74 : GL.fnMt Try.prog fid eqs Try.f74 GL.g107 = true := by kernel_rfl
theorem m81 : GL.fnMt Try.prog fid eqs Try.f81 GL.g100 = true := by kernel_rfl
theorem m82 : GL.fnMt Try.prog fid eqs Try.f82 GL.g98 = true := by kernel_rfl
theorem m97 : GL.fnMt Try.prog fid eqs Try.f97 GL.g670 = true := by kernel_rfl
theorem m98 : GL.fnMt Try.prog fid eqs Try.f98 GL.g671 = true := by kernel_rfl
theorem m99 : GL.fnMt Try.prog fid eqs Try.f99 GL.g658 = true := by kernel_rfl
theorem m100 : GL.fnMt Try.prog fid eqs Try.f100 GL.g656 = true := by kernel_rfl
theorem m101 : GL.fnMt Try.prog fid eqs Try.f101 GL.g652 = true := by kernel_rfl
theorem m102 : GL.fnMt Try.prog fid eqs Try.f102 GL.g647 = true := by kernel_rfl
theorem m103 : GL.fnMt Try.prog fid eqs Try.f103 GL.g672 = true := by kernel_rfl
theorem m104 : GL.fnMt Try.prog fid eqs Try.f104 GL.g554 = true := by kernel_rfl
theorem m105 : GL.fnMt Try.prog fid eqs Try.f105 GL.g649 = true := by kernel_rfl
theorem m106 : GL.fnMt Try.prog fid eqs Try.f106 GL.g645 = true := by kernel_rfl
theorem m107 : GL.fnMt Try.prog fid eqs Try.f107 GL.g301 = true := by kernel_rfl
theorem m109 : GL.fnMt Try.prog fid eqs Try.f109 GL.g598 = true := by kernel_rfl
theorem m110 : GL.fnMt Try.prog fid eqs Try.f110 GL.g302 = true := by kernel_rfl
theorem m111 : GL.fnMt Try.prog fid eqs Try.f111 GL.g674 = true := by kernel_rfl
theorem m112 : GL.fnMt Try.prog fid eqs Try.f112 GL.g659 = true := by kernel_rfl
theorem m113 : GL.fnMt Try.prog fid eqs Try.f113 GL.g660 = true := by kernel_rfl
theorem m114 : GL.fnMt Try.prog fid eqs Try.f114 GL.g386 = true := by kernel_rfl
theorem m115 : GL.fnMt Try.prog fid eqs Try.f115 GL.g661 = true := by kernel_rfl
theorem m116 : GL.fnMt Try.prog fid eqs Try.f116 GL.g655 = true := by kernel_rfl
theorem m117 : GL.fnMt Try.prog fid eqs Try.f117 GL.g337 = true := by kernel_rfl
theorem m128 : GL.fnMt Try.prog fid eqs Try.f128 GL.g92 = true := by kernel_rfl
theorem m137 : GL.fnMt Try.prog fid eqs Try.f137 GL.g643 = true := by kernel_rfl
theorem m140 : GL.fnMt Try.prog fid eqs Try.f140 GL.g412 = true := by kernel_rfl
theorem m141 : GL.fnMt Try.prog fid eqs Try.f141 GL.g428 = true := by kernel_rfl
theorem m142 : GL.fnMt Try.prog fid eqs Try.f142 GL.g648 = true := by kernel_rfl
theorem m150 : GL.fnMt Try.prog fid eqs Try.f150 GL.g644 = true := by kernel_rfl
theorem m151 : GL.fnMt Try.prog fid eqs Try.f151 GL.g304 = true := by kernel_rfl
theorem m152 : GL.fnMt Try.prog fid eqs Try.f152 GL.g646 = true := by kernel_rfl
theorem m153 : GL.fnMt Try.prog fid eqs Try.f153 GL.g650 = true := by kernel_rfl
theorem m154 : GL.fnMt Try.prog fid eqs Try.f154 GL.g651 = true := by kernel_rfl
theorem m155 : GL.fnMt Try.prog fid eqs Try.f155 GL.g389 = true := by kernel_rfl
theorem m156 : GL.fnMt Try.prog fid eqs Try.f156 GL.g654 = true := by kernel_rfl
theorem m157 : GL.fnMt Try.prog fid eqs Try.f157 GL.g653 = true := by kernel_rfl
theorem m158 : GL.fnMt Try.prog fid eqs Try.f158 GL.g657 = true := by kernel_rfl
theorem m159 : GL.fnMt Try.prog fid eqs Try.f159 GL.g662 = true := by kernel_rfl
theorem m160 : GL.fnMt Try.prog fid eqs Try.f160 GL.g663 = true := by kernel_rfl
theorem m161 : GL.fnMt Try.prog fid eqs Try.f161 GL.g664 = true := by kernel_rfl
theorem m162 : GL.fnMt Try.prog fid eqs Try.f162 GL.g93 = true := by kernel_rfl
theorem m163 : GL.fnMt Try.prog fid eqs Try.f163 GL.g140 = true := by kernel_rfl
theorem m167 : GL.fnMt Try.prog fid eqs Try.f167 GL.g159 = true := by kernel_rfl
theorem m174 : GL.fnMt Try.prog fid eqs Try.f174 GL.g552 = true := by kernel_rfl
theorem m175 : GL.fnMt Try.prog fid eqs Try.f175 GL.g410 = true := by kernel_rfl
theorem m176 : GL.fnMt Try.prog fid eqs Try.f176 GL.g390 = true := by kernel_rfl
theorem m178 : GL.fnMt Try.prog fid eqs Try.f178 GL.g677 = true := by kernel_rfl
theorem m180 : GL.fnMt Try.prog fid eqs Try.f180 GL.g687 = true := by kernel_rfl
theorem m181 : GL.fnMt Try.prog fid eqs Try.f181 GL.g385 = true := by kernel_rfl
theorem m182 : GL.fnMt Try.prog fid eqs Try.f182 GL.g676 = true := by kernel_rfl
theorem m195 : GL.fnMt Try.prog fid eqs Try.f195 GL.g429 = true := by kernel_rfl
theorem m197 : GL.fnMt Try.prog fid eqs Try.f197 GL.g430 = true := by kernel_rfl
theorem m198 : GL.fnMt Try.prog fid eqs Try.f198 GL.g397 = true := by kernel_rfl
theorem m199 : GL.fnMt Try.prog fid eqs Try.f199 GL.g435 = true := by kernel_rfl
theorem m202 : GL.fnMt Try.prog fid eqs Try.f202 GL.g391 = true := by kernel_rfl
theorem m203 : GL.fnMt Try.prog fid eqs Try.f203 GL.g675 = true := by kernel_rfl
theorem m204 : GL.fnMt Try.prog fid eqs Try.f204 GL.g94 = true := by kernel_rfl
theorem m205 : GL.fnMt Try.prog fid eqs Try.f205 GL.g678 = true := by kernel_rfl
theorem m206 : GL.fnMt Try.prog fid eqs Try.f206 GL.g606 = true := by kernel_rfl
theorem m207 : GL.fnMt Try.prog fid eqs Try.f207 GL.g356 = true := by kernel_rfl
theorem m208 : GL.fnMt Try.prog fid eqs Try.f208 GL.g679 = true := by kernel_rfl
theorem m211 : GL.fnMt Try.prog fid eqs Try.f211 GL.g160 = true := by kernel_rfl
theorem m212 : GL.fnMt Try.prog fid eqs Try.f212 GL.g572 = true := by kernel_rfl
theorem m217 : GL.fnMt Try.prog fid eqs Try.f217 GL.g436 = true := by kernel_rfl
theorem sorF : GL.CallOK Try.prog fid fun g args h => if g = 340 then GL.sortE args h else none := GL.sortE_ok ⟨_, Try.func196, by kernel_rfl, by kernel_rfl⟩ (fun blk off cap ss W hH hb hs => Go.Proofs.AnyM.slices_Sort_int Try.sortA blk off cap ss W hH hb hs) (fun p cap W => Go.Proofs.AnyM.slices_Sort_int_none Try.sortA p cap W)
theorem extOK : ∀ f e, GL.p.ext f = some e → GL.CallOK Try.prog fid fun g args h => if g = f then e args h else none := fun f e h => by
  have h : (bif Nat.beq f 340 then some GL.sortE else none) = some e := h
  rcases GL.bif_some h with ⟨rfl, h⟩ | ⟨_, h⟩
  · cases h; exact sorF
  cases h
theorem allOK : GL.AllOK Try.prog fid eqs GL.fnL :=
  .cons Try.func8 rfl m8 (
  .cons Try.func21 rfl m21 (
  .cons Try.func26 rfl m26 (
  .cons Try.func28 rfl m28 (
  .cons Try.func30 rfl m30 (
  .cons Try.func53 rfl m53 (
  .cons Try.func64 rfl m64 (
  .cons Try.func65 rfl m65 (
  .cons Try.func66 rfl m66 (
  .cons Try.func67 rfl m67 (
  .cons Try.func68 rfl m68 (
  .cons Try.func69 rfl m69 (
  .cons Try.func70 rfl m70 (
  .cons Try.func71 rfl m71 (
  .cons Try.func73 rfl m73 (
  .cons Try.func74 rfl m74 (
  .cons Try.func81 rfl m81 (
  .cons Try.func82 rfl m82 (
  .cons Try.func97 rfl m97 (
  .cons Try.func98 rfl m98 (
  .cons Try.func99 rfl m99 (
  .cons Try.func100 rfl m100 (
  .cons Try.func101 rfl m101 (
  .cons Try.func102 rfl m102 (
  .cons Try.func103 rfl m103 (
  .cons Try.func104 rfl m104 (
  .cons Try.func105 rfl m105 (
  .cons Try.func106 rfl m106 (
  .cons Try.func107 rfl m107 (
  .cons Try.func109 rfl m109 (
  .cons Try.func110 rfl m110 (
  .cons Try.func111 rfl m111 (
  .cons Try.func112 rfl m112 (
  .cons Try.func113 rfl m113 (
  .cons Try.func114 rfl m114 (
  .cons Try.func115 rfl m115 (
  .cons Try.func116 rfl m116 (
  .cons Try.func117 rfl m117 (
  .cons Try.func128 rfl m128 (
  .cons Try.func137 rfl m137 (
  .cons Try.func140 rfl m140 (
  .cons Try.func141 rfl m141 (
  .cons Try.func142 rfl m142 (
  .cons Try.func150 rfl m150 (
  .cons Try.func151 rfl m151 (
  .cons Try.func152 rfl m152 (
  .cons Try.func153 rfl m153 (
  .cons Try.func154 rfl m154 (
  .cons Try.func155 rfl m155 (
  .cons Try.func156 rfl m156 (
  .cons Try.func157 rfl m157 (
  .cons Try.func158 rfl m158 (
  .cons Try.func159 rfl m159 (
  .cons Try.func160 rfl m160 (
  .cons Try.func161 rfl m161 (
  .cons Try.func162 rfl m162 (
  .cons Try.func163 rfl m163 (
  .cons Try.func167 rfl m167 (
  .cons Try.func174 rfl m174 (
  .cons Try.func175 rfl m175 (
  .cons Try.func176 rfl m176 (
  .cons Try.func178 rfl m178 (
  .cons Try.func180 rfl m180 (
  .cons Try.func181 rfl m181 (
  .cons Try.func182 rfl m182 (
  .cons Try.func195 rfl m195 (
  .cons Try.func197 rfl m197 (
  .cons Try.func198 rfl m198 (
  .cons Try.func199 rfl m199 (
  .cons Try.func202 rfl m202 (
  .cons Try.func203 rfl m203 (
  .cons Try.func204 rfl m204 (
  .cons Try.func205 rfl m205 (
  .cons Try.func206 rfl m206 (
  .cons Try.func207 rfl m207 (
  .cons Try.func208 rfl m208 (
  .cons Try.func211 rfl m211 (
  .cons Try.func212 rfl m212 (
  .cons Try.func217 rfl m217 (.nil)))))))))))))))))))))))))))))))))))))))))))))))))))))))))))))))))))))))))))))))
theorem progOK : GL.ProgOK Try.prog fid eqs GL.p :=
  ⟨by kernel_rfl, (GL.eqs_sound (by kernel_rfl)), allOK.fn, extOK⟩
theorem walk (a0 : Option Addr) (len0 cap0 : Nat) (z0 : List Int) (a1 : Option Addr) (len1 cap1 : Nat) (z1 : List Int) (w : World) (w0 : IsRow .u8 w a0 len0 cap0 z0) (w1 : IsRow .u8 w a1 len1 cap1 z1) :
    Calls Try.prog 8 #[.slice a0 len0 cap0, .slice a1 len1 cap1] w fun e w' => e = .returned (.bool true) ∧ Below w.heap.size w w' :=
  GL.calls2 progOK (f := 610) (fun _ _ _ _ _ ha hb => GL.FnKeys_ok ha hb) w0 w1

/-! ### THE ROW's STEP: WRITTEN OUT: LEAVE IT -/
set_option maxRecDepth 100000 in
theorem lifted (os : Os) (started : os.Started) (H : Type) (enc : TypeId × Value → H) :
    ReturnsInHanded {} Try.checked os 8 .any (Rows.fnKeysSpec.pre6 enc Try.prog Try.f8 Rows.fnKeysRow.domain false) (Rows.fnKeysSpec.post enc Try.prog Try.f8 false true false false) := by
  refine returnsInHanded_of_change (C := Try.checked) own started (by kernel_rfl) Try.func8
    (ChangeSpec.witness6 (enc := enc) (C := Try.checked) false ⟨#[], #[.slice none 0 0, .slice none 0 0], []⟩ 8 (by kernel_rfl) (by kernel_rfl) (by kernel_rfl) (by kernel_rfl)) ?_
  intro W base args ds gs before hval0 hW hcnd _
  have hval : ∀ (j : Nat) t v, Try.f8.params[j]? = some t → args[j]? = some v → Value.okWide Try.prog W .any base t v := hval0
  have hW' := hW
  obtain ⟨p, q, hA0, hV, rfl, hfz, hnd⟩ := hW
  have hA : DataW.TrodAll enc Try.prog W 0 (fun _ => true) true Try.f8.params.toList args.toList ds p := hA0
  rw [Try.params8] at hA hval
  obtain ⟨v0, vs0, d0, ds0, p0, q0, hargs, rfl, rfl, h0, r0⟩ := trodAll_cons hA
  obtain ⟨v1, vs1, d1, ds1, p1, q1, rfl, rfl, rfl, h1, r1⟩ := trodAll_cons r0
  obtain ⟨rfl, rfl, rfl⟩ := trodAll_nil r1
  obtain rfl : args = #[v0, v1] := by cases args; simp_all
  obtain ⟨rfl, rfl⟩ := trodVars_none hV
  obtain ⟨a0, len0, cap0, rfl⟩ := okWide_slice Try.underlying22 (hval 0 22 v0 rfl rfl)
  have k0 := h0
  have lt0 : ∀ x ∈ p0, x.block < W.heap.size := by obtain ⟨m, hm⟩ := k0; exact DataW.trod_lt m _ _ _ hm
  obtain ⟨z0, w0⟩ : ∃ zs, IsRow .u8 W a0 len0 cap0 zs := by
    obtain ⟨fuel, hf⟩ := h0
    rcases open_ints Try.underlying22 Try.underlying5 (by kernel_rfl) hf with ⟨hcs, _⟩ | ⟨x, l, c, zs, hcs, _, hl, hm, hz, _, hcell, hwz⟩
    · simp [Value.cells] at hcs
      obtain ⟨rfl, rfl, rfl⟩ := hcs
      exact ⟨[], .inl ⟨rfl, rfl, rfl, rfl⟩⟩
    · simp [Value.cells] at hcs
      obtain ⟨rfl, rfl, rfl⟩ := hcs
      exact ⟨zs, .inr ⟨_, rfl, hl, hm, by simpa using hz, hcell, hwz⟩⟩
  obtain ⟨a1, len1, cap1, rfl⟩ := okWide_slice Try.underlying22 (hval 1 22 v1 rfl rfl)
  have k1 := h1
  have lt1 : ∀ x ∈ p1, x.block < W.heap.size := by obtain ⟨m, hm⟩ := k1; exact DataW.trod_lt m _ _ _ hm
  obtain ⟨z1, w1⟩ : ∃ zs, IsRow .u8 W a1 len1 cap1 zs := by
    obtain ⟨fuel, hf⟩ := h1
    rcases open_ints Try.underlying22 Try.underlying5 (by kernel_rfl) hf with ⟨hcs, _⟩ | ⟨x, l, c, zs, hcs, _, hl, hm, hz, _, hcell, hwz⟩
    · simp [Value.cells] at hcs
      obtain ⟨rfl, rfl, rfl⟩ := hcs
      exact ⟨[], .inl ⟨rfl, rfl, rfl, rfl⟩⟩
    · simp [Value.cells] at hcs
      obtain ⟨rfl, rfl, rfl⟩ := hcs
      exact ⟨zs, .inr ⟨_, rfl, hl, hm, by simpa using hz, hcell, hwz⟩⟩
  clear hA0 hval0
  refine (walk a0 len0 cap0 z0 a1 len1 cap1 z1 W w0 w1).mono fun e W' ⟨he, bel⟩ => ?_
  subst he
  exact ⟨_, rfl, _, _, _, [], _, [], hW', trodAll_mk1 (shut_bool Try.underlying4 _), (trodAll_cons_mk (Below.trod laidOut (by kernel_rfl) (of_decide_eq_true (by kernel_rfl)) k0 bel lt0) (trodAll_cons_mk (Below.trod laidOut (by kernel_rfl) (of_decide_eq_true (by kernel_rfl)) k1 bel lt1) trodAll_mk0)), rfl, bel.frame _, fun h => by cases h⟩

theorem over : Rows.fnKeysRow.holds Try.pinned (OpenSpec.ofChange Rows.fnKeysSpec) :=
  OpenClaim.holds_of_wide 8 Try.f8 rfl rfl rfl rfl rfl rfl rfl ⟨rfl, rfl, rfl, rfl, rfl⟩ rfl rfl rfl rfl rfl (by kernel_rfl) Try.func8 (by kernel_rfl)
    (of_decide_eq_true (by kernel_rfl)) (by unfold Func.isWrapper; first | (rw [if_pos (by decide +kernel)]; kernel_rfl) | (rw [if_neg (by decide +kernel)]; exact ⟨rfl, rfl⟩))
    (fun os started H enc _ => lifted os started H enc)

/-- ████ THE STATEMENT ████ -/
theorem proved : Rows.FnKeysSaid := over
#print axioms proved
end Go.Proofs.Ytaaccpeacckdaaa.fnKeys
