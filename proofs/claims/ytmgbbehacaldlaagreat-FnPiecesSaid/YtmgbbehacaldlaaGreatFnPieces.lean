import Derived.Test.YtmgbbehacaldlaaGreatRows
import Derived.WalkKit
import Derived.ProofKit
import Derived.OpenShut
import Derived.ShutString
import Derived.ChangeOld
import Derived.Below
import Derived.Test.YtmgbbehacaldlaaGreatLw
import Derived.Test.YtmgbbehacaldlaaGreatGuFnPieces
/- The law 'FnPieces' holds: its row, from the machine's run. -/
set_option linter.unusedSimpArgs false
set_option linter.unusedVariables false
set_option linter.unnecessarySimpa false
namespace Go.Proofs.YtmgbbehacaldlaaGreat.fnPieces
open Go.ChangeShapes Go.WideShapes Go.ChangeAt Go.RowKit
open Go.ChangeMaps (open_string shut_string)
set_option linter.unusedVariables false

theorem own : ownKnob Tryz.prog.godebug = none := by kernel_rfl
theorem laidOut : laidOutB Tryz.prog = true := by kernel_rfl

/-- WHAT THE WALK IS TOLD OF A SLICE OF INTEGERS THAT CAME IN: it is nil; or it leads to a row of 'cap' cells, the numbers 'zs' (the first 'len' are its elements, the rest its spare room), each fitting its kind. -/
def IsRow (k : IntKind) (w : World) (a : Option Addr) (len cap : Nat) (zs : List Int) : Prop :=
  (a = none ∧ len = 0 ∧ cap = 0 ∧ zs = []) ∨
  ∃ x, a = some x ∧ len ≤ cap ∧ cap ≤ maxLen ∧ zs.length = cap ∧ (∀ i, i < zs.length → w.cell? (x.add i) = some (.int k (zs.getD i 0))) ∧ ∀ n ∈ zs, (Lit.int k n).wf = true

def fidL : List (Nat × Nat) := [(703, 4), (383, 10), (24, 16), (704, 23), (705, 24), (706, 25), (579, 26), (707, 27), (708, 28), (709, 29), (498, 30), (710, 31), (711, 32), (712, 33), (597, 34), (601, 35), (429, 38), (557, 39), (541, 49), (567, 52), (92, 53), (539, 54), (91, 56), (594, 58), (595, 59), (499, 60), (596, 61), (766, 62), (603, 63), (552, 64), (599, 65), (767, 66), (768, 67), (554, 68), (769, 69), (598, 70), (511, 71), (500, 72), (602, 73), (513, 74), (608, 75), (98, 76), (389, 77), (436, 78), (560, 79), (395, 80), (574, 81), (545, 82), (575, 83), (558, 85), (385, 94), (407, 95), (406, 96), (107, 97), (302, 101), (140, 102), (93, 103), (550, 104), (304, 105), (607, 106), (412, 107), (572, 108), (301, 109), (609, 110), (94, 111), (410, 112), (335, 113), (559, 114), (562, 115), (397, 116), (576, 117), (340, 118), (547, 119), (337, 131), (427, 135), (391, 138), (430, 139), (390, 140), (600, 141)]
def fid : Nat → FuncId := fun i => (fidL.lookup i).getD 0
def eqs : List (TypeId × List (Option IntKind)) := []
theorem m4 : GL.fnMt Tryz.prog fid eqs Tryz.f4 GL.g703 = true := by kernel_rfl
theorem m10 : GL.fnMt Tryz.prog fid eqs Tryz.f10 GL.g383 = true := by kernel_rfl
theorem m16 : GL.fnMt Tryz.prog fid eqs Tryz.f16 GL.g24 = true := by kernel_rfl
theorem m23 : GL.fnMt Tryz.prog fid eqs Tryz.f23 GL.g704 = true := by kernel_rfl
theorem m24 : GL.fnMt Tryz.prog fid eqs Tryz.f24 GL.g705 = true := by kernel_rfl
theorem m25 : GL.fnMt Tryz.prog fid eqs Tryz.f25 GL.g706 = true := by kernel_rfl
theorem m26 : GL.fnMt Tryz.prog fid eqs Tryz.f26 GL.g579 = true := by kernel_rfl
theorem m27 : GL.fnMt Tryz.prog fid eqs Tryz.f27 GL.g707 = true := by kernel_rfl
theorem m28 : GL.fnMt Tryz.prog fid eqs Tryz.f28 GL.g708 = true := by kernel_rfl
theorem m29 : GL.fnMt Tryz.prog fid eqs Tryz.f29 GL.g709 = true := by kernel_rfl
theorem m30 : GL.fnMt Tryz.prog fid eqs Tryz.f30 GL.g498 = true := by kernel_rfl
theorem m31 : GL.fnMt Tryz.prog fid eqs Tryz.f31 GL.g710 = true := by kernel_rfl
theorem m32 : GL.fnMt Tryz.prog fid eqs Tryz.f32 GL.g711 = true := by kernel_rfl
theorem m33 : GL.fnMt Tryz.prog fid eqs Tryz.f33 GL.g712 = true := by kernel_rfl
theorem m34 : GL.fnMt Tryz.prog fid eqs Tryz.f34 GL.g597 = true := by kernel_rfl
theorem m35 : GL.fnMt Tryz.prog fid eqs Tryz.f35 GL.g601 = true := by kernel_rfl
theorem m38 : GL.fnMt Tryz.prog fid eqs Tryz.f38 GL.g429 = true := by kernel_rfl
theorem m39 : GL.fnMt Tryz.prog fid eqs Tryz.f39 GL.g557 = true := by kernel_rfl
theorem m49 : GL.fnMt Tryz.prog fid eqs Tryz.f49 GL.g541 = true := by kernel_rfl
theorem m52 : GL.fnMt Tryz.prog fid eqs Tryz.f52 GL.g567 = true := by kernel_rfl
theorem m53 : GL.fnMt Tryz.prog fid eqs Tryz.f53 GL.g92 = true := by kernel_rfl
theorem m54 : GL.fnMt Tryz.prog fid eqs Tryz.f54 GL.g539 = true := by kernel_rfl
theorem m56 : GL.fnMt Tryz.prog fid eqs Tryz.f56 GL.g91 = true := by kernel_rfl
theorem m58 : GL.fnMt Tryz.prog fid eqs Tryz.f58 GL.g594 = true := by kernel_rfl
theorem m59 : GL.fnMt Tryz.prog fid eqs Tryz.f59 GL.g595 = true := by kernel_rfl
theorem m60 : GL.fnMt Tryz.prog fid eqs Tryz.f60 GL.g499 = true := by kernel_rfl
theorem m61 : GL.fnMt Tryz.prog fid eqs Tryz.f61 GL.g596 = true := by kernel_rfl
theorem m62 : GL.fnMt Tryz.prog fid eqs Tryz.f62 GL.g766 = true := by kernel_rfl
theorem m63 : GL.fnMt Tryz.prog fid eqs Tryz.f63 GL.g603 = true := by kernel_rfl
theorem m64 : GL.fnMt Tryz.prog fid eqs Tryz.f64 GL.g552 = true := by kernel_rfl
theorem m65 : GL.fnMt Tryz.prog fid eqs Tryz.f65 GL.g599 = true := by kernel_rfl
theorem m66 : GL.fnMt Tryz.prog fid eqs Tryz.f66 GL.g767 = true := by kernel_rfl
theorem m67 : GL.fnMt Tryz.prog fid eqs Tryz.f67 GL.g768 = true := by kernel_rfl
theorem m68 : GL.fnMt Tryz.prog fid eqs Tryz.f68 GL.g554 = true := by kernel_rfl
theorem m69 : GL.fnMt Tryz.prog fid eqs Tryz.f69 GL.g769 = true := by kernel_rfl
theorem m70 : GL.fnMt Tryz.prog fid eqs Tryz.f70 GL.g598 = true := by kernel_rfl
theorem m71 : GL.fnMt Tryz.prog fid eqs Tryz.f71 GL.g511 = true := by kernel_rfl
theorem m72 : GL.fnMt Tryz.prog fid eqs Tryz.f72 GL.g500 = true := by kernel_rfl
theorem m73 : GL.fnMt Tryz.prog fid eqs Tryz.f73 GL.g602 = true := by kernel_rfl
theorem m74 : GL.fnMt Tryz.prog fid eqs Tryz.f74 GL.g513 = true := by kernel_rfl
theorem m75 : GL.fnMt Tryz.prog fid eqs Tryz.f75 GL.g608 = true := by kernel_rfl
theorem m76 : GL.fnMt Tryz.prog fid eqs Tryz.f76 GL.g98 = true := by kernel_rfl
theorem m77 : GL.fnMt Tryz.prog fid eqs Tryz.f77 GL.g389 = true := by kernel_rfl
theorem m78 : GL.fnMt Tryz.prog fid eqs Tryz.f78 GL.g436 = true := by kernel_rfl
theorem m79 : GL.fnMt Tryz.prog fid eqs Tryz.f79 GL.g560 = true := by kernel_rfl
theorem m80 : GL.fnMt Tryz.prog fid eqs Tryz.f80 GL.g395 = true := by kernel_rfl
theorem m81 : GL.fnMt Tryz.prog fid eqs Tryz.f81 GL.g574 = true := by kernel_rfl
theorem m82 : GL.fnMt Tryz.prog fid eqs Tryz.f82 GL.g545 = true := by kernel_rfl
theorem m83 : GL.fnMt Tryz.prog fid eqs Tryz.f83 GL.g575 = true := by kernel_rfl
theorem m85 : GL.fnMt Tryz.prog fid eqs Tryz.f85 GL.g558 = true := by kernel_rfl
theorem m94 : GL.fnMt Tryz.prog fid eqs Tryz.f94 GL.g385 = true := by kernel_rfl
theorem m97 : GL.fnMt Tryz.prog fid eqs Tryz.f97 GL.g107 = true := by kernel_rfl
theorem m101 : GL.fnMt Tryz.prog fid eqs Tryz.f101 GL.g302 = true := by kernel_rfl
theorem m102 : GL.fnMt Tryz.prog fid eqs Tryz.f102 GL.g140 = true := by kernel_rfl
theorem m103 : GL.fnMt Tryz.prog fid eqs Tryz.f103 GL.g93 = true := by kernel_rfl
theorem m104 : GL.fnMt Tryz.prog fid eqs Tryz.f104 GL.g550 = true := by kernel_rfl
theorem m105 : GL.fnMt Tryz.prog fid eqs Tryz.f105 GL.g304 = true := by kernel_rfl
theorem m106 : GL.fnMt Tryz.prog fid eqs Tryz.f106 GL.g607 = true := by kernel_rfl
theorem m107 : GL.fnMt Tryz.prog fid eqs Tryz.f107 GL.g412 = true := by kernel_rfl
theorem m108 : GL.fnMt Tryz.prog fid eqs Tryz.f108 GL.g572 = true := by kernel_rfl
theorem m109 : GL.fnMt Tryz.prog fid eqs Tryz.f109 GL.g301 = true := by kernel_rfl
theorem m110 : GL.fnMt Tryz.prog fid eqs Tryz.f110 GL.g609 = true := by kernel_rfl
theorem m111 : GL.fnMt Tryz.prog fid eqs Tryz.f111 GL.g94 = true := by kernel_rfl
theorem m112 : GL.fnMt Tryz.prog fid eqs Tryz.f112 GL.g410 = true := by kernel_rfl
theorem m113 : GL.fnMt Tryz.prog fid eqs Tryz.f113 GL.g335 = true := by kernel_rfl
theorem m114 : GL.fnMt Tryz.prog fid eqs Tryz.f114 GL.g559 = true := by kernel_rfl
theorem m115 : GL.fnMt Tryz.prog fid eqs Tryz.f115 GL.g562 = true := by kernel_rfl
theorem m116 : GL.fnMt Tryz.prog fid eqs Tryz.f116 GL.g397 = true := by kernel_rfl
theorem m117 : GL.fnMt Tryz.prog fid eqs Tryz.f117 GL.g576 = true := by kernel_rfl
theorem m119 : GL.fnMt Tryz.prog fid eqs Tryz.f119 GL.g547 = true := by kernel_rfl
theorem m131 : GL.fnMt Tryz.prog fid eqs Tryz.f131 GL.g337 = true := by kernel_rfl
theorem m138 : GL.fnMt Tryz.prog fid eqs Tryz.f138 GL.g391 = true := by kernel_rfl
theorem m139 : GL.fnMt Tryz.prog fid eqs Tryz.f139 GL.g430 = true := by kernel_rfl
theorem m140 : GL.fnMt Tryz.prog fid eqs Tryz.f140 GL.g390 = true := by kernel_rfl
theorem m141 : GL.fnMt Tryz.prog fid eqs Tryz.f141 GL.g600 = true := by kernel_rfl
theorem valF : GL.CallOK Tryz.prog fid fun g args h => if g = 406 then GL.valuesE args h else none := GL.valuesE_ok ⟨_, Tryz.func96, by kernel_rfl, by kernel_rfl⟩ (fun a len cap w => Tryz.valuesC a len cap w)
theorem srtF : GL.CallOK Tryz.prog fid fun g args h => if g = 407 then GL.sortedE args h else none := GL.sortedE_ok ⟨_, Tryz.func95, by kernel_rfl, by kernel_rfl⟩ (fun Bs Bo sv zs w hl hBs hc hI => Tryz.sortedVals Bs Bo sv zs (by unfold maxLen; omega) (by omega) w hBs hc hI)
theorem sorF : GL.CallOK Tryz.prog fid fun g args h => if g = 340 then GL.sortE args h else none := GL.sortE_ok ⟨_, Tryz.func118, by kernel_rfl, by kernel_rfl⟩ (fun blk off cap ss W hH hb hs => Go.Proofs.AnyM.slices_Sort_int Tryz.sortA blk off cap ss W hH hb hs) (fun p cap W => Go.Proofs.AnyM.slices_Sort_int_none Tryz.sortA p cap W)
theorem extOK : ∀ f e, GL.p.ext f = some e → GL.CallOK Tryz.prog fid fun g args h => if g = f then e args h else none := fun f e h => by
  have h : (bif Nat.beq f 407 then some GL.sortedE else bif Nat.beq f 406 then some GL.valuesE else bif Nat.beq f 340 then some GL.sortE else none) = some e := h
  rcases GL.bif_some h with ⟨rfl, h⟩ | ⟨_, h⟩
  · cases h; exact srtF
  rcases GL.bif_some h with ⟨rfl, h⟩ | ⟨_, h⟩
  · cases h; exact valF
  rcases GL.bif_some h with ⟨rfl, h⟩ | ⟨_, h⟩
  · cases h; exact sorF
  cases h
theorem allOK : GL.AllOK Tryz.prog fid eqs GL.fnL :=
  .cons Tryz.func4 rfl m4 (
  .cons Tryz.func10 rfl m10 (
  .cons Tryz.func16 rfl m16 (
  .cons Tryz.func23 rfl m23 (
  .cons Tryz.func24 rfl m24 (
  .cons Tryz.func25 rfl m25 (
  .cons Tryz.func26 rfl m26 (
  .cons Tryz.func27 rfl m27 (
  .cons Tryz.func28 rfl m28 (
  .cons Tryz.func29 rfl m29 (
  .cons Tryz.func30 rfl m30 (
  .cons Tryz.func31 rfl m31 (
  .cons Tryz.func32 rfl m32 (
  .cons Tryz.func33 rfl m33 (
  .cons Tryz.func34 rfl m34 (
  .cons Tryz.func35 rfl m35 (
  .cons Tryz.func38 rfl m38 (
  .cons Tryz.func39 rfl m39 (
  .cons Tryz.func49 rfl m49 (
  .cons Tryz.func52 rfl m52 (
  .cons Tryz.func53 rfl m53 (
  .cons Tryz.func54 rfl m54 (
  .cons Tryz.func56 rfl m56 (
  .cons Tryz.func58 rfl m58 (
  .cons Tryz.func59 rfl m59 (
  .cons Tryz.func60 rfl m60 (
  .cons Tryz.func61 rfl m61 (
  .cons Tryz.func62 rfl m62 (
  .cons Tryz.func63 rfl m63 (
  .cons Tryz.func64 rfl m64 (
  .cons Tryz.func65 rfl m65 (
  .cons Tryz.func66 rfl m66 (
  .cons Tryz.func67 rfl m67 (
  .cons Tryz.func68 rfl m68 (
  .cons Tryz.func69 rfl m69 (
  .cons Tryz.func70 rfl m70 (
  .cons Tryz.func71 rfl m71 (
  .cons Tryz.func72 rfl m72 (
  .cons Tryz.func73 rfl m73 (
  .cons Tryz.func74 rfl m74 (
  .cons Tryz.func75 rfl m75 (
  .cons Tryz.func76 rfl m76 (
  .cons Tryz.func77 rfl m77 (
  .cons Tryz.func78 rfl m78 (
  .cons Tryz.func79 rfl m79 (
  .cons Tryz.func80 rfl m80 (
  .cons Tryz.func81 rfl m81 (
  .cons Tryz.func82 rfl m82 (
  .cons Tryz.func83 rfl m83 (
  .cons Tryz.func85 rfl m85 (
  .cons Tryz.func94 rfl m94 (
  .cons Tryz.func97 rfl m97 (
  .cons Tryz.func101 rfl m101 (
  .cons Tryz.func102 rfl m102 (
  .cons Tryz.func103 rfl m103 (
  .cons Tryz.func104 rfl m104 (
  .cons Tryz.func105 rfl m105 (
  .cons Tryz.func106 rfl m106 (
  .cons Tryz.func107 rfl m107 (
  .cons Tryz.func108 rfl m108 (
  .cons Tryz.func109 rfl m109 (
  .cons Tryz.func110 rfl m110 (
  .cons Tryz.func111 rfl m111 (
  .cons Tryz.func112 rfl m112 (
  .cons Tryz.func113 rfl m113 (
  .cons Tryz.func114 rfl m114 (
  .cons Tryz.func115 rfl m115 (
  .cons Tryz.func116 rfl m116 (
  .cons Tryz.func117 rfl m117 (
  .cons Tryz.func119 rfl m119 (
  .cons Tryz.func131 rfl m131 (
  .cons Tryz.func138 rfl m138 (
  .cons Tryz.func139 rfl m139 (
  .cons Tryz.func140 rfl m140 (
  .cons Tryz.func141 rfl m141 (.nil)))))))))))))))))))))))))))))))))))))))))))))))))))))))))))))))))))))))))))
theorem progOK : GL.ProgOK Tryz.prog fid eqs GL.p :=
  ⟨by kernel_rfl, (GL.eqs_sound (by kernel_rfl)), allOK.fn, extOK⟩
theorem walk (a0 : Option Addr) (len0 cap0 : Nat) (z0 : List Int) (a1 : Option Addr) (len1 cap1 : Nat) (z1 : List Int) (w : World) (w0 : IsRow .u8 w a0 len0 cap0 z0) (w1 : IsRow .u8 w a1 len1 cap1 z1) :
    Calls Tryz.prog 4 #[.slice a0 len0 cap0, .slice a1 len1 cap1] w fun e w' => e = .returned (.bool true) ∧ Below w.heap.size w w' :=
  GL.calls2 progOK (f := 703) (fun _ _ _ _ _ ha hb => GL.FnPieces_ok ha hb) w0 w1

/-! ### THE ROW's STEP: WRITTEN OUT: LEAVE IT -/
set_option maxRecDepth 100000 in
theorem lifted (os : Os) (started : os.Started) (H : Type) (enc : TypeId × Value → H) :
    ReturnsInHanded {} Tryz.checked os 4 .any (Rows.fnPiecesSpec.pre6 enc Tryz.prog Tryz.f4 Rows.fnPiecesRow.domain false) (Rows.fnPiecesSpec.post enc Tryz.prog Tryz.f4 false true false false) := by
  refine returnsInHanded_of_change (C := Tryz.checked) own started (by kernel_rfl) Tryz.func4
    (ChangeSpec.witness6 (enc := enc) (C := Tryz.checked) false ⟨#[], #[.slice none 0 0, .slice none 0 0], []⟩ 8 (by kernel_rfl) (by kernel_rfl) (by kernel_rfl) (by kernel_rfl)) ?_
  intro W base args ds gs before hval0 hW hcnd _
  have hval : ∀ (j : Nat) t v, Tryz.f4.params[j]? = some t → args[j]? = some v → Value.okWide Tryz.prog W .any base t v := hval0
  have hW' := hW
  obtain ⟨p, q, hA0, hV, rfl, hfz, hnd⟩ := hW
  have hA : DataW.TrodAll enc Tryz.prog W 0 (fun _ => true) true Tryz.f4.params.toList args.toList ds p := hA0
  rw [Tryz.params4] at hA hval
  obtain ⟨v0, vs0, d0, ds0, p0, q0, hargs, rfl, rfl, h0, r0⟩ := trodAll_cons hA
  obtain ⟨v1, vs1, d1, ds1, p1, q1, rfl, rfl, rfl, h1, r1⟩ := trodAll_cons r0
  obtain ⟨rfl, rfl, rfl⟩ := trodAll_nil r1
  obtain rfl : args = #[v0, v1] := by cases args; simp_all
  obtain ⟨rfl, rfl⟩ := trodVars_none hV
  obtain ⟨a0, len0, cap0, rfl⟩ := okWide_slice Tryz.underlying22 (hval 0 22 v0 rfl rfl)
  have k0 := h0
  have lt0 : ∀ x ∈ p0, x.block < W.heap.size := by obtain ⟨m, hm⟩ := k0; exact DataW.trod_lt m _ _ _ hm
  obtain ⟨z0, w0⟩ : ∃ zs, IsRow .u8 W a0 len0 cap0 zs := by
    obtain ⟨fuel, hf⟩ := h0
    rcases open_ints Tryz.underlying22 Tryz.underlying5 (by kernel_rfl) hf with ⟨hcs, _⟩ | ⟨x, l, c, zs, hcs, _, hl, hm, hz, _, hcell, hwz⟩
    · simp [Value.cells] at hcs
      obtain ⟨rfl, rfl, rfl⟩ := hcs
      exact ⟨[], .inl ⟨rfl, rfl, rfl, rfl⟩⟩
    · simp [Value.cells] at hcs
      obtain ⟨rfl, rfl, rfl⟩ := hcs
      exact ⟨zs, .inr ⟨_, rfl, hl, hm, by simpa using hz, hcell, hwz⟩⟩
  obtain ⟨a1, len1, cap1, rfl⟩ := okWide_slice Tryz.underlying22 (hval 1 22 v1 rfl rfl)
  have k1 := h1
  have lt1 : ∀ x ∈ p1, x.block < W.heap.size := by obtain ⟨m, hm⟩ := k1; exact DataW.trod_lt m _ _ _ hm
  obtain ⟨z1, w1⟩ : ∃ zs, IsRow .u8 W a1 len1 cap1 zs := by
    obtain ⟨fuel, hf⟩ := h1
    rcases open_ints Tryz.underlying22 Tryz.underlying5 (by kernel_rfl) hf with ⟨hcs, _⟩ | ⟨x, l, c, zs, hcs, _, hl, hm, hz, _, hcell, hwz⟩
    · simp [Value.cells] at hcs
      obtain ⟨rfl, rfl, rfl⟩ := hcs
      exact ⟨[], .inl ⟨rfl, rfl, rfl, rfl⟩⟩
    · simp [Value.cells] at hcs
      obtain ⟨rfl, rfl, rfl⟩ := hcs
      exact ⟨zs, .inr ⟨_, rfl, hl, hm, by simpa using hz, hcell, hwz⟩⟩
  clear hA0 hval0
  refine (walk a0 len0 cap0 z0 a1 len1 cap1 z1 W w0 w1).mono fun e W' ⟨he, bel⟩ => ?_
  subst he
  exact ⟨_, rfl, _, _, _, [], _, [], hW', trodAll_mk1 (shut_bool Tryz.underlying4 _), (trodAll_cons_mk (Below.trod laidOut (by kernel_rfl) (of_decide_eq_true (by kernel_rfl)) k0 bel lt0) (trodAll_cons_mk (Below.trod laidOut (by kernel_rfl) (of_decide_eq_true (by kernel_rfl)) k1 bel lt1) trodAll_mk0)), rfl, bel.frame _, fun h => by cases h⟩

theorem over : Rows.fnPiecesRow.holds Tryz.pinned (OpenSpec.ofChange Rows.fnPiecesSpec) :=
  OpenClaim.holds_of_wide 4 Tryz.f4 rfl rfl rfl rfl rfl rfl rfl ⟨rfl, rfl, rfl, rfl, rfl⟩ rfl rfl rfl rfl rfl (by kernel_rfl) Tryz.func4 (by kernel_rfl)
    (of_decide_eq_true (by kernel_rfl)) (by unfold Func.isWrapper; first | (rw [if_pos (by decide +kernel)]; kernel_rfl) | (rw [if_neg (by decide +kernel)]; exact ⟨rfl, rfl⟩))
    (fun os started H enc _ => lifted os started H enc)

/-- ████ THE STATEMENT ████ -/
theorem proved : Rows.FnPiecesSaid := over
#print axioms proved
end Go.Proofs.YtmgbbehacaldlaaGreat.fnPieces
