import Derived.ChangeArms
import Derived.IntWalk
import Derived.WideShapes
import Derived.Test.YtgmjabiadkailaaGreatGuFnExactOutcomeAtB
/- What the functions of the law do, on the machine. -/
set_option linter.unusedSimpArgs false
set_option linter.unusedVariables false
set_option linter.unnecessarySimpa false
namespace GL
open Go

theorem cloneI_exact {h : Heap} {v : V} {xs : List Int} (hs : Sl h v xs) (hl : xs.length ≤ 2 ^ 20) : ∃ r h', call p 389 [v] h = some (r, h') ∧ ∃ l F, h' = h ++ l ∧ SdF h' r xs F ∧ Fresh h.length h' F := by
  refine go (fn := g389) rfl rfl fun R hR => ?_
  have hs' := hs.keeps (Keeps.append h [⟨.own, []⟩])
  have e1 := hs'.rdS xs.length (Nat.le_refl _)
  rw [List.take_length] at e1
  change rdS _ 1 _ _ = _ at e1
  have hlen := hs.len
  rcases hs with ⟨_, ⟨rfl, rfl⟩ | ⟨b, off, cap, rfl, _⟩⟩
  · simp [g389]
    exact hR _ _ ⟨[], [], by simp, SdF.nil, Fresh.nil⟩
  · by_cases h0 : xs = []
    · subst h0
      have ap : ∀ b H, appH 1 8 (.slice b 0 0 (.k 0)) 0 [] H = some (.slice b 0 0 (.k 0), H) := fun _ _ => rfl
      have e1' : rdS (h ++ [⟨.own, []⟩]) 1 (.slice b off 0 cap) 0 = some [] := e1
      simp [g389, fillL, e1', ap]
      exact hR _ _ ⟨[⟨.own, []⟩], [], rfl, ⟨by simp, .inr ⟨h.length, 0, .k 0, rfl, Nat.le_refl 0, .inl ⟨rfl, rfl⟩⟩⟩, Fresh.nil⟩
    · have n0 : 0 < xs.length := List.length_pos_iff.2 h0
      have ap := appH_first (H := h ++ [⟨.own, []⟩]) (b := h.length) (k := 1) (bytes := 8) (ys := flats xs) n0 hl (by decide)
      simp at ap
      simp [g389, fillL, e1, ap]
      exact hR _ _ ⟨[⟨.own, []⟩, ⟨.own, flats xs⟩], [h.length + 1], rfl, sdF_new (by simp) (by omega) rfl, ⟨by simp, by simp, by simp; exact ⟨_, by simp; rfl⟩⟩⟩
def tail542 : GL.Code := .seq (.seq (.reg 0 [⟨0, some 13, none, .p (.faddr 0), [.t 2]⟩,
    ⟨1, some 14, none, .p (.faddr 1), [.t 13]⟩,
    ⟨2, some 15, none, .l (.load 2 false 1), [.t 14]⟩,
    ⟨3, some 16, none, .p .len, [.t 15]⟩,
    ⟨4, some 17, none, .p .mov, [.c (.int .i64 0)]⟩])
   (.block 0 (.loop g542_0)))
   (.seq (.seq (.reg 0 [⟨0, some 25, none, .p .mov, [.t 1]⟩,
    ⟨1, some 26, none, .p .len, [.t 25]⟩,
    ⟨2, some 27, none, .p .mov, [.c (.int .i64 0)]⟩])
   (.block 2 (.loop g542_1)))
   (.seq (.reg 0 [⟨0, some 66, none, .l (.load 5 true 3), [.t 5]⟩,
    ⟨1, none, none, .l (.store 4 3), [.t 4, .t 66]⟩])
   (.ret)))
theorem outTail {c : Hs} {h0 : Heap} {x y z w a : V} {F1 : List Nat} (hx : SdF h0 x c.heard.deeds F1) (hg : goodH c.heard = true) {ps : List Int} (hp : Sl h0 w ps) (hin : ∀ p ∈ ps, 0 ≤ p ∧ p < (c.heard.deeds.length : Int))
    {bb : Nat} {Fa : List Nat} (s0 : S) (K : Ex → S → Prop) (sa : SdF s0.h a ps Fa) (fa : Fresh h0.length s0.h Fa) (ga : bb ∉ Fa) (gb : h0.length ≤ bb)
    (cb : s0.h[bb]? = some ⟨.own, List.replicate 10 (vi 0)⟩) (hk0 : Keeps h0 s0.h)
    (gL5 : s0.L 5 = (1, [a, .slice bb 0 10 (.k 10), .nils])) (gL2 : s0.L 2 = (1, [vi c.heard.no, x, y, z])) (g5 : s0.σ 5 = .lp 5 1 0) (g2 : s0.σ 2 = .lp 2 1 0) (g4 : s0.σ 4 = .lp 4 1 0) (gl4 : s0.L 4 = (1, [.nils, .nils, .nils])) (g1 : s0.σ 1 = .v w)
    (hK : ∀ s d G, s.L 4 = (1, [a, .slice bb 0 10 (.k 10), d]) → s.σ 4 = .lp 4 1 0 → OcV s.h (.agg [a, .slice bb 0 10 (.k 10), d]) (outF c.heard ps) G → Fresh h0.length s.h G → Keeps h0 s.h → h0.length ≤ s.h.length → K .ret s) :
    Wc p tail542 s0 K := by
  obtain ⟨_, h8, _⟩ := goodH_facts hg
  obtain ⟨σ, L, H, wt, fl, base⟩ := s0
  simp only at sa fa cb hk0 gL5 gL2 g5 g2 g4 gl4 g1
  have hbl := get_lt cb
  have sb : SdF H (.slice bb 0 10 (.k 10)) (List.replicate 10 (0 : Int)) [bb] := sdF_newK cb (flats_rep0 10).symm (by simp) (by simp)
  generalize hb : V.slice bb 0 10 (.k 10) = b at *
  have hxc := (hx.keep hk0).len
  simp [tail542, gL5, gL2, g5, g2, g4, g1, upd, hxc]
  refine Wc_upM (M := [17, 18, 19, 20, 21, 22, 23, 24]) rfl c.heard.deeds.length (fun i s => i ≤ c.heard.deeds.length ∧ s.σ 17 = .v (vi i) ∧ s.L 2 = L 2 ∧ s.L 4 = L 4 ∧ (∃ d, s.L 5 = (1, [a, b, d]) ∧ Out H.length s.h d (List.replicate i (-1 : Int))) ∧ Keeps H s.h ∧ H.length ≤ s.h.length) 0
    ⟨by omega, by simp, rfl, rfl, ⟨.nils, gL5, by simpa using Out.nil (Nat.le_refl _)⟩, Keeps.refl _, Nat.le_refl _⟩ fun i s ⟨gi, g17, hL2, hL4, ⟨d, hL5, hs⟩, hk, hl⟩ hM J hJ => ?_
  by_cases hi : i < c.heard.deeds.length
  · obtain ⟨d', h1, e1, s1, k1, l1⟩ := hs.one (-1) (by simp; omega)
    have st : IntKind.i64.wrap ((i : Int) + 1) = i + 1 := by rw [IntWalk.i64_in] <;> omega
    have dc := s1.sl.cell
    have dcs := s1.sl.cells
    simp [g542_0, hM, g17, hL5, g5, hi, rdS_last, e1, st, upd, dc, dcs]
    exact hJ _ hi ⟨hi, by simp, by simp [upd, hL2], by simp [upd, hL4], ⟨d', by simp [upd], by rw [List.replicate_succ']; exact s1⟩, hs.far hk k1 (Nat.le_refl _), by show H.length ≤ h1.length; omega⟩
  · have : i = c.heard.deeds.length := by omega
    subst this
    have kk : Keeps h0 s.h := hk0.trans hk
    have hM1 := hM
    have sb1 := sb.keep hk
    have sa1 := sa.keep hk
    obtain ⟨Fd, sd, fd⟩ := hs.fr
    have ob : OwnB s.h bb := ⟨_, hk _ _ cb (by simp)⟩
    have hl0 : h0.length ≤ H.length := by omega
    simp [g542_0, hM, g17, g1, hp.len, upd]
    refine main542 (a := a) (b := b) (d := d) (Fb := [bb]) (Fd := Fd) hx hg hp hin _ _ (List.replicate 10 0, List.replicate c.heard.deeds.length (-1)) ⟨by simp, by simp, fun k hk => by simp only [List.mem_replicate] at hk; omega⟩ sb1 sd (by simpa using ob) fd.own (by simpa using gb) (fun i hi => Nat.le_trans hl0 (fd.ge i hi)) (fun i hi hm => by simp at hi; subst hi; have := fd.ge _ hm; omega) kk (by simpa using hL5) (by simpa [gL2] using hL2) (by simp [hM, g5]) (by simp [hM, g2]) (by simp) (by simp) (by simp) fun t hMt tL5 tL4 tb td to tk tl => ?_
    have t5 : t.σ 5 = .lp 5 1 0 := by rw [hMt 5 (by decide)]; simp [hM, g5]
    have t4 : t.σ 4 = .lp 4 1 0 := by rw [hMt 4 (by decide)]; simp [hM, g4]
    have tL4' : t.L 4 = (1, [.nils, .nils, .nils]) := by rw [tL4]; simpa [hL4] using gl4
    have tk' : KeepsP (fun i => i ∉ [bb] ∧ i ∉ Fd) s.h t.h := tk
    have kt : Keeps h0 t.h := Keeps.far (n := h0.length) kk tk' (Nat.le_refl _) fun j hj => ⟨by simp; omega, fun hm => by have := fd.ge j hm; omega⟩
    have pa : ∀ j ∈ Fa, j ∉ [bb] ∧ j ∉ Fd := fun j hj => ⟨by simp; intro e; subst e; exact ga hj, fun hm => by have := fd.ge j hm; have := (fa.own j hj).lt; omega⟩
    have sat := sa1.keeps (tk'.mono pa)
    have tbc := tb.cell
    have tdc := td.cell
    have tlen : h0.length ≤ t.h.length := by
      have : t.h.length = s.h.length := tl
      omega
    simp [t5, t4, tL5, tL4', upd, sat.cell, tbc, tdc]
    refine hK _ d (Fa ++ [bb] ++ Fd) (by simp [upd]) (by simp [t4]) ⟨a, b, d, Fa, [bb], Fd, rfl, rfl, sat, tb, td⟩ ⟨?_, fun j hj => ?_, fun j hj => ?_⟩ kt tlen
    · rw [List.nodup_append, List.nodup_append]
      refine ⟨⟨fa.nodup, by simp, fun u hu v hv e => by simp at hv; subst hv; subst e; exact ga hu⟩, fd.nodup, fun u hu v hv e => ?_⟩
      subst e
      have h1 := fd.ge u hv
      rcases List.mem_append.1 hu with hu | hu
      · have := (fa.own u hu).lt; omega
      · simp at hu; omega
    · rcases List.mem_append.1 hj with hj | hj
      · rcases List.mem_append.1 hj with hj | hj
        · exact fa.ge j hj
        · simp at hj; omega
      · have := fd.ge j hj; omega
    · rcases List.mem_append.1 hj with hj | hj
      · rcases List.mem_append.1 hj with hj | hj
        · exact to j ((fa.own j hj).keep hk)
        · simp at hj; subst hj; exact to _ ob
      · exact to j (fd.own j hj)
theorem outcome_ok {h : Heap} {v w : V} {c : Hs} {F : List Nat} (hc : HsV h v c F) (hg : goodH c.heard = true) {ps : List Int} (hp : Sl h w ps) (hin : ∀ p ∈ ps, 0 ≤ p ∧ p < (c.heard.deeds.length : Int)) (hl : ps.length ≤ 8) :
    ∃ r h', call p 542 [v, w] h = some (r, h') ∧ ∃ G, OcV h' r (outF c.heard ps) G ∧ Fresh h.length h' G ∧ Keeps h h' ∧ h.length ≤ h'.length := by
  obtain ⟨x, y, z, F1, F2, F3, rfl, rfl, hx, hy, hz⟩ := hc
  have c4 : (80 : Int) ≤ (room : Int) := by unfold room; omega
  have c5 : (10 : Int) ≤ (room : Int) := by unfold room; omega
  obtain ⟨a, h1, e1, l, Fa, rfl, sa, fa⟩ := cloneI_exact (hp.keeps (Keeps.append h [deadBlk])) (by omega)
  refine go (fn := g542) rfl rfl fun R hR => ?_
  show Wc p (.seq _ (.seq _ tail542)) _ _
  have hap : h ++ [deadBlk] ++ l = h ++ deadBlk :: l := by simp
  rw [hap] at e1 sa fa
  have d0 := isDeadA h (deadBlk :: l) 0
  have a0 := setA h (deadBlk :: l) 0 ⟨.own, List.replicate 10 (vi 0)⟩
  simp only [Nat.add_zero, List.set_cons_zero] at d0 a0
  have i0 : isDead (deadBlk :: l) 0 = true := rfl
  have ad : allDead (h ++ [deadBlk]) h.length (fun _ => false) [0] = true := by simp only [allDead, List.all_cons, List.all_nil, isDeadA]; rfl
  have ad2 : allDead (h ++ deadBlk :: l) h.length (fun _ => false) [0] = true := by simp only [allDead, List.all_cons, List.all_nil, isDeadA]; rfl
  have ne : ∀ j ∈ Fa, j ≠ h.length := fun j hj => by have := fa.ge j hj; simp at this; omega
  have kF : KeepsP (fun j => j ∈ Fa) (h ++ deadBlk :: l) (h ++ ⟨.own, List.replicate 10 (vi 0)⟩ :: l) := fun j bk hj hb _ => by
    rw [← a0, List.getElem?_set_ne (Ne.symm (ne j hj))]; exact hb
  have sa2 := sa.keeps kF
  have fa2 : Fresh h.length (h ++ ⟨.own, List.replicate 10 (vi 0)⟩ :: l) Fa := (fa.keeps kF).mono (by simp)
  simp [ad, ad2, g542, fillL, upd, begin_one, xop_m, hx.cells, hx.cell, hy.cells, hy.cell, hz.cells, hz.cell, e1, d0, a0, i0, c4, c5, sa.cells, sa.cell, mtR, -List.reduceReplicate]
  refine outTail (c := c) hx hg hp hin (bb := h.length) (Fa := Fa) _ _ sa2 fa2 (fun hm => ne _ hm rfl) (Nat.le_refl _) (by simp) (Keeps.append h _) rfl rfl rfl rfl rfl rfl rfl fun s d G g4 s4 hoc hG hk hl => ?_
  simp [s4, g4, resV, mkV]
  exact hR _ _ ⟨G, hoc, hG, hk, hl⟩
end GL

namespace GL
open Go

section
variable {h h' : Heap} {v w : V} {c : Oc} {F G : List Nat}
theorem OcV.keeps (hc : OcV h v c F) (hk : KeepsP (fun b => b ∈ F) h h') : OcV h' v c F := by
  obtain ⟨x, y, z, F1, F2, F3, rfl, rfl, h1, h2, h3⟩ := hc
  exact ⟨x, y, z, F1, F2, F3, rfl, rfl, h1.keeps (hk.mono fun b hb => by simp [hb]), h2.keeps (hk.mono fun b hb => by simp [hb]), h3.keeps (hk.mono fun b hb => by simp [hb])⟩
theorem OcV.keep (hc : OcV h v c F) (hk : Keeps h h') : OcV h' v c F := hc.keeps (hk.p _)
theorem OcV.lt (hc : OcV h v c F) {b : Nat} (hb : b ∈ F) : b < h.length := by
  obtain ⟨x, y, z, F1, F2, F3, rfl, rfl, h1, h2, h3⟩ := hc
  rcases List.mem_append.1 hb with hb | hb
  · rcases List.mem_append.1 hb with hb | hb
    · exact h1.ltF hb
    · exact h2.ltF hb
  · exact h3.ltF hb
theorem eqOutcome_same (hc : OcV h v c F) (hd : OcV h w c G) : call p 482 [v, w] h = some (.bool true, h) := by
  obtain ⟨x, y, z, F1, F2, F3, rfl, rfl, hx, hy, hz⟩ := hc
  obtain ⟨a, b, d, G1, G2, G3, rfl, rfl, ga, gb, gd⟩ := hd
  have e1 := eqIntS_eq hx.sl ga.sl
  have e2 := eqIntS_eq hy.sl gb.sl
  have e3 := eqIntS_eq hz.sl gd.sl
  rw [decide_eq_true rfl] at e1 e2 e3
  refine go_eq (fn := g482) rfl rfl fun R hR => ?_
  simp [g482, fillL, upd, hx.cells, hx.cell, hy.cells, hy.cell, hz.cells, hz.cell, ga.cells, ga.cell, gb.cells, gb.cell, gd.cells, gd.cell, e1, e2, e3]; exact hR
def mkOc (c : Oc) : Oc := ⟨mkI 1 c.order.length, mkI (1 + c.order.length) c.keys.length, mkI (1 + c.order.length + c.keys.length) c.seen.length⟩
def smO (c : Oc) : Prop := c.order.length ≤ 2 ^ 20 ∧ c.keys.length ≤ 2 ^ 20 ∧ c.seen.length ≤ 2 ^ 20
theorem markOutcome_ok {lo : Nat} (hc : OcV h v c F) (fr : Fresh lo h F) (hs : smO c) :
    ∃ r h', call p 483 [v, vi 1] h = some (r, h') ∧ r = vi (1 + c.order.length + c.keys.length + c.seen.length) ∧ OcV h' v (mkOc c) F ∧ KeepsP (fun b => b ∉ F) h h' ∧ h'.length = h.length := by
  obtain ⟨x, y, z, F1, F2, F3, rfl, rfl, hx, hy, hz⟩ := hc
  obtain ⟨s1, s2, s3⟩ := hs
  have hnd := List.nodup_append.1 fr.nodup
  have hnd1 := List.nodup_append.1 hnd.1
  have n12 : ∀ b ∈ F1, b ∉ F2 := fun b hb hb2 => hnd1.2.2 b hb b hb2 rfl
  have n13 : ∀ b ∈ F1, b ∉ F3 := fun b hb hb2 => hnd.2.2 b (List.mem_append_left _ hb) b hb2 rfl
  have n23 : ∀ b ∈ F2, b ∉ F3 := fun b hb hb2 => hnd.2.2 b (List.mem_append_right _ hb) b hb2 rfl
  obtain ⟨_, h1, e1, rfl, p1, k1, l1, o1⟩ := markIntS_ok hx (fun b hb => fr.own b (by simp [hb])) (k := 1) (by decide) (by omega)
  have hy' := hy.keeps (k1.mono fun b hb hb2 => n12 b hb2 hb)
  obtain ⟨_, h2, e2, rfl, p2, k2, l2, o2⟩ := markIntS_ok hy' (fun b hb => o1 b (fr.own b (by simp [hb]))) (k := 1 + c.order.length) (by omega) (by omega)
  have hz' := (hz.keeps (k1.mono fun b hb hb2 => n13 b hb2 hb)).keeps (k2.mono fun b hb hb2 => n23 b hb2 hb)
  obtain ⟨_, h3, e3, rfl, p3, k3, l3, o3⟩ := markIntS_ok hz' (fun b hb => o2 b (o1 b (fr.own b (by simp [hb])))) (k := 1 + c.order.length + c.keys.length) (by omega) (by omega)
  have q1 := (p1.keeps (k2.mono fun b hb => n12 b hb)).keeps (k3.mono fun b hb => n13 b hb)
  have q2 := p2.keeps (k3.mono fun b hb => n23 b hb)
  refine go (fn := g483) rfl rfl fun R hR => ?_
  simp [g483, fillL, upd, hx.cells, hx.cell, hy.cells, hy.cell, hz.cells, hz.cell, e1, e2, e3]
  exact hR _ _ ⟨rfl, ⟨x, y, z, F1, F2, F3, rfl, rfl, q1, q2, p3⟩, ((k1.mono fun b hb hb2 => hb (by simp [hb2])).trans (k2.mono fun b hb hb2 => hb (by simp [hb2]))).trans (k3.mono fun b hb hb2 => hb (by simp [hb2])), by omega⟩
theorem heldOutcome_eq (hc : OcV h v (mkOc c) F) (hs : smO c) : call p 484 [v, vi 1] h = some (vi (1 + c.order.length + c.keys.length + c.seen.length), h) := by
  obtain ⟨x, y, z, F1, F2, F3, rfl, rfl, hx, hy, hz⟩ := hc
  obtain ⟨s1, s2, s3⟩ := hs
  have e1 := heldIntS_eq hx.sl (by decide) (by omega)
  have e2 := heldIntS_eq hy.sl (by omega) (by omega)
  have e3 := heldIntS_eq hz.sl (by omega) (by omega)
  have n1 : ¬ 1 + (c.order.length : Int) < 0 := by omega
  have n2 : ¬ 1 + (c.order.length : Int) + c.keys.length < 0 := by omega
  have n3 : ¬ 1 + (c.order.length : Int) + c.keys.length + c.seen.length < 0 := by omega
  refine go_eq (fn := g484) rfl rfl fun R hR => ?_
  simp [g484, fillL, upd, hx.cells, hx.cell, hy.cells, hy.cell, hz.cells, hz.cell, e1, e2, e3, n1, n2, n3]; exact hR
end
def zO : Oc := ⟨[], [], []⟩
theorem fold_ok {c : Hd} {n : Nat} (hn : n ≤ 1000) : ∀ {ps : List Int} {q : List Int × List Int}, (∀ p ∈ ps, 0 ≤ p ∧ p < (n : Int)) → OkO n q → OkO n (ps.foldl (stepO c) q)
  | [], _, _, hq => hq
  | p :: ps, q, h, hq => by
    have := h p (by simp)
    exact fold_ok hn (ps := ps) (fun p hp => h p (by simp [hp])) (stepO_ok hq (by omega))
theorem zO_v (h : Heap) : OcV h (.agg [.nils, .nils, .nils]) zO [] := ⟨.nils, .nils, .nils, [], [], [], rfl, rfl, .nil, .nil, .nil⟩
end GL

namespace GL
open Go

end GL

namespace GL
open Go

end GL

namespace GL
open Go

end GL

namespace GL
open Go

end GL

namespace GL
open Go

end GL

namespace GL
open Go

end GL

namespace GL
open Go

theorem mem_readyL {l : List (List Int)} {ds : List Int} {n : Int} : n ∈ readyL l ds ↔ n ∈ ds ∧ ∀ x ∈ reachL l n, x ∈ ds := by
  simp [readyL, List.mem_filter]
theorem nextL_congr {l : List (List Int)} {ds ds' c : List Int} (h : ∀ x, x ∈ ds ↔ x ∈ ds') : nextL l ds c = nextL l ds' c := by
  unfold nextL
  congr 1
  apply List.filter_congr
  intro x _
  congr 1
  refine propext ?_
  rw [mem_readyL, mem_readyL, h]
  exact and_congr_right fun _ => forall_congr' fun y => imp_congr_right fun _ => h y
noncomputable def outK (l : List (List Int)) (xs : List Int) : Nat → List Int
  | 0 => []
  | k + 1 => outK l xs k ++ nextL l (xs.take (k + 1)) (outK l xs k)
theorem nextL_len {l : List (List Int)} (hg : linksB l = true) (ds c : List Int) : (nextL l ds c).length ≤ l.length := by
  have := groupsL_flat hg
  exact Nat.le_trans (List.length_filter_le ..) (Nat.le_trans (List.length_filter_le ..) (by omega))
theorem mem_nextL {l : List (List Int)} {ds c : List Int} {x : Int} : x ∈ nextL l ds c ↔ x ∈ (groupsL l).flatten ∧ x ∈ readyL l ds ∧ x ∉ c := by
  simp only [nextL, List.mem_filter, decide_eq_true_eq, Bool.not_eq_true', decide_eq_false_iff_not, and_assoc]
theorem outK_in {l : List (List Int)} (hg : linksB l = true) (xs : List Int) (k : Nat) : ∀ x ∈ outK l xs k, InR l x := by
  induction k with
  | zero => simp [outK]
  | succ k ih =>
    intro x hx
    simp only [outK, List.mem_append] at hx
    rcases hx with hx | hx
    · exact ih x hx
    · exact ((groupsL_facts hg).2.1 x).2 (mem_nextL.1 hx).1
theorem outK_nodup {l : List (List Int)} (hg : linksB l = true) (xs : List Int) (k : Nat) : (outK l xs k).Nodup := by
  induction k with
  | zero => simp [outK]
  | succ k ih =>
    simp only [outK]
    rw [List.nodup_append]
    refine ⟨ih, ?_, fun a ha b hb e => ?_⟩
    · exact List.Sublist.nodup List.filter_sublist (List.Sublist.nodup List.filter_sublist (groupsL_facts hg).1)
    · subst e; exact (mem_nextL.1 hb).2.2 ha
theorem outK_short {l : List (List Int)} (hg : linksB l = true) (xs : List Int) (k : Nat) : (outK l xs k).length ≤ l.length := nodup_len (outK_nodup hg xs k) (outK_in hg xs k)
theorem Out.appT {α : Type} [Flat α] {lo : Nat} {h : Heap} {v w : V} {xs zs : List α} (ho : Out lo h v xs) (hs : Sl h w zs) {bytes : Nat} (hb : bytes ≤ 2 ^ 8) (hl : xs.length + zs.length ≤ 2 ^ 30) {k n : Nat} (hk : k = Flat.sz α) (hn : n = zs.length) :
    ∃ ys v' h', GL.rdS h k w n = some ys ∧ appH k bytes v n ys h = some (v', h') ∧ Out lo h' v' (xs ++ zs) ∧ KeepsP (fun i => ¬ vB v i) h h' ∧ h.length ≤ h'.length ∧ ∀ i, vB v' i → vB v i ∨ h.length ≤ i := by
  subst hk; subst hn
  have e := hs.rdS zs.length (Nat.le_refl _)
  rw [List.take_length] at e
  by_cases h0 : zs.length = 0
  · have hz : zs = [] := List.length_eq_zero_iff.1 h0
    subst hz
    have := ho.sl.len
    exact ⟨_, v, h, e, by simp [appH, this], by simpa using ho, KeepsP.refl _ _, Nat.le_refl _, fun i hi => .inl hi⟩
  · obtain ⟨v', h', e1, o', k', l', b'⟩ := ho.app zs (by omega) hb hl rfl rfl rfl
    exact ⟨_, v', h', e, e1, o', k', by omega, fun i hi => .inr (by have := b' i hi; omega)⟩
theorem doneBy_ok {h : Heap} {v w : V} {l : List (List Int)} {F : List Nat} {xs : List Int} (hs : SdF h v l F) (hx : Sl h w xs) (hg : linksB l = true) (hin : ∀ x ∈ xs, InR l x) (hl : xs.length ≤ 2 ^ 10) :
    ∃ r h', call p 604 [v, w] h = some (r, h') ∧ Out h.length h' r (outK l xs xs.length) ∧ Keeps h h' ∧ h.length ≤ h'.length := by
  obtain ⟨l12, _⟩ := linksB_facts hg
  refine go (fn := g604) rfl rfl fun R hR => ?_
  simp [g604, hx.len]
  have k0 : Keeps h (h ++ [⟨.own, []⟩, ⟨.own, []⟩]) := Keeps.append _ _
  refine Wc_upM (M := [5, 6, 8, 13, 14, 15, 16, 17, 18, 19, 20, 21, 22, 23, 24, 25, 26, 27]) rfl xs.length (fun i s => i ≤ xs.length ∧ s.σ 13 = .v (vi i) ∧ (∃ (u : V) (ys : List Int) (G : List Nat), s.σ 5 = .v u ∧ SdF s.h u ys G ∧ ys.length ≤ i ∧ ∀ x, x ∈ ys ↔ x ∈ xs.take i) ∧ (∃ o, s.σ 6 = .v o ∧ Out h.length s.h o (outK l xs i)) ∧ Keeps h s.h ∧ h.length ≤ s.h.length) 0
    ⟨by omega, by simp, ⟨.slice h.length 0 0 (.k 0), [], [], by simp, ⟨by simp, .inr ⟨h.length, 0, .k 0, rfl, Nat.le_refl 0, .inl ⟨rfl, rfl⟩⟩⟩, by simp, by simp⟩, ⟨.slice (h.length + 1) 0 0 (.k 0), by simp, by simpa [outK] using Out.empty (by omega) (by simp)⟩, k0, by simp⟩ fun i s ⟨gi, g13, ⟨u, ys, G, g5, su, hyl, hm⟩, ⟨o, g6, so⟩, hk, hln⟩ hM J hJ => ?_
  by_cases hi : i < xs.length
  · have ix := hx.idx 1 .i64 i hi
    simp only [Nat.mul_one] at ix
    have ld := (hx.keeps hk).loadI i hi
    have st := hx.step hi
    have hmt : ∀ z, z ∈ xs.take (i + 1) ↔ z ∈ xs.take i ∨ z = xs[i] := fun z => mem_take_succ hi
    have k1 : Keeps s.h (s.h ++ [⟨.own, [vi xs[i]]⟩]) := Keeps.append _ _
    have sl1 := Sl.lit (h := s.h) [xs[i]] 1 rfl [vi xs[i]] rfl (.k 1) (by simp)
    obtain ⟨G1, sd1, _⟩ := Sl.sdF sl1 (Nat.le_refl 1)
    obtain ⟨w2, h2, e2, zs, G2, s2, f2, r2, m2, k2, l2⟩ := together_ok (su.keep k1) sd1 (by simp; omega)
    have k12 := k1.trans k2
    have hzm : ∀ x, x ∈ zs ↔ x ∈ xs.take (i + 1) := fun x => by rw [m2, hm, hmt]; simp
    have hzin : ∀ x ∈ zs, InR l x := fun x hx => hin x (List.mem_of_mem_take ((hzm x).1 hx))
    have hzl : zs.length ≤ i + 1 := by
      have h1 : zs.Nodup := r2.imp fun h => by omega
      have := sub_len h1 (m := xs.take (i + 1)) fun x hx => (hzm x).1 hx
      rw [List.length_take] at this; omega
    have so2 : Out h.length h2 o (outK l xs i) := so.keeps (k12.p fun _ => True) (fun _ _ => trivial) (by simp at l2; omega)
    obtain ⟨r3, h3, e3, s3, k3, l3⟩ := nextDone_ok (hs.keep (hk.trans k12)) s2.sl so2.sl hg hzin (by omega)
    have so3 : Out h.length h3 o (outK l xs i) := so2.keeps (k3.p fun _ => True) (fun _ _ => trivial) l3
    have hnl := nextL_len hg zs (outK l xs i)
    have hol := outK_short hg xs i
    obtain ⟨ys4, v4, h4, e4, e5, o4, k4, l4⟩ := so3.appS s3 (bytes := 8) (by decide) (by omega) (k := 1) rfl (n := (nextL l zs (outK l xs i)).length) rfl
    have hnc : nextL l zs (outK l xs i) = nextL l (xs.take (i + 1)) (outK l xs i) := nextL_congr hzm
    have hkk : Keeps h h4 := so3.far ((hk.trans k12).trans k3) k4 (Nat.le_refl _)
    have s24 := s2.keep k3
    have nGv : ∀ b ∈ G2, ¬ vB o b := fun b hb hv => by have := (so.ge hv).2; have := f2.ge b hb; simp at this; omega
    have s3l := s3.len
    have s24' := s24.keeps (k4.mono nGv)
    rw [hnc] at o4 e4 e5 s3l
    generalize xs[i] = xi at *
    simp at l2
    simp [g604_0, hM, g13, g5, g6, hi, ix, ld, fillL, e2, e3, s3l, e4, e5, st]
    exact hJ _ hi ⟨hi, by simp, ⟨w2, zs, G2, by simp, s24', hzl, hzm⟩, ⟨v4, by simp, o4⟩, hkk, by show h.length ≤ h4.length; omega⟩
  · have : i = xs.length := by omega
    subst this
    simp [g604_0, hM, g13, g6]
    exact hR _ _ ⟨so, hk, hln⟩
theorem DoneByS_ok {h : Heap} {v w : V} {l : List (List Int)} {F F9 : List Nat} {xs : List Int} (hs : SdF h v l F) (hx : SdF h w xs F9) (hg : linksB l = true) (hon : onceB l.length xs = true) :
    ∃ r h', call p 588 [v, w] h = some (r, h') ∧ ∃ o, r = .tup [o, .bool true] ∧ Out h.length h' o (outK l xs xs.length) ∧ Keeps h h' ∧ h.length ≤ h'.length := by
  obtain ⟨l12, _⟩ := linksB_facts hg
  have e0 := GoodLinksS_eq hs
  rw [hg] at e0
  have e1 := l14Once_eq hx (l.length : Int) (by omega)
  rw [hon] at e1
  simp only [onceB, decide_eq_true_eq] at hon
  have hin : ∀ x ∈ xs, InR l x := fun x hx => ⟨(hon.1 x hx).1, by have := (hon.1 x hx).2; omega⟩
  have hxl := nodup_len hon.2 hin
  have hx' := hx.sl
  refine go (fn := g588) rfl rfl fun R hR => ?_
  simp [g588, e0, e1, hs.len, hx.len]
  refine Wc_upM (M := [6, 7, 9, 22, 23, 24, 25, 26, 27, 28, 29, 30, 31, 32, 33, 34, 35]) rfl xs.length (fun i s => i ≤ xs.length ∧ s.σ 22 = .v (vi i) ∧ (∃ (u : V) (ys : List Int) (G : List Nat) (o : V), s.σ 6 = .v u ∧ SdF s.h u ys G ∧ ys.Pairwise (· < ·) ∧ ys.length ≤ i ∧ (∀ b ∈ G, ¬ vB o b) ∧ (∀ x, x ∈ ys ↔ x ∈ xs.take i) ∧ s.σ 7 = .v o ∧ Out h.length s.h o (outK l xs i)) ∧ True ∧ Keeps h s.h ∧ h.length ≤ s.h.length) 0
    ⟨by omega, by simp, ⟨.nils, [], [], .nils, by simp, .nil, by simp, by simp, by simp, by simp, by simp, by simpa [outK] using Out.nil (Nat.le_refl _)⟩, trivial, Keeps.refl _, Nat.le_refl _⟩ fun i s ⟨gi, g22, ⟨u, ys, G, o, g6, su, hr, hyl, hG, hm, g7, so⟩, _, hk, hln⟩ hM J hJ => ?_
  by_cases hi : i < xs.length
  · have ix := hx.idx 1 .i64 i hi
    simp only [Nat.mul_one] at ix
    have ld := (hx'.keeps hk).loadI i hi
    have st := hx'.step hi
    have hmt : ∀ z, z ∈ xs.take (i + 1) ↔ z ∈ xs.take i ∨ z = xs[i] := fun z => mem_take_succ hi
    obtain ⟨w2, h2, e2, zs, G2, s2, r2, m2, zl, hG2, k2, l2⟩ := l1Put_ok su hr (by omega) xs[i]
    have hzm : ∀ x, x ∈ zs ↔ x ∈ xs.take (i + 1) := fun x => by rw [m2, hm, hmt]
    have hzin : ∀ x ∈ zs, InR l x := fun x hx => hin x (List.mem_of_mem_take ((hzm x).1 hx))
    have so2 : Out h.length h2 o (outK l xs i) := so.keeps (k2.p fun _ => True) (fun _ _ => trivial) l2
    obtain ⟨r3, h3, e3, s3, k3, l3⟩ := l14Next_ok (hs.keep (hk.trans k2)) s2.sl so2.sl hg hzin (by omega)
    have so3 : Out h.length h3 o (outK l xs i) := so2.keeps (k3.p fun _ => True) (fun _ _ => trivial) l3
    have hnl := nextL_len hg zs (outK l xs i)
    have hol := outK_short hg xs i
    obtain ⟨ys4, v4, h4, e4, e5, o4, k4, l4, b4⟩ := so3.appT s3 (bytes := 8) (by decide) (by omega) (k := 1) rfl (n := (nextL l zs (outK l xs i)).length) rfl
    have hnc : nextL l zs (outK l xs i) = nextL l (xs.take (i + 1)) (outK l xs i) := nextL_congr hzm
    have hkk : Keeps h h4 := so3.far ((hk.trans k2).trans k3) k4 (Nat.le_refl _)
    have nG2 : ∀ b ∈ G2, ¬ vB o b := fun b hb hv => by
      rcases hG2 b hb with h | h
      · exact hG b h hv
      · have := (so.ge hv).2; omega
    have s24' := (s2.keep k3).keeps (k4.mono nG2)
    have nG4 : ∀ b ∈ G2, ¬ vB v4 b := fun b hb hv => by
      rcases b4 b hv with h | h
      · exact nG2 b hb h
      · have := s2.ltF hb; omega
    have s3l := s3.len
    rw [hnc] at o4 e4 e5 s3l
    generalize xs[i] = xi at *
    simp [g588_0, hM, g22, g6, g7, hi, ix, ld, e2, e3, s3l, e4, e5, st]
    exact hJ _ hi ⟨hi, by simp, ⟨w2, zs, G2, v4, by simp, s24', r2, by omega, nG4, hzm, by simp, o4⟩, trivial, hkk, by show h.length ≤ h4.length; omega⟩
  · have : i = xs.length := by omega
    subst this
    simp [g588_0, hM, g22, g7]
    exact hR _ _ ⟨o, rfl, so, hk, hln⟩
end GL

namespace GL
open Go

theorem links_good {c : Hs} (hb : houseB c = true) : linksB (linksR c.heard c.groups) = true ∧ (linksR c.heard c.groups).length = c.heard.deeds.length := by
  obtain ⟨hg, hgl, h8⟩ := houseB_facts hb
  have hq : allQ c.heard c.groups = true := hb
  have hl : (linksR c.heard c.groups).length = c.heard.deeds.length := by simp [linksR, hq, allP, hgl]
  refine ⟨?_, hl⟩
  simp only [linksB, Bool.and_eq_true, decide_eq_true_eq]
  refine ⟨by omega, List.all_eq_true.2 fun xs hx => ?_⟩
  rw [hl]
  simp only [linksR, hq, if_true] at hx
  obtain ⟨i, hi, rfl⟩ := List.mem_map.1 hx
  have hi' : i < c.groups.length := List.mem_range.1 hi
  simp only [allQ, Bool.and_eq_true, decide_eq_true_eq] at hq
  have hgq := List.all_eq_true.1 hq.2 _ (List.getElem_mem hi')
  have hgd : c.groups.getD i [] = c.groups[i] := by rw [List.getD_eq_getElem?_getD, List.getElem?_eq_getElem hi']; rfl
  rw [hgd]
  simp only [risB, decide_eq_true_eq]
  refine ⟨fun x hx => ?_, ofL_rising _ _ _⟩
  obtain ⟨p, hp, hxp⟩ := (mem_ofL hg (groupQ_in hgq)).1 hx
  have := depsL_in hg (groupQ_in hgq p hp) hxp
  omega
noncomputable def soO (c : Hs) (r : Int) (k : Nat) : Oc := outF c.heard (outK (linksR c.heard c.groups) ((rowAt c.heard r).take k) ((rowAt c.heard r).take k).length)
def placeQ (c : Hs) (r : Int) : Bool := houseB c && decide (0 ≤ r ∧ r ≤ c.heard.no - 1)
theorem l17Place_ok {h : Heap} {v : V} {c : Hs} {F : List Nat} (hc : HsV h v c F) (r : Int) : ∃ w h', call p 770 [v, vi r] h = some (w, h') ∧ w = .bool (placeQ c r) ∧ Keeps h h' ∧ h.length ≤ h'.length := by
  obtain ⟨_, h1, e1, rfl, k1, l1⟩ := GoodHouseS_ok hc
  obtain ⟨x, y, z, F1, F2, F3, rfl, rfl, hx, hy, hz⟩ := hc
  refine go (fn := g770) rfl rfl fun R hR => ?_
  cases hb : houseB c with
  | false =>
    rw [hb] at e1
    simp [g770, fillL, upd, hx.cells, hx.cell, hy.cells, hy.cell, hz.cells, hz.cell, e1]
    exact hR _ _ ⟨by simp [placeQ, hb], k1, l1⟩
  | true =>
    rw [hb] at e1
    obtain ⟨hg, _⟩ := houseB_facts hb
    obtain ⟨hno, _⟩ := goodH_facts hg
    have w1 : IntKind.i64.wrap (c.heard.no - 1) = c.heard.no - 1 := by rw [IntWalk.i64_in] <;> omega
    simp [g770, fillL, upd, hx.cells, hx.cell, hy.cells, hy.cell, hz.cells, hz.cell, e1, w1, -Bool.decide_and]
    exact hR _ _ ⟨by simp [placeQ, hb], k1, l1⟩
/-- a row, as far as it goes -/
theorem row_pre {c : Hs} {r : Int} (hp : placeQ c r = true) (k : Nat) : goodH c.heard = true ∧ houseB c = true ∧ (0 ≤ r ∧ r < (c.heard.rows.length : Int)) ∧ ((rowAt c.heard r).length = c.heard.deeds.length) ∧ onceB c.heard.deeds.length ((rowAt c.heard r).take k) = true ∧ (∀ x ∈ (rowAt c.heard r).take k, InR (linksR c.heard c.groups) x) := by
  simp only [placeQ, Bool.and_eq_true, decide_eq_true_eq] at hp
  obtain ⟨hb, hr⟩ := hp
  obtain ⟨hg, hgl, h8⟩ := houseB_facts hb
  obtain ⟨r0, r1, hmem⟩ := rows_get hg hr
  obtain ⟨_, _, _, hrows⟩ := goodH_facts hg
  obtain ⟨hlen, hin, hnd, _⟩ := hrows _ hmem
  obtain ⟨_, hll⟩ := links_good hb
  refine ⟨hg, hb, ⟨r0, r1⟩, hlen, ?_, fun x hx => ?_⟩
  · simp only [onceB, decide_eq_true_eq]
    exact ⟨fun x hx => by have := hin x (List.mem_of_mem_take hx); omega, List.Sublist.nodup (List.take_sublist ..) hnd⟩
  · have := hin x (List.mem_of_mem_take hx)
    exact ⟨this.1, by rw [hll]; exact this.2⟩
theorem l17So_ok {h : Heap} {v : V} {c : Hs} {F : List Nat} (hc : HsV h v c F) {r : Int} (hp : placeQ c r = true) (k : Nat) (hk : k ≤ c.heard.deeds.length) :
    ∃ w h', call p 771 [v, vi r, vi k] h = some (w, h') ∧ ∃ G, OcV h' w (soO c r k) G ∧ (∀ i ∈ G, h.length ≤ i) ∧ Keeps h h' ∧ h.length ≤ h'.length := by
  obtain ⟨hg, hb, hr, hlen, hon, hin⟩ := row_pre hp k
  obtain ⟨hlk, hll⟩ := links_good hb
  obtain ⟨_, h8, _⟩ := goodH_facts hg
  have hcc := hc
  obtain ⟨x, y, z, F1, F2, F3, rfl, rfl, hx, hy, hz⟩ := hc
  obtain ⟨_, h1, e1, o1, G1, rfl, s1, k1, l1⟩ := AllDepsS_ok (c := c.heard) ⟨x, y, F1, F2, rfl, rfl, hx, hy⟩ hz
  have hq : allQ c.heard c.groups = true := hb
  rw [hq] at e1
  have e1' : ∃ h1', call p 774 [.agg [vi c.heard.no, x, y, z]] h = some (o1, h1') ∧ h1' = h1 := by
    obtain ⟨w, h', e, hw, hh⟩ : ∃ w h', call p 774 [.agg [vi c.heard.no, x, y, z]] h = some (w, h') ∧ w = o1 ∧ h' = h1 := by
      refine go (fn := g774) rfl rfl fun R hR => ?_
      simp [g774, fillL, upd, hx.cells, hx.cell, hy.cells, hy.cell, hz.cells, hz.cell, e1]
      exact hR _ _ ⟨rfl, rfl⟩
    exact ⟨h', by rw [e, hw], hh⟩
  obtain ⟨_, e2, rfl⟩ := e1'
  obtain ⟨u, Gu, i1, ld1, su, _⟩ := readL hy hr
  have su1 : SdF h u (rowAt c.heard r) Gu := su
  have ld1' := rdH_keep k1 ld1
  obtain ⟨pu, Gp, ep, sp, _⟩ := (su1.keep k1).pre (i := k) (by omega)
  have hon' : onceB (linksR c.heard c.groups).length ((rowAt c.heard r).take k) = true := by rw [hll]; exact hon
  obtain ⟨_, h2, e3, o2, rfl, s2, k2, l2⟩ := DoneByS_ok s1 sp hlk hon'
  have hol := outK_short hlk ((rowAt c.heard r).take k) ((rowAt c.heard r).take k).length
  have hoi := outK_in hlk ((rowAt c.heard r).take k) ((rowAt c.heard r).take k).length
  obtain ⟨r3, h3, e4, G3, c3, f3, k3, l3⟩ := l17By_ok (hcc.keep (k1.trans k2)) hg s2.sl (fun p hp => by have := hoi p hp; exact ⟨this.1, by have := this.2; rw [hll] at this; exact this⟩) (by omega)
  have c3' := c3
  obtain ⟨a, b, d, _, _, _, rfl, _, ga, gb, gd⟩ := c3'
  refine go (fn := g771) rfl rfl fun R hR => ?_
  simp [g771, fillL, upd, hx.cells, hx.cell, hy.cells, hy.cell, hz.cells, hz.cell, i1, ld1, ld1', e2, stable, bounds, takeB, ep, e3, e4, resV, mkV, ga.cells, ga.cell, gb.cells, gb.cell, gd.cells, gd.cell]
  exact hR _ _ ⟨G3, c3, fun i hi => by have := f3 i hi; omega, (k1.trans k2).trans k3, by omega⟩
def sfB (c : Hs) (r k : Int) : Bool := placeQ c r && decide (0 ≤ k ∧ k ≤ (c.heard.deeds.length : Int))
noncomputable def sfR (c : Hs) (r k : Int) : Oc := if sfB c r k = true then soO c r k.toNat else zO
theorem OutcomeSoFar_ok {h : Heap} {v : V} {c : Hs} {F : List Nat} (hc : HsV h v c F) (r k : Int) :
    ∃ w h', call p 721 [v, vi r, vi k] h = some (w, h') ∧ ∃ o G, w = .tup [o, .bool (sfB c r k)] ∧ OcV h' o (sfR c r k) G ∧ Fresh h.length h' G ∧ Keeps h h' ∧ h.length ≤ h'.length := by
  obtain ⟨_, h1, e1, o1, G1, rfl, s1, f1, k1, l1⟩ := LinksOf_ok hc
  have hcc := hc
  obtain ⟨x, y, z, F1, F2, F3, rfl, rfl, hx, hy, hz⟩ := hc
  refine go (fn := g721) rfl rfl fun R hR => ?_
  have fin : sfB c r k = false → R (.tup [.agg [.nils, .nils, .nils], .bool false]) h1 := fun hb => hR _ _ ⟨_, [], by rw [hb], by simp only [sfR, hb]; exact zO_v h1, Fresh.nil, k1, l1⟩
  cases hb : houseB c with
  | false =>
    rw [hb] at e1
    simp [g721, fillL, upd, hx.cells, hx.cell, hy.cells, hy.cell, hz.cells, hz.cell, e1, resV, mkV]
    exact fin (by simp [sfB, placeQ, hb])
  | true =>
    rw [hb] at e1
    obtain ⟨hg, _⟩ := houseB_facts hb
    obtain ⟨hno, h8, _⟩ := goodH_facts hg
    have w1 : IntKind.i64.wrap (c.heard.no - 1) = c.heard.no - 1 := by rw [IntWalk.i64_in] <;> omega
    by_cases hr : 0 ≤ r ∧ r ≤ c.heard.no - 1
    · by_cases hkk : 0 ≤ k ∧ k ≤ (c.heard.deeds.length : Int)
      · have hp : placeQ c r = true := by simp only [placeQ, hb, decide_eq_true hr, Bool.and_self]
        have hs : sfB c r k = true := by simp only [sfB, hp, decide_eq_true hkk, Bool.and_self]
        obtain ⟨n, rfl⟩ : ∃ n : Nat, k = n := ⟨k.toNat, by omega⟩
        obtain ⟨_, _, hrr, hlen, hon, hin⟩ := row_pre hp n
        obtain ⟨hlk, hll⟩ := links_good hb
        obtain ⟨u, Gu, i1, ld1, su, _⟩ := readL (hy.keep k1) hrr
        have su1 : SdF h1 u (rowAt c.heard r) Gu := su
        obtain ⟨pu, Gp, ep, sp, _⟩ := su1.pre (i := n) (by omega)
        obtain ⟨r2, h2, e2, s2, k2, l2⟩ := doneBy_ok s1 sp.sl hlk hin (by rw [List.length_take]; omega)
        have hol := outK_short hlk ((rowAt c.heard r).take n) ((rowAt c.heard r).take n).length
        have hoi := outK_in hlk ((rowAt c.heard r).take n) ((rowAt c.heard r).take n).length
        obtain ⟨r3, h3, e4, G3, c3, f3, k3, l3⟩ := outcome_ok (hcc.keep (k1.trans k2)) hg s2.sl (fun p hp => by have := hoi p hp; exact ⟨this.1, by have := this.2; rw [hll] at this; exact this⟩) (by omega)
        have c3' := c3
        obtain ⟨a, b, d, _, _, _, rfl, _, ga, gb, gd⟩ := c3'
        simp [g721, fillL, upd, hx.cells, hx.cell, hy.cells, hy.cell, hz.cells, hz.cell, hx.len, e1, w1, hr, hkk.2, i1, ld1, bounds, takeB, ep, e2, e4, resV, mkV, ga.cells, ga.cell, gb.cells, gb.cell, gd.cells, gd.cell]
        exact hR _ _ ⟨_, G3, by rw [hs], by simp only [sfR, hs, if_true, Int.toNat_natCast]; exact c3, f3.mono (by omega), (k1.trans k2).trans k3, by omega⟩
      · have hk2 : decide (0 ≤ k ∧ k ≤ (c.heard.deeds.length : Int)) = false := decide_eq_false hkk
        simp [g721, fillL, upd, hx.cells, hx.cell, hy.cells, hy.cell, hz.cells, hz.cell, hx.len, e1, w1, hr, hk2, resV, mkV, -Bool.decide_and]
        exact fin (by simp only [sfB, hk2, Bool.and_false])
    · have hr2 : decide (0 ≤ r ∧ r ≤ c.heard.no - 1) = false := decide_eq_false hr
      simp [g721, fillL, upd, hx.cells, hx.cell, hy.cells, hy.cell, hz.cells, hz.cell, hx.len, e1, w1, hr2, resV, mkV, -Bool.decide_and]
      exact fin (by simp only [sfB, placeQ, hr2, Bool.and_false, Bool.false_and])
end GL

namespace GL
open Go

theorem sf_at (c : Hs) (r : Int) : sfB c r (c.heard.deeds.length : Int) = placeQ c r := by
  simp only [sfB]
  rw [decide_eq_true (show 0 ≤ (c.heard.deeds.length : Int) ∧ (c.heard.deeds.length : Int) ≤ c.heard.deeds.length by omega), Bool.and_true]
noncomputable def atR (c : Hs) (r : Int) : Oc := sfR c r (c.heard.deeds.length : Int)
theorem OutcomeAt_ok {h : Heap} {v : V} {c : Hs} {F : List Nat} (hc : HsV h v c F) (r : Int) :
    ∃ w h', call p 724 [v, vi r] h = some (w, h') ∧ ∃ o G, w = .tup [o, .bool (placeQ c r)] ∧ OcV h' o (atR c r) G ∧ Fresh h.length h' G ∧ Keeps h h' ∧ h.length ≤ h'.length := by
  obtain ⟨_, h1, e1, o, G, rfl, c1, f1, k1, l1⟩ := OutcomeSoFar_ok hc r (c.heard.deeds.length : Int)
  rw [sf_at] at e1
  have c1' := c1
  obtain ⟨x, y, z, F1, F2, F3, rfl, rfl, hx, hy, hz⟩ := hc
  obtain ⟨a, b, d, _, _, _, rfl, _, ga, gb, gd⟩ := c1'
  refine go (fn := g724) rfl rfl fun R hR => ?_
  simp [g724, fillL, upd, hx.cells, hx.cell, hy.cells, hy.cell, hz.cells, hz.cell, hx.len, e1, resV, mkV, ga.cells, ga.cell, gb.cells, gb.cell, gd.cells, gd.cell]
  exact hR _ _ ⟨_, G, rfl, c1, f1, k1, l1⟩
theorem OutcomeAtS_ok {h : Heap} {v : V} {c : Hs} {F : List Nat} (hc : HsV h v c F) (r : Int) :
    ∃ w h', call p 726 [v, vi r] h = some (w, h') ∧ ∃ o G, w = .tup [o, .bool (placeQ c r)] ∧ OcV h' o (atR c r) G ∧ (∀ i ∈ G, h.length ≤ i) ∧ Keeps h h' ∧ h.length ≤ h'.length := by
  obtain ⟨_, h1, e1, rfl, k1, l1⟩ := l17Place_ok hc r
  have hcc := hc.keep k1
  obtain ⟨x, y, z, F1, F2, F3, rfl, rfl, hx, hy, hz⟩ := hc
  refine go (fn := g726) rfl rfl fun R hR => ?_
  cases hp : placeQ c r with
  | false =>
    have hs : sfB c r (c.heard.deeds.length : Int) = false := by rw [sf_at, hp]
    rw [hp] at e1
    simp [g726, fillL, upd, hx.cells, hx.cell, hy.cells, hy.cell, hz.cells, hz.cell, e1, resV, mkV]
    exact hR _ _ ⟨_, [], by rw [hp], by simp only [atR, sfR, hs]; exact zO_v h1, by simp, k1, l1⟩
  | true =>
    have hs : sfB c r (c.heard.deeds.length : Int) = true := by rw [sf_at, hp]
    rw [hp] at e1
    obtain ⟨r3, h3, e4, G3, c3, f3, k3, l3⟩ := l17So_ok hcc hp c.heard.deeds.length (Nat.le_refl _)
    have c3' := c3
    obtain ⟨a, b, d, _, _, _, rfl, _, ga, gb, gd⟩ := c3'
    simp [g726, fillL, upd, hx.cells, hx.cell, hy.cells, hy.cell, hz.cells, hz.cell, hx.len, e1, e4, resV, mkV, ga.cells, ga.cell, gb.cells, gb.cell, gd.cells, gd.cell]
    exact hR _ _ ⟨_, G3, by rw [hp], by simp only [atR, sfR, hs, if_true, Int.toNat_natCast]; exact c3, fun i hi => by have := f3 i hi; omega, k1.trans k3, by omega⟩
theorem outF_sm {c : Hd} (hd : c.deeds.length ≤ 8) {ps : List Int} (hin : ∀ p ∈ ps, 0 ≤ p ∧ p < (c.deeds.length : Int)) (hl : ps.length ≤ 8) : smO (outF c ps) := by
  obtain ⟨h1, h2, _⟩ := fold_ok (c := c) (n := c.deeds.length) (by omega) (ps := ps) (q := (List.replicate 10 0, List.replicate c.deeds.length (-1))) hin ⟨by simp, by simp, fun k hk => by simp only [List.mem_replicate] at hk; omega⟩
  exact ⟨by simp only [outF]; omega, by simp only [outF]; omega, by simp only [outF]; omega⟩
theorem sfR_sm (c : Hs) (r k : Int) : smO (sfR c r k) := by
  unfold sfR
  split
  · rename_i hs
    simp only [sfB, Bool.and_eq_true] at hs
    obtain ⟨hg, hb, _, _, _, _⟩ := row_pre hs.1 k.toNat
    obtain ⟨_, h8, _⟩ := goodH_facts hg
    obtain ⟨hlk, hll⟩ := links_good hb
    have hol := outK_short hlk ((rowAt c.heard r).take k.toNat) ((rowAt c.heard r).take k.toNat).length
    have hoi := outK_in hlk ((rowAt c.heard r).take k.toNat) ((rowAt c.heard r).take k.toNat).length
    exact outF_sm h8 (fun p hp => by have := hoi p hp; exact ⟨this.1, by have := this.2; rw [hll] at this; exact this⟩) (by omega)
  · exact ⟨by simp [zO], by simp [zO], by simp [zO]⟩

end GL

namespace GL
open Go

theorem FnExactOutcomeAt_ok {h : Heap} {va : V} {c : Hs} {F : List Nat} (hc : HsV h va c F) (r : Int) : ∃ w h', call p 729 [va, vi r] h = some (w, h') ∧ w = .bool true := by
  refine go (fn := g729) rfl rfl fun R hR => ?_
  obtain ⟨n, en, hn⟩ := szHouse_eq hc
  have hcc := hc
  obtain ⟨x, y, z, F1, F2, F3, rfl, hF, hx, hy, hz⟩ := hc
  by_cases hneg : n < 0
  · simp [g729, fillL, upd, hx.cells, hx.cell, hy.cells, hy.cell, hz.cells, hz.cell, en, hneg]
    exact hR _ _ rfl
  · have hsm : smS c := by
      rcases hn with h | h
      · exact absurd h hneg
      · exact h
    obtain ⟨r1, h1, e1, G1, c1, f1, k1, l1⟩ := toHouse_ok hcc hsm
    obtain ⟨_, h2, e2, o2, G2, rfl, s2, f2, k2, l2⟩ := OutcomeAtS_ok c1 r
    have k12 := k1.trans k2
    obtain ⟨r3, h3, e3, G3, c3, f3, k3, l3⟩ := toHouse_ok (hcc.keep k12) hsm
    obtain ⟨_, h4, e4, o4, G4, rfl, s4, f4, k4, l4⟩ := OutcomeAt_ok c3 r
    have s2' := s2.keep (k3.trans k4)
    have e5 := eqOutcome_same s4 s2'
    obtain ⟨r6, h5, e6, G6, c6, f6, k6, l6⟩ := toHouse_ok (hcc.keep ((k12.trans k3).trans k4)) hsm
    have e7 := eqHouse_same (c3.keep (k4.trans k6)) c6
    obtain ⟨_, h6, e8, ⟨m8, rfl, m80, m81⟩, k8, l8⟩ := markHouse_ok (c3.keep (k4.trans k6)) (f3.keeps ((k4.trans k6).p _)) hsm
    have n4 : ∀ b ∈ G4, b ∉ G3 := fun b hb hb2 => by have := f4.ge b hb; have := c3.lt hb2; omega
    have n2 : ∀ b ∈ G2, b ∉ G3 := fun b hb hb2 => by have := f3.ge b hb2; have := s2.lt hb; omega
    have n24 : ∀ b ∈ G2, b ∉ G4 := fun b hb hb2 => by have := f4.ge b hb2; have := s2.lt hb; omega
    have s4' := (s4.keep k6).keeps (k8.mono n4)
    have s2'' := (s2'.keep k6).keeps (k8.mono n2)
    have e9 := eqOutcome_same s4' s2''
    have hso : smO (atR c r) := sfR_sm c r (c.heard.deeds.length : Int)
    have f4' := (f4.keeps (k6.p _)).keeps (k8.mono n4)
    obtain ⟨_, h7, e10, rfl, s10, k10, l10⟩ := markOutcome_ok s4' f4' hso
    have e11 := heldOutcome_eq s10 hso
    have hF3 : ∀ b ∈ F, b ∉ G3 := fun b hb hb2 => by have := f3.ge b hb2; have := hcc.lt hb; omega
    have hF4 : ∀ b ∈ F, b ∉ G4 := fun b hb hb2 => by have := f4.ge b hb2; have := hcc.lt hb; omega
    have hc7 := (((hcc.keep (((k12.trans k3).trans k4).trans k6)).keeps (k8.mono hF3)).keeps (k10.mono hF4))
    obtain ⟨r12, h8, e12, G12, c12, f12, k12', l12⟩ := toHouse_ok hc7 hsm
    obtain ⟨_, h9, e13, o13, G13, rfl, s13, f13, k13, l13⟩ := OutcomeAt_ok c12 r
    have e14 := eqOutcome_same s13 ((s2''.keeps (k10.mono n24)).keep (k12'.trans k13))
    have e15 := heldOutcome_eq (s10.keep (k12'.trans k13)) hso
    generalize placeQ c r = ok at *
    generalize atR c r = dl at *
    obtain ⟨x1, y1, t1, _, _, _, rfl, _, p1, q1, u1⟩ := c1
    obtain ⟨x3, y3, t3, _, _, _, rfl, _, p3, q3, u3⟩ := c3
    obtain ⟨x6, y6, t6, _, _, _, rfl, _, p6, q6, u6⟩ := c6
    obtain ⟨x12, y12, t12, _, _, _, rfl, _, p12, q12, u12⟩ := c12
    obtain ⟨a3, b3, d3, _, _, _, rfl, _, ga3, gb3, gd3⟩ := s2
    obtain ⟨a6, b6, d6, _, _, _, rfl, _, ga6, gb6, gd6⟩ := s4
    obtain ⟨a19, b19, d19, _, _, _, rfl, _, ga19, gb19, gd19⟩ := s13
    have z1 : ¬ m8 < 0 := by omega
    have z2 : ¬ 1 + (dl.order.length : Int) + dl.keys.length + dl.seen.length < 0 := by omega
    simp [g729, fillL, upd, resV, mkV, hx.cells, hx.cell, hy.cells, hy.cell, hz.cells, hz.cell, p1.cells, p1.cell, q1.cells, q1.cell, u1.cells, u1.cell, p3.cells, p3.cell, q3.cells, q3.cell, u3.cells, u3.cell, p6.cells, p6.cell, q6.cells, q6.cell, u6.cells, u6.cell, p12.cells, p12.cell, q12.cells, q12.cell, u12.cells, u12.cell,
      ga3.cells, ga3.cell, gb3.cells, gb3.cell, gd3.cells, gd3.cell, ga6.cells, ga6.cell, gb6.cells, gb6.cell, gd6.cells, gd6.cell, ga19.cells, ga19.cell, gb19.cells, gb19.cell, gd19.cells, gd19.cell,
      en, hneg, e1, e2, e3, e4, e5, e6, e7, e8, e9, e10, e11, e12, e13, e14, e15, z1, z2]
    exact hR _ _ rfl
theorem FnExactOutcomeAt_law {h : Heap} {x0 x1 : V} {c : Hs} {r : Int} {F0 F1 : List Nat} (r0 : RepA h x0 c F0 true) (r1 : RepA h x1 r F1 false) : ∃ w h', call p 729 [x0, x1] h = some (w, h') ∧ w = .bool true := by
  obtain ⟨vs, rfl, _, x, y, z, G1, G2, G3, rfl, rfl, hx, hy, hz⟩ := r0
  obtain ⟨u1, rfl, s1, rfl, _⟩ := r1
  exact FnExactOutcomeAt_ok (c := c) (F := G1 ++ G2 ++ G3) ⟨x, y, z, G1, G2, G3, rfl, rfl, hx, hy, hz⟩ r
end GL

