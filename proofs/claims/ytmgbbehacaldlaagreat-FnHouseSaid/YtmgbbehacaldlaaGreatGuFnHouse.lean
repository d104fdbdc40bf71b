import Derived.ChangeArms
import Derived.IntWalk
import Derived.WideShapes
import Derived.Test.YtmgbbehacaldlaaGreatGuFnHouseB
/- What the functions of the law do, on the machine. -/
set_option linter.unusedSimpArgs false
set_option linter.unusedVariables false
set_option linter.unnecessarySimpa false
namespace GL
open Go

def tail528 : GL.Code := .seq (.seq (.reg 0 [⟨0, some 5, none, .p .mov, [.c (.int .i64 0)]⟩])
   (.block 0 (.loop g528_0)))
   (.seq (.reg 0 [⟨0, some 35, none, .p .mov, [.t 0]⟩,
    ⟨1, some 36, none, .p .mov, [.t 4]⟩,
    ⟨2, some 37, none, .e .call [] [], [.f 567, .t 35, .t 36]⟩,
    ⟨3, some 6, none, .p .mov, [.t 37]⟩])
   (.seq (.seq (.reg 0 [⟨0, some 7, none, .p .mov, [.c (.int .i64 0)]⟩])
   (.block 2 (.loop g528_1)))
   (.seq (.seq (.reg 0 [⟨0, some 59, none, .p .mov, [.t 4]⟩,
    ⟨1, some 60, none, .p (.bin .gtr), [.t 59, .c (.int .i64 0)]⟩,
    ⟨2, some 61, none, .p .mov, [.t 60]⟩,
    ⟨3, some 62, some (61, true), .p .mov, [.t 0]⟩,
    ⟨4, some 63, some (61, true), .e .call [] [], [.f 92, .t 62, .c (.int .i64 30)]⟩,
    ⟨5, some 64, none, .p .pick, [.t 61, .t 63, .c (.bool false)]⟩])
   (.cond (.t 64) (.reg 0 [⟨0, some 65, none, .p (.faddr 2), [.t 3]⟩,
    ⟨1, some 66, none, .l (.load 3 false 1), [.t 65]⟩,
    ⟨2, some 67, none, .p (.idx 1), [.t 66, .c (.int .i64 0)]⟩,
    ⟨3, some 68, none, .r (.load false 1) true, [.t 67]⟩,
    ⟨4, some 69, none, .p .mov, [.t 0]⟩,
    ⟨5, some 70, none, .p .mov, [.t 4]⟩,
    ⟨6, some 71, none, .p (.bin .add), [.t 70, .c (.int .i64 2)]⟩,
    ⟨7, some 72, none, .e .call [3] [], [.f 91, .t 69, .t 71]⟩,
    ⟨8, some 73, none, .p (.bin .sub), [.t 72, .c (.int .i64 1)]⟩,
    ⟨9, some 74, none, .p (.idx 1), [.t 68, .c (.int .i64 0)]⟩,
    ⟨10, none, none, .e (.store 1) [] [], [.t 74, .t 73]⟩])
   (.skip)))
   (.seq (.reg 0 [⟨0, some 75, none, .l (.load 3 true 3), [.t 3]⟩,
    ⟨1, none, none, .l (.store 2 3), [.t 2, .t 75]⟩])
   (.ret)))))
theorem SdF.vB1 {α : Type} [Flat α] {h : Heap} {v : V} {xs : List α} {F : List Nat} (hs : SdF h v xs F) {b : Nat} (hb : b ∈ F) : vB v b := by
  have e := hs.flatF.1 b hb
  rcases hs with ⟨_, ⟨rfl, rfl, rfl⟩ | ⟨c, off, cap, rfl, _, _⟩⟩
  · simp at hb
  · simp only [bOf] at e; subst e; exact ⟨_, _, _, rfl⟩
theorem heard_tail {h0 h g : Heap} {N : Nat} (d : DC h0 h N) (hN : N < 2 ^ 54) (kb : KeepsBut h0.length g h) (hl : g.length ≤ h.length) (hc : h0.length < g.length) (n : Nat) (hn : n ≤ 9) (no : Nat) (hno : 3 ≤ no ∧ no ≤ 5) (s0 : S) (K : Ex → S → Prop) (g0 : s0.σ 0 = .v (.ptr h0.length 0)) (g4 : s0.σ 4 = .v (vi n)) (g2 : s0.σ 2 = .lp 2 1 0) (g3 : s0.σ 3 = .lp 3 1 0) (gL2 : s0.L 2 = (1, [.int .i64 0, .nils, .nils])) (gL : s0.L 3 = (1, [vi no, .nils, .nils])) (gh : s0.h = h)
    (hK : ∀ s x y (c : Hd) G, s.σ 2 = .lp 2 1 0 → s.L 2 = (1, [vi c.no, x, y]) → HdV s.h (.agg [vi c.no, x, y]) c G → c.no = no → c.deeds.length ≤ 9 → (∀ b ∈ G, g.length ≤ b) → DC h0 s.h (N + 600) → KeepsBut h0.length g s.h → g.length ≤ s.h.length → K .ret s) : Wc p tail528 s0 K := by
  obtain ⟨σ, L, H, wt, fl, base⟩ := s0
  simp only at g0 g4 g2 g3 gL2 gL gh
  subst gh
  simp [tail528]
  refine heard_deeds (g := g) d (by omega) kb hl hc n hn no _ _ (by simp [g0]) (by simp [g4]) (by simp) (by simp [g3]) gL rfl fun s u xs sM sL2 sL so sxl sd skb sl => ?_
  have s0' : s.σ 0 = .v (.ptr h0.length 0) := by rw [sM 0 (by decide)]; simp [g0]
  have s2' : s.σ 2 = .lp 2 1 0 := by rw [sM 2 (by decide)]; simp [g2]
  have s3' : s.σ 3 = .lp 3 1 0 := by rw [sM 3 (by decide)]; simp [g3]
  have s4' : s.σ 4 = .v (vi n) := by rw [sM 4 (by decide)]; simp [g4]
  obtain ⟨v6, h1, e1, bs, ob, hbl, d1, k1, l1⟩ := sd.shuffled (by omega) n (by omega)
  have ou1 : Out g.length h1 u xs := so.keeps k1.P (fun j hj e => by have := (so.ge hj).1; omega) (by omega)
  simp [s0', s4', e1]
  refine heard_rows (g := g) d1 (by omega) (skb.trans k1) (by omega) hc n hn no (by omega) ou1 (ob.mono (by omega)) hbl _ _ (by simp [s0']) (by simp [s4']) (by simp) (by simp) (by simp [s3']) (by simpa using sL) rfl fun t r rs G tM tL2 tL to tu trl trn td tkb tl => ?_
  have t0' : t.σ 0 = .v (.ptr h0.length 0) := by rw [tM 0 (by decide)]; simp [s0']
  have t2' : t.σ 2 = .lp 2 1 0 := by rw [tM 2 (by decide)]; simp [s2']
  have t3' : t.σ 3 = .lp 3 1 0 := by rw [tM 3 (by decide)]; simp [s3']
  have t4' : t.σ 4 = .v (vi n) := by rw [tM 4 (by decide)]; simp [s4']
  have tL2' : t.L 2 = (1, [.int .i64 0, .nils, .nils]) := by rw [tL2]; simp [sL2, gL2]
  obtain ⟨F1, sF1, fF1⟩ := tu.fr
  obtain ⟨F2, sF2, fF2⟩ := to.fresh
  have ge1 : ∀ b ∈ F1, g.length ≤ b := fF1.ge
  have ge2 : ∀ b ∈ F2, g.length ≤ b := fun b hb => by have := fF2.ge b hb; omega
  have geA : ∀ b ∈ F1 ++ F2, g.length ≤ b := fun b hb => by
    rcases List.mem_append.1 hb with h | h
    · exact ge1 b h
    · exact ge2 b h
  have uc := sF1.cell
  have rc := sF2.cell
  by_cases hn0 : 0 < n
  · have hn0' : (0 : Int) < n := by omega
    obtain ⟨b, h2, e2, d2, k2, l2⟩ := td.one (by omega) 30 (by decide)
    have kb2 := tkb.trans k2
    have sF1' := sF1.keeps (k2.P.mono fun b hb => by have := ge1 b hb; omega)
    have sF2' := sF2.keeps (k2.P.mono fun b hb => by have := ge2 b hb; omega)
    cases b with
    | false =>
      simp [t0', t2', t3', t4', hn0, e2, tL, tL2', upd, uc, rc]
      exact hK _ u r ⟨no, xs, rs⟩ (F1 ++ F2) (by simp [t2']) (by simp [upd]) ⟨u, r, F1, F2, rfl, rfl, sF1', sF2'⟩ rfl (by simp; omega) geA (d2.mono (by omega)) kb2 (by show g.length ≤ h2.length; omega)
    | true =>
      have w2 : IntKind.i64.wrap ((n : Int) + 2) = (n + 2 : Nat) := by rw [IntWalk.i64_in] <;> omega
      obtain ⟨m, h3, e3, hm, d3, k3, l3⟩ := d2.pick (by omega) ((n + 2 : Nat) : Int) (by omega)
      have kb3 := kb2.trans k3
      have sF1'' := sF1'.keeps (k3.P.mono fun b hb => by have := ge1 b hb; omega)
      have hrl : 0 < rs.length := by omega
      have sF2'' := sF2'.keeps (k3.P.mono fun b hb => by have := ge2 b hb; omega)
      have fr3 := (fF2.keeps (k2.P.mono fun b hb => by have := ge2 b hb; omega)).keeps (k3.P.mono fun b hb => by have := ge2 b hb; omega)
      have iw := sF2'.idx 1 .i64 0 hrl
      have w3 : IntKind.i64.wrap ((m : Int) - 1) = (m : Int) - 1 := by rw [IntWalk.i64_in] <;> omega
      obtain ⟨cs2, X2, ld2, rep2, hX2, nX2, hbF, hfin⟩ := sF2''.inner fr3.nodup hrl
      obtain ⟨q, rfl, hq⟩ := rep2
      have ld3 : rdH h3 (bOf r) (oOf r) 1 = some [q] := by simpa [Data.sz] using ld2
      obtain ⟨q', X2', ld2', hq', _⟩ := sF2'.loadL 0 hrl
      -- the same cell, before and after
      have ld4 : rdH h2 (bOf r) (oOf r) 1 = some [q'] := by simpa using ld2'
      have hqq : q' = q := by
        have hne : bOf r ≠ h0.length := by have := ge2 _ hbF; omega
        have : rdH h3 (bOf r) (oOf r) 1 = some [q'] := by
          unfold rdH at ld4 ⊢
          split at ld4
          case h_2 => cases ld4
          rename_i blk hblk
          split at ld4
          case isTrue => cases ld4
          rename_i hlv
          rw [k3 _ _ hne hblk hlv]
          simp only [hlv, if_false]; exact ld4
        rw [ld3] at this
        injection this with this
        injection this with this
        exact this.symm
      subst hqq
      have hr0 : (rs[0]).length = n := trn _ (List.getElem_mem hrl)
      have hr0' : 0 < (rs[0]).length := by omega
      obtain ⟨hXa, hXb, hXc⟩ := hq.flatF
      have hbq : bOf q' ∈ X2 := by rw [hXc (fun e => by rw [e] at hr0'; simp at hr0')]; simp
      have ownq : OwnB h3 (bOf q') := fr3.own _ (hX2 _ hbq).1
      obtain ⟨h4, e4, hq4, k4, l4, o4⟩ := hq.putF (i := 0) ownq hr0' (x' := (m : Int) - 1) (o := 0) (ys := [vi ((m : Int) - 1)]) (by simp [Flat.cells, lay])
      simp [Flat.sz] at e4
      have iq := hq.idx 1 .i64 0 hr0'
      simp at iq iw
      have kX : KeepsP (fun b => b ∉ X2) h3 h4 := k4.mono fun b hb e => hb (by rw [e]; exact hbq)
      have sR := hfin h4 (rs[0].set 0 ((m : Int) - 1)) kX ⟨q', rfl, hq4⟩
      have nF1 : ∀ b ∈ F1, b ≠ bOf q' := fun b hb e => by
        have h1 := fF2.ge _ (hX2 _ hbq).1
        have h2 := (ou1.ge (sF1.vB1 hb)).2
        omega
      have sF14 := sF1''.keeps (k4.mono nF1)
      have hql : h0.length ≠ bOf q' := by have := ge2 _ (hX2 _ hbq).1; omega
      have d4 : DC h0 h4 (N + 600) := (d3.mono (by omega)).far k4 fun j hj e => by have := ge2 _ (hX2 _ hbq).1; omega
      have kb4 : KeepsBut h0.length g h4 := kb3.far k4 fun j hj _ e => by have := ge2 _ (hX2 _ hbq).1; omega
      have hst : rdH h2 (bOf r) (oOf r) 1 = some [q'] := ld4
      simp [t0', t2', t3', t4', hn0, e2, tL, tL2', upd, uc, rc, iw, ld4, w2, e3, ld3, stable, w3, iq, e4, -Int.natCast_add]
      exact hK _ u r ⟨no, xs, rs.set 0 (rs[0].set 0 ((m : Int) - 1))⟩ (F1 ++ F2) (by simp [t2']) (by simp [upd]) ⟨u, r, F1, F2, rfl, rfl, sF14, sR⟩ rfl (by simp; omega) geA d4 kb4 (by show g.length ≤ h4.length; omega)
  · have hnn : n = 0 := by omega
    subst hnn
    simp [t0', t2', t3', t4', tL, tL2', upd, uc, rc]
    exact hK _ u r ⟨no, xs, rs⟩ (F1 ++ F2) (by simp [t2']) (by simp [upd]) ⟨u, r, F1, F2, rfl, rfl, sF1, sF2⟩ rfl (by simp; omega) geA (td.mono (by omega)) tkb (by show g.length ≤ t.h.length; omega)
end GL

namespace GL
open Go

theorem DC.heard {h0 h : Heap} {N : Nat} (d : DC h0 h N) (hN : N < 2 ^ 53) : ∃ v h', call p 528 [.ptr h0.length 0] h = some (v, h') ∧ ∃ (c : Hd) (G : List Nat), HdV h' v c G ∧ (c.no = 3 ∨ c.no = 5) ∧ c.deeds.length ≤ 9 ∧ (∀ b ∈ G, h.length ≤ b) ∧ DC h0 h' (N + 700) ∧ KeepsBut h0.length h h' ∧ h.length ≤ h'.length := by
  have hlt := d.lt
  obtain ⟨x, h1, e1, hx, d1, k1, l1⟩ := d.amongL (by omega) [3, 3, 5] 3 rfl [vi 3, vi 3, vi 5] rfl (.k 3) (by decide) (by decide)
  obtain ⟨no, rfl, hno, hno2⟩ : ∃ n : Nat, x = n ∧ (n = 3 ∨ n = 5) ∧ (3 ≤ n ∧ n ≤ 5) := by
    simp at hx
    rcases hx with rfl | rfl
    · exact ⟨3, rfl, .inl rfl, by omega, by omega⟩
    · exact ⟨5, rfl, .inr rfl, by omega, by omega⟩
  obtain ⟨a, h2, e2, ha, d2, k2, l2⟩ := d1.pick (by omega) 7 (by decide)
  obtain ⟨b, h3, e3, d3, k3, l3⟩ := d2.one (by omega) 20 (by decide)
  have kb3 := (k1.trans k2).trans k3
  refine go (fn := g528) rfl rfl fun R hR => ?_
  show Wc p (.seq _ (.seq _ (.seq _ (.seq _ tail528)))) _ _
  have fin : ∀ (s : S) (x y : V) (c : Hd) (G : List Nat) , s.σ 2 = .lp 2 1 0 → s.L 2 = (1, [vi c.no, x, y]) → HdV s.h (.agg [vi c.no, x, y]) c G → c.no = no → c.deeds.length ≤ 9 → (∀ b ∈ G, h.length ≤ b) → DC h0 s.h (N + 700) → KeepsBut h0.length h s.h → h.length ≤ s.h.length → finK g528.res (fun r => R r.1 r.2) .ret s := fun s x y c G g2 gL hc hcn hd hG dd kb hl => by
    simp [g528, g2, gL, resV, mkV]
    exact hR _ _ ⟨c, G, hc, by rw [hcn]; omega, hd, hG, dd, kb, hl⟩
  cases b with
  | false =>
    simp [g528, fillL, upd, e1, e2, e3]
    refine heard_tail (g := h) d3 (by omega) kb3 (by omega) hlt a (by omega) no hno2 _ _ (by simp) (by simp) (by simp) (by simp) (by simp [upd]) (by simp [upd]) rfl fun s x y c G g2 gL hc hcn hd hG dd kb hl => ?_
    exact fin s x y c G g2 gL hc hcn hd hG (dd.mono (by omega)) kb hl
  | true =>
    obtain ⟨m, h4, e4, hm, d4, k4, l4⟩ := d3.pick (by omega) 2 (by decide)
    have w : IntKind.i64.wrap (8 + (m : Int)) = (8 + m : Nat) := by rw [IntWalk.i64_in] <;> omega
    simp [g528, fillL, upd, e1, e2, e3, e4, w, -Int.natCast_add]
    refine heard_tail (g := h) d4 (by omega) (kb3.trans k4) (by omega) hlt (8 + m) (by omega) no hno2 _ _ (by simp) (by simp) (by simp) (by simp) (by simp [upd]) (by simp [upd]) rfl fun s x y c G g2 gL hc hcn hd hG dd kb hl => ?_
    exact fin s x y c G g2 gL hc hcn hd hG (dd.mono (by omega)) kb hl
/-- some places in a row, beginning anywhere -/
theorem groupBy568_ok {h : Heap} (n k f : Nat) (hn : n = 3 ∨ n = 5) (hk : 1 ≤ k ∧ k ≤ n) (hf : f < n) : ∃ r h', call p 568 [vi n, vi k, vi f] h = some (r, h') ∧ ∃ (o : V) (ps : List Int) (G : List Nat), r = .tup [o, .bool true] ∧ SdF h' o ps G ∧ ps.length ≤ 5 ∧ (∀ b ∈ G, h.length ≤ b) ∧ Keeps h h' ∧ h.length ≤ h'.length := by
  have e1 := l11Places_eq (n : Int) h
  have hm : manyB (n : Int) = true := by rcases hn with rfl | rfl <;> decide
  rw [hm] at e1
  have w1 : IntKind.i64.wrap ((n : Int) - 1) = (n : Int) - 1 := by rw [IntWalk.i64_in] <;> omega
  have hk2 : (1 : Int) ≤ k ∧ (k : Int) ≤ n := by omega
  have hf2 : (f : Int) ≤ (n : Int) - 1 := by omega
  refine go (fn := g568) rfl rfl fun R hR => ?_
  simp [g568, e1, hk2, w1, hf2]
  refine Wc_upM (M := [8, 9, 26, 27, 28, 29, 30, 31, 32, 33, 34, 35, 36, 37]) rfl k (fun i s => i ≤ k ∧ s.σ 9 = .v (vi i) ∧ (∃ (u : V) (ys : List Int) (G : List Nat), s.σ 8 = .v u ∧ SdF s.h u ys G ∧ ys.Pairwise (· < ·) ∧ ys.length ≤ i ∧ ∀ b ∈ G, h.length ≤ b) ∧ Keeps h s.h ∧ h.length ≤ s.h.length) 0
    ⟨by omega, by simp, ⟨.nils, [], [], by simp, .nil, by simp, by simp, by simp⟩, Keeps.refl _, Nat.le_refl _⟩ fun i s ⟨gi, g9, ⟨u, ys, G, g8, hs, hr, hl, hG⟩, hk', hl'⟩ hM J hJ => ?_
  by_cases hi : i < k
  · have w2 : IntKind.i64.wrap ((f : Int) + i) = (f + i : Nat) := by rw [IntWalk.i64_in] <;> omega
    have n0 : ¬ n = 0 := by omega
    have w4 : IntKind.i64.wrap ((i : Int) + 1) = i + 1 := by rw [IntWalk.i64_in] <;> omega
    obtain ⟨w6, h3, e5, zs, G6, s6, r6, m6, zl, hG6, k3, l3⟩ := l1Put_ok hs hr (by omega) (((f + i : Nat) : Int).tmod n)
    simp [g568_0, hM, g9, g8, hi, w2, n0, e5, w4, -Int.natCast_add]
    refine hJ _ hi ⟨hi, by simp, ⟨w6, zs, G6, by simp, s6, r6, by omega, fun b hb => ?_⟩, hk'.trans k3, by show h.length ≤ h3.length; omega⟩
    rcases hG6 b hb with h | h
    · exact hG b h
    · omega
  · have : i = k := by omega
    subst this
    simp [g568_0, hM, g9, g8]
    exact hR _ _ ⟨u, ys, G, rfl, hs, by omega, hG, hk', hl'⟩
theorem DC.group {h0 h : Heap} {N : Nat} (d : DC h0 h N) (hN : N < 2 ^ 55) (n : Nat) (hn : n = 3 ∨ n = 5) : ∃ v h', call p 529 [.ptr h0.length 0, vi n] h = some (v, h') ∧ ∃ (ps : List Int) (G : List Nat), SdF h' v ps G ∧ ps.length ≤ 5 ∧ (∀ b ∈ G, h.length ≤ b) ∧ DC h0 h' (N + 10) ∧ KeepsBut h0.length h h' ∧ h.length ≤ h'.length := by
  have t : (n : Int).tdiv 2 = (n / 2 : Nat) := by rw [Int.tdiv_eq_ediv_of_nonneg (by omega)]; omega
  have w1 : IntKind.i64.wrap ((n / 2 : Nat) : Int) = (n / 2 : Nat) := by rw [IntWalk.i64_in] <;> omega
  have w2 : IntKind.i64.wrap (((n / 2 : Nat) : Int) + 1) = (n / 2 + 1 : Nat) := by rw [IntWalk.i64_in] <;> omega
  obtain ⟨a, h1, e1, ha, d1, k1, l1⟩ := d.pick (by omega) ((n / 2 + 1 : Nat) : Int) (by omega)
  obtain ⟨b, h2, e2, hb, d2, k2, l2⟩ := d1.pick (by omega) (n : Int) (by omega)
  have w3 : IntKind.i64.wrap (((n / 2 + 1 : Nat) : Int) + a) = (n / 2 + 1 + a : Nat) := by rw [IntWalk.i64_in] <;> omega
  obtain ⟨_, h3, e3, o, ps, G, rfl, s3, hl, hG, k3, l3⟩ := groupBy568_ok (h := h2) n (n / 2 + 1 + a) b hn (by omega) (by omega)
  refine go (fn := g529) rfl rfl fun R hR => ?_
  simp [g529, t, w1, w2, e1, e2, w3, e3, -Int.natCast_add, -Int.natCast_ediv]
  exact hR _ _ ⟨ps, G, s3, hl, fun b hb => by have := hG b hb; omega, (d2.keeps k3).mono (by omega), (k1.trans k2).trans (k3.but _), by omega⟩
end GL

namespace GL
open Go

end GL

namespace GL
open Go

theorem mem_readyL {l : List (List Int)} {ds : List Int} {n : Int} : n ∈ readyL l ds ↔ n ∈ ds ∧ ∀ x ∈ reachL l n, x ∈ ds := by
  simp [readyL, List.mem_filter]
theorem nextL_congr {l : List (List Int)} {ds ds' c : List Int} (h : ∀ x, x ∈ ds ↔ x ∈ ds') : nextL l ds c = nextL l ds' c := by
  unfold nextL
  congr 1
  apply List.filter_congr
  intro x _
  congr 1
  refine propext ?_
  rw [mem_readyL, mem_readyL, h]
  exact and_congr_right fun _ => forall_congr' fun y => imp_congr_right fun _ => h y
noncomputable def outK (l : List (List Int)) (xs : List Int) : Nat → List Int
  | 0 => []
  | k + 1 => outK l xs k ++ nextL l (xs.take (k + 1)) (outK l xs k)
theorem nextL_len {l : List (List Int)} (hg : linksB l = true) (ds c : List Int) : (nextL l ds c).length ≤ l.length := by
  have := groupsL_flat hg
  exact Nat.le_trans (List.length_filter_le ..) (Nat.le_trans (List.length_filter_le ..) (by omega))
theorem mem_nextL {l : List (List Int)} {ds c : List Int} {x : Int} : x ∈ nextL l ds c ↔ x ∈ (groupsL l).flatten ∧ x ∈ readyL l ds ∧ x ∉ c := by
  simp only [nextL, List.mem_filter, decide_eq_true_eq, Bool.not_eq_true', decide_eq_false_iff_not, and_assoc]
theorem outK_in {l : List (List Int)} (hg : linksB l = true) (xs : List Int) (k : Nat) : ∀ x ∈ outK l xs k, InR l x := by
  induction k with
  | zero => simp [outK]
  | succ k ih =>
    intro x hx
    simp only [outK, List.mem_append] at hx
    rcases hx with hx | hx
    · exact ih x hx
    · exact ((groupsL_facts hg).2.1 x).2 (mem_nextL.1 hx).1
theorem outK_nodup {l : List (List Int)} (hg : linksB l = true) (xs : List Int) (k : Nat) : (outK l xs k).Nodup := by
  induction k with
  | zero => simp [outK]
  | succ k ih =>
    simp only [outK]
    rw [List.nodup_append]
    refine ⟨ih, ?_, fun a ha b hb e => ?_⟩
    · exact List.Sublist.nodup List.filter_sublist (List.Sublist.nodup List.filter_sublist (groupsL_facts hg).1)
    · subst e; exact (mem_nextL.1 hb).2.2 ha
theorem outK_short {l : List (List Int)} (hg : linksB l = true) (xs : List Int) (k : Nat) : (outK l xs k).length ≤ l.length := nodup_len (outK_nodup hg xs k) (outK_in hg xs k)
theorem Out.appT {α : Type} [Flat α] {lo : Nat} {h : Heap} {v w : V} {xs zs : List α} (ho : Out lo h v xs) (hs : Sl h w zs) {bytes : Nat} (hb : bytes ≤ 2 ^ 8) (hl : xs.length + zs.length ≤ 2 ^ 30) {k n : Nat} (hk : k = Flat.sz α) (hn : n = zs.length) :
    ∃ ys v' h', GL.rdS h k w n = some ys ∧ appH k bytes v n ys h = some (v', h') ∧ Out lo h' v' (xs ++ zs) ∧ KeepsP (fun i => ¬ vB v i) h h' ∧ h.length ≤ h'.length ∧ ∀ i, vB v' i → vB v i ∨ h.length ≤ i := by
  subst hk; subst hn
  have e := hs.rdS zs.length (Nat.le_refl _)
  rw [List.take_length] at e
  by_cases h0 : zs.length = 0
  · have hz : zs = [] := List.length_eq_zero_iff.1 h0
    subst hz
    have := ho.sl.len
    exact ⟨_, v, h, e, by simp [appH, this], by simpa using ho, KeepsP.refl _ _, Nat.le_refl _, fun i hi => .inl hi⟩
  · obtain ⟨v', h', e1, o', k', l', b'⟩ := ho.app zs (by omega) hb hl rfl rfl rfl
    exact ⟨_, v', h', e, e1, o', k', by omega, fun i hi => .inr (by have := b' i hi; omega)⟩
theorem doneBy_ok {h : Heap} {v w : V} {l : List (List Int)} {F : List Nat} {xs : List Int} (hs : SdF h v l F) (hx : Sl h w xs) (hg : linksB l = true) (hin : ∀ x ∈ xs, InR l x) (hl : xs.length ≤ 2 ^ 10) :
    ∃ r h', call p 604 [v, w] h = some (r, h') ∧ Out h.length h' r (outK l xs xs.length) ∧ Keeps h h' ∧ h.length ≤ h'.length := by
  obtain ⟨l12, _⟩ := linksB_facts hg
  refine go (fn := g604) rfl rfl fun R hR => ?_
  simp [g604, hx.len]
  have k0 : Keeps h (h ++ [⟨.own, []⟩, ⟨.own, []⟩]) := Keeps.append _ _
  refine Wc_upM (M := [5, 6, 8, 13, 14, 15, 16, 17, 18, 19, 20, 21, 22, 23, 24, 25, 26, 27]) rfl xs.length (fun i s => i ≤ xs.length ∧ s.σ 13 = .v (vi i) ∧ (∃ (u : V) (ys : List Int) (G : List Nat), s.σ 5 = .v u ∧ SdF s.h u ys G ∧ ys.length ≤ i ∧ ∀ x, x ∈ ys ↔ x ∈ xs.take i) ∧ (∃ o, s.σ 6 = .v o ∧ Out h.length s.h o (outK l xs i)) ∧ Keeps h s.h ∧ h.length ≤ s.h.length) 0
    ⟨by omega, by simp, ⟨.slice h.length 0 0 (.k 0), [], [], by simp, ⟨by simp, .inr ⟨h.length, 0, .k 0, rfl, Nat.le_refl 0, .inl ⟨rfl, rfl⟩⟩⟩, by simp, by simp⟩, ⟨.slice (h.length + 1) 0 0 (.k 0), by simp, by simpa [outK] using Out.empty (by omega) (by simp)⟩, k0, by simp⟩ fun i s ⟨gi, g13, ⟨u, ys, G, g5, su, hyl, hm⟩, ⟨o, g6, so⟩, hk, hln⟩ hM J hJ => ?_
  by_cases hi : i < xs.length
  · have ix := hx.idx 1 .i64 i hi
    simp only [Nat.mul_one] at ix
    have ld := (hx.keeps hk).loadI i hi
    have st := hx.step hi
    have hmt : ∀ z, z ∈ xs.take (i + 1) ↔ z ∈ xs.take i ∨ z = xs[i] := fun z => mem_take_succ hi
    have k1 : Keeps s.h (s.h ++ [⟨.own, [vi xs[i]]⟩]) := Keeps.append _ _
    have sl1 := Sl.lit (h := s.h) [xs[i]] 1 rfl [vi xs[i]] rfl (.k 1) (by simp)
    obtain ⟨G1, sd1, _⟩ := Sl.sdF sl1 (Nat.le_refl 1)
    obtain ⟨w2, h2, e2, zs, G2, s2, f2, r2, m2, k2, l2⟩ := together_ok (su.keep k1) sd1 (by simp; omega)
    have k12 := k1.trans k2
    have hzm : ∀ x, x ∈ zs ↔ x ∈ xs.take (i + 1) := fun x => by rw [m2, hm, hmt]; simp
    have hzin : ∀ x ∈ zs, InR l x := fun x hx => hin x (List.mem_of_mem_take ((hzm x).1 hx))
    have hzl : zs.length ≤ i + 1 := by
      have h1 : zs.Nodup := r2.imp fun h => by omega
      have := sub_len h1 (m := xs.take (i + 1)) fun x hx => (hzm x).1 hx
      rw [List.length_take] at this; omega
    have so2 : Out h.length h2 o (outK l xs i) := so.keeps (k12.p fun _ => True) (fun _ _ => trivial) (by simp at l2; omega)
    obtain ⟨r3, h3, e3, s3, k3, l3⟩ := nextDone_ok (hs.keep (hk.trans k12)) s2.sl so2.sl hg hzin (by omega)
    have so3 : Out h.length h3 o (outK l xs i) := so2.keeps (k3.p fun _ => True) (fun _ _ => trivial) l3
    have hnl := nextL_len hg zs (outK l xs i)
    have hol := outK_short hg xs i
    obtain ⟨ys4, v4, h4, e4, e5, o4, k4, l4⟩ := so3.appS s3 (bytes := 8) (by decide) (by omega) (k := 1) rfl (n := (nextL l zs (outK l xs i)).length) rfl
    have hnc : nextL l zs (outK l xs i) = nextL l (xs.take (i + 1)) (outK l xs i) := nextL_congr hzm
    have hkk : Keeps h h4 := so3.far ((hk.trans k12).trans k3) k4 (Nat.le_refl _)
    have s24 := s2.keep k3
    have nGv : ∀ b ∈ G2, ¬ vB o b := fun b hb hv => by have := (so.ge hv).2; have := f2.ge b hb; simp at this; omega
    have s3l := s3.len
    have s24' := s24.keeps (k4.mono nGv)
    rw [hnc] at o4 e4 e5 s3l
    generalize xs[i] = xi at *
    simp at l2
    simp [g604_0, hM, g13, g5, g6, hi, ix, ld, fillL, e2, e3, s3l, e4, e5, st]
    exact hJ _ hi ⟨hi, by simp, ⟨w2, zs, G2, by simp, s24', hzl, hzm⟩, ⟨v4, by simp, o4⟩, hkk, by show h.length ≤ h4.length; omega⟩
  · have : i = xs.length := by omega
    subst this
    simp [g604_0, hM, g13, g6]
    exact hR _ _ ⟨so, hk, hln⟩
theorem DoneByS_ok {h : Heap} {v w : V} {l : List (List Int)} {F F9 : List Nat} {xs : List Int} (hs : SdF h v l F) (hx : SdF h w xs F9) (hg : linksB l = true) (hon : onceB l.length xs = true) :
    ∃ r h', call p 588 [v, w] h = some (r, h') ∧ ∃ o, r = .tup [o, .bool true] ∧ Out h.length h' o (outK l xs xs.length) ∧ Keeps h h' ∧ h.length ≤ h'.length := by
  obtain ⟨l12, _⟩ := linksB_facts hg
  have e0 := GoodLinksS_eq hs
  rw [hg] at e0
  have e1 := l14Once_eq hx (l.length : Int) (by omega)
  rw [hon] at e1
  simp only [onceB, decide_eq_true_eq] at hon
  have hin : ∀ x ∈ xs, InR l x := fun x hx => ⟨(hon.1 x hx).1, by have := (hon.1 x hx).2; omega⟩
  have hxl := nodup_len hon.2 hin
  have hx' := hx.sl
  refine go (fn := g588) rfl rfl fun R hR => ?_
  simp [g588, e0, e1, hs.len, hx.len]
  refine Wc_upM (M := [6, 7, 9, 22, 23, 24, 25, 26, 27, 28, 29, 30, 31, 32, 33, 34, 35]) rfl xs.length (fun i s => i ≤ xs.length ∧ s.σ 22 = .v (vi i) ∧ (∃ (u : V) (ys : List Int) (G : List Nat) (o : V), s.σ 6 = .v u ∧ SdF s.h u ys G ∧ ys.Pairwise (· < ·) ∧ ys.length ≤ i ∧ (∀ b ∈ G, ¬ vB o b) ∧ (∀ x, x ∈ ys ↔ x ∈ xs.take i) ∧ s.σ 7 = .v o ∧ Out h.length s.h o (outK l xs i)) ∧ True ∧ Keeps h s.h ∧ h.length ≤ s.h.length) 0
    ⟨by omega, by simp, ⟨.nils, [], [], .nils, by simp, .nil, by simp, by simp, by simp, by simp, by simp, by simpa [outK] using Out.nil (Nat.le_refl _)⟩, trivial, Keeps.refl _, Nat.le_refl _⟩ fun i s ⟨gi, g22, ⟨u, ys, G, o, g6, su, hr, hyl, hG, hm, g7, so⟩, _, hk, hln⟩ hM J hJ => ?_
  by_cases hi : i < xs.length
  · have ix := hx.idx 1 .i64 i hi
    simp only [Nat.mul_one] at ix
    have ld := (hx'.keeps hk).loadI i hi
    have st := hx'.step hi
    have hmt : ∀ z, z ∈ xs.take (i + 1) ↔ z ∈ xs.take i ∨ z = xs[i] := fun z => mem_take_succ hi
    obtain ⟨w2, h2, e2, zs, G2, s2, r2, m2, zl, hG2, k2, l2⟩ := l1Put_ok su hr (by omega) xs[i]
    have hzm : ∀ x, x ∈ zs ↔ x ∈ xs.take (i + 1) := fun x => by rw [m2, hm, hmt]
    have hzin : ∀ x ∈ zs, InR l x := fun x hx => hin x (List.mem_of_mem_take ((hzm x).1 hx))
    have so2 : Out h.length h2 o (outK l xs i) := so.keeps (k2.p fun _ => True) (fun _ _ => trivial) l2
    obtain ⟨r3, h3, e3, s3, k3, l3⟩ := l14Next_ok (hs.keep (hk.trans k2)) s2.sl so2.sl hg hzin (by omega)
    have so3 : Out h.length h3 o (outK l xs i) := so2.keeps (k3.p fun _ => True) (fun _ _ => trivial) l3
    have hnl := nextL_len hg zs (outK l xs i)
    have hol := outK_short hg xs i
    obtain ⟨ys4, v4, h4, e4, e5, o4, k4, l4, b4⟩ := so3.appT s3 (bytes := 8) (by decide) (by omega) (k := 1) rfl (n := (nextL l zs (outK l xs i)).length) rfl
    have hnc : nextL l zs (outK l xs i) = nextL l (xs.take (i + 1)) (outK l xs i) := nextL_congr hzm
    have hkk : Keeps h h4 := so3.far ((hk.trans k2).trans k3) k4 (Nat.le_refl _)
    have nG2 : ∀ b ∈ G2, ¬ vB o b := fun b hb hv => by
      rcases hG2 b hb with h | h
      · exact hG b h hv
      · have := (so.ge hv).2; omega
    have s24' := (s2.keep k3).keeps (k4.mono nG2)
    have nG4 : ∀ b ∈ G2, ¬ vB v4 b := fun b hb hv => by
      rcases b4 b hv with h | h
      · exact nG2 b hb h
      · have := s2.ltF hb; omega
    have s3l := s3.len
    rw [hnc] at o4 e4 e5 s3l
    generalize xs[i] = xi at *
    simp [g588_0, hM, g22, g6, g7, hi, ix, ld, e2, e3, s3l, e4, e5, st]
    exact hJ _ hi ⟨hi, by simp, ⟨w2, zs, G2, v4, by simp, s24', r2, by omega, nG4, hzm, by simp, o4⟩, trivial, hkk, by show h.length ≤ h4.length; omega⟩
  · have : i = xs.length := by omega
    subst this
    simp [g588_0, hM, g22, g7]
    exact hR _ _ ⟨o, rfl, so, hk, hln⟩
end GL

namespace GL
open Go

theorem links_good {c : Hs} (hb : houseB c = true) : linksB (linksR c.heard c.groups) = true ∧ (linksR c.heard c.groups).length = c.heard.deeds.length := by
  obtain ⟨hg, hgl, h8⟩ := houseB_facts hb
  have hq : allQ c.heard c.groups = true := hb
  have hl : (linksR c.heard c.groups).length = c.heard.deeds.length := by simp [linksR, hq, allP, hgl]
  refine ⟨?_, hl⟩
  simp only [linksB, Bool.and_eq_true, decide_eq_true_eq]
  refine ⟨by omega, List.all_eq_true.2 fun xs hx => ?_⟩
  rw [hl]
  simp only [linksR, hq, if_true] at hx
  obtain ⟨i, hi, rfl⟩ := List.mem_map.1 hx
  have hi' : i < c.groups.length := List.mem_range.1 hi
  simp only [allQ, Bool.and_eq_true, decide_eq_true_eq] at hq
  have hgq := List.all_eq_true.1 hq.2 _ (List.getElem_mem hi')
  have hgd : c.groups.getD i [] = c.groups[i] := by rw [List.getD_eq_getElem?_getD, List.getElem?_eq_getElem hi']; rfl
  rw [hgd]
  simp only [risB, decide_eq_true_eq]
  refine ⟨fun x hx => ?_, ofL_rising _ _ _⟩
  obtain ⟨p, hp, hxp⟩ := (mem_ofL hg (groupQ_in hgq)).1 hx
  have := depsL_in hg (groupQ_in hgq p hp) hxp
  omega
noncomputable def soO (c : Hs) (r : Int) (k : Nat) : Oc := outF c.heard (outK (linksR c.heard c.groups) ((rowAt c.heard r).take k) ((rowAt c.heard r).take k).length)
def placeQ (c : Hs) (r : Int) : Bool := houseB c && decide (0 ≤ r ∧ r ≤ c.heard.no - 1)
theorem l17Place_ok {h : Heap} {v : V} {c : Hs} {F : List Nat} (hc : HsV h v c F) (r : Int) : ∃ w h', call p 770 [v, vi r] h = some (w, h') ∧ w = .bool (placeQ c r) ∧ Keeps h h' ∧ h.length ≤ h'.length := by
  obtain ⟨_, h1, e1, rfl, k1, l1⟩ := GoodHouseS_ok hc
  obtain ⟨x, y, z, F1, F2, F3, rfl, rfl, hx, hy, hz⟩ := hc
  refine go (fn := g770) rfl rfl fun R hR => ?_
  cases hb : houseB c with
  | false =>
    rw [hb] at e1
    simp [g770, fillL, upd, hx.cells, hx.cell, hy.cells, hy.cell, hz.cells, hz.cell, e1]
    exact hR _ _ ⟨by simp [placeQ, hb], k1, l1⟩
  | true =>
    rw [hb] at e1
    obtain ⟨hg, _⟩ := houseB_facts hb
    obtain ⟨hno, _⟩ := goodH_facts hg
    have w1 : IntKind.i64.wrap (c.heard.no - 1) = c.heard.no - 1 := by rw [IntWalk.i64_in] <;> omega
    simp [g770, fillL, upd, hx.cells, hx.cell, hy.cells, hy.cell, hz.cells, hz.cell, e1, w1, -Bool.decide_and]
    exact hR _ _ ⟨by simp [placeQ, hb], k1, l1⟩
/-- a row, as far as it goes -/
theorem row_pre {c : Hs} {r : Int} (hp : placeQ c r = true) (k : Nat) : goodH c.heard = true ∧ houseB c = true ∧ (0 ≤ r ∧ r < (c.heard.rows.length : Int)) ∧ ((rowAt c.heard r).length = c.heard.deeds.length) ∧ onceB c.heard.deeds.length ((rowAt c.heard r).take k) = true ∧ (∀ x ∈ (rowAt c.heard r).take k, InR (linksR c.heard c.groups) x) := by
  simp only [placeQ, Bool.and_eq_true, decide_eq_true_eq] at hp
  obtain ⟨hb, hr⟩ := hp
  obtain ⟨hg, hgl, h8⟩ := houseB_facts hb
  obtain ⟨r0, r1, hmem⟩ := rows_get hg hr
  obtain ⟨_, _, _, hrows⟩ := goodH_facts hg
  obtain ⟨hlen, hin, hnd, _⟩ := hrows _ hmem
  obtain ⟨_, hll⟩ := links_good hb
  refine ⟨hg, hb, ⟨r0, r1⟩, hlen, ?_, fun x hx => ?_⟩
  · simp only [onceB, decide_eq_true_eq]
    exact ⟨fun x hx => by have := hin x (List.mem_of_mem_take hx); omega, List.Sublist.nodup (List.take_sublist ..) hnd⟩
  · have := hin x (List.mem_of_mem_take hx)
    exact ⟨this.1, by rw [hll]; exact this.2⟩
theorem l17So_ok {h : Heap} {v : V} {c : Hs} {F : List Nat} (hc : HsV h v c F) {r : Int} (hp : placeQ c r = true) (k : Nat) (hk : k ≤ c.heard.deeds.length) :
    ∃ w h', call p 771 [v, vi r, vi k] h = some (w, h') ∧ ∃ G, OcV h' w (soO c r k) G ∧ (∀ i ∈ G, h.length ≤ i) ∧ Keeps h h' ∧ h.length ≤ h'.length := by
  obtain ⟨hg, hb, hr, hlen, hon, hin⟩ := row_pre hp k
  obtain ⟨hlk, hll⟩ := links_good hb
  obtain ⟨_, h8, _⟩ := goodH_facts hg
  have hcc := hc
  obtain ⟨x, y, z, F1, F2, F3, rfl, rfl, hx, hy, hz⟩ := hc
  obtain ⟨_, h1, e1, o1, G1, rfl, s1, k1, l1⟩ := AllDepsS_ok (c := c.heard) ⟨x, y, F1, F2, rfl, rfl, hx, hy⟩ hz
  have hq : allQ c.heard c.groups = true := hb
  rw [hq] at e1
  have e1' : ∃ h1', call p 774 [.agg [vi c.heard.no, x, y, z]] h = some (o1, h1') ∧ h1' = h1 := by
    obtain ⟨w, h', e, hw, hh⟩ : ∃ w h', call p 774 [.agg [vi c.heard.no, x, y, z]] h = some (w, h') ∧ w = o1 ∧ h' = h1 := by
      refine go (fn := g774) rfl rfl fun R hR => ?_
      simp [g774, fillL, upd, hx.cells, hx.cell, hy.cells, hy.cell, hz.cells, hz.cell, e1]
      exact hR _ _ ⟨rfl, rfl⟩
    exact ⟨h', by rw [e, hw], hh⟩
  obtain ⟨_, e2, rfl⟩ := e1'
  obtain ⟨u, Gu, i1, ld1, su, _⟩ := readL hy hr
  have su1 : SdF h u (rowAt c.heard r) Gu := su
  have ld1' := rdH_keep k1 ld1
  obtain ⟨pu, Gp, ep, sp, _⟩ := (su1.keep k1).pre (i := k) (by omega)
  have hon' : onceB (linksR c.heard c.groups).length ((rowAt c.heard r).take k) = true := by rw [hll]; exact hon
  obtain ⟨_, h2, e3, o2, rfl, s2, k2, l2⟩ := DoneByS_ok s1 sp hlk hon'
  have hol := outK_short hlk ((rowAt c.heard r).take k) ((rowAt c.heard r).take k).length
  have hoi := outK_in hlk ((rowAt c.heard r).take k) ((rowAt c.heard r).take k).length
  obtain ⟨r3, h3, e4, G3, c3, f3, k3, l3⟩ := l17By_ok (hcc.keep (k1.trans k2)) hg s2.sl (fun p hp => by have := hoi p hp; exact ⟨this.1, by have := this.2; rw [hll] at this; exact this⟩) (by omega)
  have c3' := c3
  obtain ⟨a, b, d, _, _, _, rfl, _, ga, gb, gd⟩ := c3'
  refine go (fn := g771) rfl rfl fun R hR => ?_
  simp [g771, fillL, upd, hx.cells, hx.cell, hy.cells, hy.cell, hz.cells, hz.cell, i1, ld1, ld1', e2, stable, bounds, takeB, ep, e3, e4, resV, mkV, ga.cells, ga.cell, gb.cells, gb.cell, gd.cells, gd.cell]
  exact hR _ _ ⟨G3, c3, fun i hi => by have := f3 i hi; omega, (k1.trans k2).trans k3, by omega⟩
def sfB (c : Hs) (r k : Int) : Bool := placeQ c r && decide (0 ≤ k ∧ k ≤ (c.heard.deeds.length : Int))
noncomputable def sfR (c : Hs) (r k : Int) : Oc := if sfB c r k = true then soO c r k.toNat else zO
theorem OutcomeSoFar_ok {h : Heap} {v : V} {c : Hs} {F : List Nat} (hc : HsV h v c F) (r k : Int) :
    ∃ w h', call p 721 [v, vi r, vi k] h = some (w, h') ∧ ∃ o G, w = .tup [o, .bool (sfB c r k)] ∧ OcV h' o (sfR c r k) G ∧ Fresh h.length h' G ∧ Keeps h h' ∧ h.length ≤ h'.length := by
  obtain ⟨_, h1, e1, o1, G1, rfl, s1, f1, k1, l1⟩ := LinksOf_ok hc
  have hcc := hc
  obtain ⟨x, y, z, F1, F2, F3, rfl, rfl, hx, hy, hz⟩ := hc
  refine go (fn := g721) rfl rfl fun R hR => ?_
  have fin : sfB c r k = false → R (.tup [.agg [.nils, .nils, .nils], .bool false]) h1 := fun hb => hR _ _ ⟨_, [], by rw [hb], by simp only [sfR, hb]; exact zO_v h1, Fresh.nil, k1, l1⟩
  cases hb : houseB c with
  | false =>
    rw [hb] at e1
    simp [g721, fillL, upd, hx.cells, hx.cell, hy.cells, hy.cell, hz.cells, hz.cell, e1, resV, mkV]
    exact fin (by simp [sfB, placeQ, hb])
  | true =>
    rw [hb] at e1
    obtain ⟨hg, _⟩ := houseB_facts hb
    obtain ⟨hno, h8, _⟩ := goodH_facts hg
    have w1 : IntKind.i64.wrap (c.heard.no - 1) = c.heard.no - 1 := by rw [IntWalk.i64_in] <;> omega
    by_cases hr : 0 ≤ r ∧ r ≤ c.heard.no - 1
    · by_cases hkk : 0 ≤ k ∧ k ≤ (c.heard.deeds.length : Int)
      · have hp : placeQ c r = true := by simp only [placeQ, hb, decide_eq_true hr, Bool.and_self]
        have hs : sfB c r k = true := by simp only [sfB, hp, decide_eq_true hkk, Bool.and_self]
        obtain ⟨n, rfl⟩ : ∃ n : Nat, k = n := ⟨k.toNat, by omega⟩
        obtain ⟨_, _, hrr, hlen, hon, hin⟩ := row_pre hp n
        obtain ⟨hlk, hll⟩ := links_good hb
        obtain ⟨u, Gu, i1, ld1, su, _⟩ := readL (hy.keep k1) hrr
        have su1 : SdF h1 u (rowAt c.heard r) Gu := su
        obtain ⟨pu, Gp, ep, sp, _⟩ := su1.pre (i := n) (by omega)
        obtain ⟨r2, h2, e2, s2, k2, l2⟩ := doneBy_ok s1 sp.sl hlk hin (by rw [List.length_take]; omega)
        have hol := outK_short hlk ((rowAt c.heard r).take n) ((rowAt c.heard r).take n).length
        have hoi := outK_in hlk ((rowAt c.heard r).take n) ((rowAt c.heard r).take n).length
        obtain ⟨r3, h3, e4, G3, c3, f3, k3, l3⟩ := outcome_ok (hcc.keep (k1.trans k2)) hg s2.sl (fun p hp => by have := hoi p hp; exact ⟨this.1, by have := this.2; rw [hll] at this; exact this⟩) (by omega)
        have c3' := c3
        obtain ⟨a, b, d, _, _, _, rfl, _, ga, gb, gd⟩ := c3'
        simp [g721, fillL, upd, hx.cells, hx.cell, hy.cells, hy.cell, hz.cells, hz.cell, hx.len, e1, w1, hr, hkk.2, i1, ld1, bounds, takeB, ep, e2, e4, resV, mkV, ga.cells, ga.cell, gb.cells, gb.cell, gd.cells, gd.cell]
        exact hR _ _ ⟨_, G3, by rw [hs], by simp only [sfR, hs, if_true, Int.toNat_natCast]; exact c3, f3.mono (by omega), (k1.trans k2).trans k3, by omega⟩
      · have hk2 : decide (0 ≤ k ∧ k ≤ (c.heard.deeds.length : Int)) = false := decide_eq_false hkk
        simp [g721, fillL, upd, hx.cells, hx.cell, hy.cells, hy.cell, hz.cells, hz.cell, hx.len, e1, w1, hr, hk2, resV, mkV, -Bool.decide_and]
        exact fin (by simp only [sfB, hk2, Bool.and_false])
    · have hr2 : decide (0 ≤ r ∧ r ≤ c.heard.no - 1) = false := decide_eq_false hr
      simp [g721, fillL, upd, hx.cells, hx.cell, hy.cells, hy.cell, hz.cells, hz.cell, hx.len, e1, w1, hr2, resV, mkV, -Bool.decide_and]
      exact fin (by simp only [sfB, placeQ, hr2, Bool.and_false, Bool.false_and])
end GL

namespace GL
open Go

theorem sf_at (c : Hs) (r : Int) : sfB c r (c.heard.deeds.length : Int) = placeQ c r := by
  simp only [sfB]
  rw [decide_eq_true (show 0 ≤ (c.heard.deeds.length : Int) ∧ (c.heard.deeds.length : Int) ≤ c.heard.deeds.length by omega), Bool.and_true]
noncomputable def atR (c : Hs) (r : Int) : Oc := sfR c r (c.heard.deeds.length : Int)
theorem OutcomeAt_ok {h : Heap} {v : V} {c : Hs} {F : List Nat} (hc : HsV h v c F) (r : Int) :
    ∃ w h', call p 724 [v, vi r] h = some (w, h') ∧ ∃ o G, w = .tup [o, .bool (placeQ c r)] ∧ OcV h' o (atR c r) G ∧ Fresh h.length h' G ∧ Keeps h h' ∧ h.length ≤ h'.length := by
  obtain ⟨_, h1, e1, o, G, rfl, c1, f1, k1, l1⟩ := OutcomeSoFar_ok hc r (c.heard.deeds.length : Int)
  rw [sf_at] at e1
  have c1' := c1
  obtain ⟨x, y, z, F1, F2, F3, rfl, rfl, hx, hy, hz⟩ := hc
  obtain ⟨a, b, d, _, _, _, rfl, _, ga, gb, gd⟩ := c1'
  refine go (fn := g724) rfl rfl fun R hR => ?_
  simp [g724, fillL, upd, hx.cells, hx.cell, hy.cells, hy.cell, hz.cells, hz.cell, hx.len, e1, resV, mkV, ga.cells, ga.cell, gb.cells, gb.cell, gd.cells, gd.cell]
  exact hR _ _ ⟨_, G, rfl, c1, f1, k1, l1⟩
end GL

namespace GL
open Go

end GL

namespace GL
open Go

def sameQ (a b : Oc) : Bool := decide (a.keys = b.keys) && decide (a.seen = b.seen)
theorem areSame_eq {h : Heap} {v w : V} {a b : Oc} {F G : List Nat} (hc : OcV h v a F) (hd : OcV h w b G) : call p 773 [v, w] h = some (.bool (sameQ a b), h) := by
  obtain ⟨x, y, z, F1, F2, F3, rfl, rfl, hx, hy, hz⟩ := hc
  obtain ⟨a', b', d', G1, G2, G3, rfl, rfl, ga, gb, gd⟩ := hd
  have e1 := Equal_eq hy.sl gb.sl
  have e2 := Equal_eq hz.sl gd.sl
  refine go_eq (fn := g773) rfl rfl fun R hR => ?_
  by_cases hk : a.keys = b.keys
  · rw [decide_eq_true hk] at e1
    simp [g773, fillL, upd, hx.cells, hx.cell, hy.cells, hy.cell, hz.cells, hz.cell, ga.cells, ga.cell, gb.cells, gb.cell, gd.cells, gd.cell, e1, e2]; simpa [sameQ, hk] using hR
  · rw [decide_eq_false hk] at e1
    simp [g773, fillL, upd, hx.cells, hx.cell, hy.cells, hy.cell, hz.cells, hz.cell, ga.cells, ga.cell, gb.cells, gb.cell, gd.cells, gd.cell, e1]; simpa [sameQ, hk] using hR
theorem l17Same_eq {h : Heap} {v w : V} {a b : Oc} {F G : List Nat} (hc : OcV h v a F) (hd : OcV h w b G) : call p 772 [v, w] h = some (.bool (sameQ a b), h) := by
  obtain ⟨x, y, z, F1, F2, F3, rfl, rfl, hx, hy, hz⟩ := hc
  obtain ⟨a', b', d', G1, G2, G3, rfl, rfl, ga, gb, gd⟩ := hd
  have e1 := l1Same_eq hy.sl gb.sl
  have e2 := l1Same_eq hz.sl gd.sl
  refine go_eq (fn := g772) rfl rfl fun R hR => ?_
  by_cases hk : a.keys = b.keys
  · rw [decide_eq_true hk] at e1
    simp [g772, fillL, upd, hx.cells, hx.cell, hy.cells, hy.cell, hz.cells, hz.cell, ga.cells, ga.cell, gb.cells, gb.cell, gd.cells, gd.cell, e1, e2]; simpa [sameQ, hk] using hR
  · rw [decide_eq_false hk] at e1
    simp [g772, fillL, upd, hx.cells, hx.cell, hy.cells, hy.cell, hz.cells, hz.cell, ga.cells, ga.cell, gb.cells, gb.cell, gd.cells, gd.cell, e1]; simpa [sameQ, hk] using hR
def twoQ (c : Hs) (r q : Int) : Bool := placeQ c r && placeQ c q
noncomputable def twoA (c : Hs) (r q : Int) : Bool := twoQ c r q && sameQ (atR c r) (atR c q)
theorem SameOutcome_ok {h : Heap} {v : V} {c : Hs} {F : List Nat} (hc : HsV h v c F) (r q : Int) :
    ∃ w h', call p 715 [v, vi r, vi q] h = some (w, h') ∧ w = .tup [.bool (twoA c r q), .bool (twoQ c r q)] ∧ Keeps h h' ∧ h.length ≤ h'.length := by
  obtain ⟨_, h1, e1, o1, G1, rfl, c1, f1, k1, l1⟩ := OutcomeAt_ok hc r
  obtain ⟨_, h2, e2, o2, G2, rfl, c2, f2, k2, l2⟩ := OutcomeAt_ok (hc.keep k1) q
  have e3 := areSame_eq (c1.keep k2) c2
  obtain ⟨x, y, z, F1, F2, F3, rfl, rfl, hx, hy, hz⟩ := hc
  have ht : twoA c r q = (placeQ c r && placeQ c q && sameQ (atR c r) (atR c q)) := rfl
  have hq : twoQ c r q = (placeQ c r && placeQ c q) := rfl
  rw [ht, hq]
  generalize sameQ (atR c r) (atR c q) = sm at *
  obtain ⟨a, b, d, _, _, _, rfl, _, ga, gb, gd⟩ := c1
  obtain ⟨a2, b2, d2, _, _, _, rfl, _, ga2, gb2, gd2⟩ := c2
  refine go (fn := g715) rfl rfl fun R hR => ?_
  generalize placeQ c r = p1 at *
  generalize placeQ c q = p2 at *
  cases p1 <;> cases p2 <;> simp [g715, fillL, upd, hx.cells, hx.cell, hy.cells, hy.cell, hz.cells, hz.cell, e1, e2, e3, ga.cells, ga.cell, gb.cells, gb.cell, gd.cells, gd.cell, ga2.cells, ga2.cell, gb2.cells, gb2.cell, gd2.cells, gd2.cell] <;> exact hR _ _ ⟨by simp, k1.trans k2, by omega⟩
theorem SameOutcomeS_ok {h : Heap} {v : V} {c : Hs} {F : List Nat} (hc : HsV h v c F) (r q : Int) :
    ∃ w h', call p 714 [v, vi r, vi q] h = some (w, h') ∧ w = .tup [.bool (twoA c r q), .bool (twoQ c r q)] ∧ Keeps h h' ∧ h.length ≤ h'.length := by
  obtain ⟨_, h1, e1, rfl, k1, l1⟩ := l17Place_ok hc r
  obtain ⟨_, h2, e2, rfl, k2, l2⟩ := l17Place_ok (hc.keep k1) q
  have hcc := hc
  obtain ⟨x, y, z, F1, F2, F3, rfl, rfl, hx, hy, hz⟩ := hc
  refine go (fn := g714) rfl rfl fun R hR => ?_
  cases hp1 : placeQ c r with
  | false =>
    rw [hp1] at e1
    simp [g714, fillL, upd, hx.cells, hx.cell, hy.cells, hy.cell, hz.cells, hz.cell, e1]
    exact hR _ _ ⟨by simp [twoA, twoQ, hp1], k1, l1⟩
  | true =>
    rw [hp1] at e1
    cases hp2 : placeQ c q with
    | false =>
      rw [hp2] at e2
      simp [g714, fillL, upd, hx.cells, hx.cell, hy.cells, hy.cell, hz.cells, hz.cell, e1, e2]
      exact hR _ _ ⟨by simp [twoA, twoQ, hp2], k1.trans k2, by omega⟩
    | true =>
      rw [hp2] at e2
      have k12 := k1.trans k2
      obtain ⟨r3, h3, e3, G3, c3, f3, k3, l3⟩ := l17So_ok (hcc.keep k12) hp1 c.heard.deeds.length (Nat.le_refl _)
      obtain ⟨r4, h4, e4, G4, c4, f4, k4, l4⟩ := l17So_ok (hcc.keep (k12.trans k3)) hp2 c.heard.deeds.length (Nat.le_refl _)
      have e5 := l17Same_eq (c3.keep k4) c4
      have h1' : soO c r c.heard.deeds.length = atR c r := by simp only [atR, sfR, sf_at, hp1, if_true, Int.toNat_natCast]
      have h2' : soO c q c.heard.deeds.length = atR c q := by simp only [atR, sfR, sf_at, hp2, if_true, Int.toNat_natCast]
      rw [h1', h2'] at e5
      have ht : twoA c r q = sameQ (atR c r) (atR c q) := by simp [twoA, twoQ, hp1, hp2]
      rw [← ht] at e5
      simp [g714, fillL, upd, hx.cells, hx.cell, hy.cells, hy.cell, hz.cells, hz.cell, hx.len, e1, e2, e3, e4, e5]
      exact hR _ _ ⟨by simp [twoQ, hp1, hp2], (k12.trans k3).trans k4, by omega⟩
end GL

namespace GL
open Go

theorem l17Links_ok {h : Heap} {v : V} {c : Hs} {F : List Nat} (hc : HsV h v c F) : ∃ w h', call p 774 [v] h = some (w, h') ∧ ∃ G, SdF h' w (linksR c.heard c.groups) G ∧ Keeps h h' ∧ h.length ≤ h'.length := by
  obtain ⟨x, y, z, F1, F2, F3, rfl, rfl, hx, hy, hz⟩ := hc
  obtain ⟨_, h1, e1, o1, G1, rfl, s1, k1, l1⟩ := AllDepsS_ok (c := c.heard) ⟨x, y, F1, F2, rfl, rfl, hx, hy⟩ hz
  refine go (fn := g774) rfl rfl fun R hR => ?_
  simp [g774, fillL, upd, hx.cells, hx.cell, hy.cells, hy.cell, hz.cells, hz.cell, e1]
  exact hR _ _ ⟨G1, s1, k1, l1⟩
noncomputable def serO (c : Hs) : Oc := outF c.heard (groupsL (linksR c.heard c.groups)).flatten
noncomputable def serA (c : Hs) (n : Nat) : Bool := (List.range n).all fun (r : Nat) => sameQ (atR c (r : Int)) (serO c)
theorem serA_succ (c : Hs) (n : Nat) : serA c (n + 1) = (serA c n && sameQ (atR c (n : Int)) (serO c)) := by
  simp [serA, List.range_succ]
theorem serA_false {c : Hs} {n m : Nat} (hm : m < n) (h : sameQ (atR c (m : Int)) (serO c) = false) : serA c n = false := List.all_eq_false.2 ⟨m, List.mem_range.2 hm, by simp [h]⟩
noncomputable def serR (c : Hs) : Bool := houseB c && serA c c.heard.no.toNat
theorem ser_in {c : Hs} (hb : houseB c = true) : (∀ p ∈ (groupsL (linksR c.heard c.groups)).flatten, 0 ≤ p ∧ p < (c.heard.deeds.length : Int)) ∧ (groupsL (linksR c.heard c.groups)).flatten.length ≤ 8 := by
  obtain ⟨hlk, hll⟩ := links_good hb
  obtain ⟨hg, _⟩ := houseB_facts hb
  obtain ⟨_, h8, _⟩ := goodH_facts hg
  have hf := groupsL_flat hlk
  exact ⟨fun p hp => by have := ((groupsL_facts hlk).2.1 p).2 hp; exact ⟨this.1, by have := this.2; rw [hll] at this; exact this⟩, by omega⟩
theorem IsSerialS_ok {h : Heap} {v : V} {c : Hs} {F : List Nat} (hc : HsV h v c F) :
    ∃ w h', call p 717 [v] h = some (w, h') ∧ w = .tup [.bool (serR c), .bool (houseB c)] ∧ Keeps h h' ∧ h.length ≤ h'.length := by
  obtain ⟨_, h1, e1, rfl, k1, l1⟩ := GoodHouseS_ok hc
  have hcc := hc
  obtain ⟨x, y, z, F1, F2, F3, rfl, rfl, hx, hy, hz⟩ := hc
  refine go (fn := g717) rfl rfl fun R hR => ?_
  cases hb : houseB c with
  | false =>
    rw [hb] at e1
    simp [g717, fillL, upd, hx.cells, hx.cell, hy.cells, hy.cell, hz.cells, hz.cell, e1]
    exact hR _ _ ⟨by simp [serR, hb], k1, l1⟩
  | true =>
    rw [hb] at e1
    obtain ⟨hlk, hll⟩ := links_good hb
    obtain ⟨hg, _⟩ := houseB_facts hb
    obtain ⟨hno, h8, _⟩ := goodH_facts hg
    obtain ⟨hin, hl8⟩ := ser_in hb
    obtain ⟨o2, h2, e2, G2, s2, k2, l2⟩ := l17Links_ok (hcc.keep k1)
    obtain ⟨o3, h3, e3, s3, k3, l3⟩ := l14Order_ok s2 hlk
    have k13 := (k1.trans k2).trans k3
    obtain ⟨r4, h4, e4, G4, c4, f4, k4, l4⟩ := l17By_ok (hcc.keep k13) hg s3 hin hl8
    have k14 := k13.trans k4
    have c4' := c4
    obtain ⟨a, b, d, _, _, _, rfl, _, ga, gb, gd⟩ := c4'
    obtain ⟨n, hn⟩ : ∃ n : Nat, c.heard.no = n := ⟨c.heard.no.toNat, by omega⟩
    have hnn : c.heard.no.toNat = n := by omega
    have hser : serR c = serA c n := by simp [serR, hb, hnn]
    simp [g717, fillL, upd, hx.cells, hx.cell, hy.cells, hy.cell, hz.cells, hz.cell, e1, e2, e3, e4, ga.cells, ga.cell, gb.cells, gb.cell, gd.cells, gd.cell]
    refine Wc_upM (M := [2, 3, 5, 14, 15, 16, 17, 18, 19, 20, 21, 22, 23, 24, 25, 26, 27, 28, 29, 30]) rfl n (fun i s => i ≤ n ∧ s.σ 5 = .v (vi i) ∧ s.L 1 = (1, [vi c.heard.no, x, y, z]) ∧ s.L 4 = (1, [a, b, d]) ∧ serA c i = true ∧ Keeps h4 s.h ∧ h4.length ≤ s.h.length) 0
      ⟨by omega, by simp, by simp [upd], by simp [upd], by simp [serA], Keeps.refl _, Nat.le_refl _⟩ fun i s ⟨gi, g5, gL1, gL4, hall, hk, hl⟩ hM J hJ => ?_
    by_cases hi : i < n
    · have hi2 : (i : Int) < c.heard.no := by omega
      have hp : placeQ c (i : Int) = true := by simp only [placeQ, hb, Bool.true_and, decide_eq_true_eq]; omega
      have kk := k14.trans hk
      obtain ⟨r5, h5, e5, G5, c5, f5, k5, l5⟩ := l17So_ok (hcc.keep kk) hp c.heard.deeds.length (Nat.le_refl _)
      have hat : soO c (i : Int) c.heard.deeds.length = atR c (i : Int) := by simp only [atR, sfR, sf_at, hp, if_true, Int.toNat_natCast]
      rw [hat] at c5
      have e6 := l17Same_eq c5 ((c4.keep hk).keep k5)
      have hxl := (hx.keep kk).len
      have st : IntKind.i64.wrap ((i : Int) + 1) = i + 1 := by rw [IntWalk.i64_in] <;> omega
      cases hs : sameQ (atR c (i : Int)) (outF c.heard (groupsL (linksR c.heard c.groups)).flatten) with
      | false =>
        rw [hs] at e6
        have := serA_false hi hs
        simp [g717_0, hM, g5, gL1, gL4, upd, hi2, hxl, e5, e6]
        exact hR _ _ ⟨by rw [hser, this, hb], kk.trans k5, by omega⟩
      | true =>
        rw [hs] at e6
        simp [g717_0, hM, g5, gL1, gL4, upd, hi2, hxl, e5, e6, st]
        exact hJ _ hi ⟨hi, by simp, by simp [gL1], by simp [gL4], by rw [serA_succ, hall]; exact hs, hk.trans k5, by show h4.length ≤ h5.length; omega⟩
    · have : i = n := by omega
      subst this
      have hi2 : ¬ (i : Int) < c.heard.no := by omega
      simp [g717_0, hM, g5, gL1, upd, hi2]
      exact hR _ _ ⟨by rw [hser, hall, hb], k14.trans hk, by omega⟩
theorem IsSerial_ok {h : Heap} {v : V} {c : Hs} {F : List Nat} (hc : HsV h v c F) :
    ∃ w h', call p 718 [v] h = some (w, h') ∧ w = .tup [.bool (serR c), .bool (houseB c)] ∧ Keeps h h' ∧ h.length ≤ h'.length := by
  obtain ⟨_, h1, e1, o1, G1, rfl, s1, f1, k1, l1⟩ := LinksOf_ok hc
  have hcc := hc
  obtain ⟨x, y, z, F1, F2, F3, rfl, rfl, hx, hy, hz⟩ := hc
  refine go (fn := g718) rfl rfl fun R hR => ?_
  cases hb : houseB c with
  | false =>
    rw [hb] at e1
    simp [g718, fillL, upd, hx.cells, hx.cell, hy.cells, hy.cell, hz.cells, hz.cell, e1]
    exact hR _ _ ⟨by simp [serR, hb], k1, l1⟩
  | true =>
    rw [hb] at e1
    obtain ⟨hlk, hll⟩ := links_good hb
    obtain ⟨hg, _⟩ := houseB_facts hb
    obtain ⟨hno, h8, _⟩ := goodH_facts hg
    obtain ⟨hin, hl8⟩ := ser_in hb
    obtain ⟨o2, h2, e2, G2, s2, k2, l2⟩ := groups_ok s1 hlk
    obtain ⟨o3, h3, e3, G3, s3, f3, k3, l3⟩ := concat_ok s2 (by omega)
    have k13 := (k1.trans k2).trans k3
    obtain ⟨r4, h4, e4, G4, c4, f4, k4, l4⟩ := outcome_ok (hcc.keep k13) hg s3.sl hin hl8
    have k14 := k13.trans k4
    have c4' := c4
    obtain ⟨a, b, d, _, _, _, rfl, _, ga, gb, gd⟩ := c4'
    obtain ⟨n, hn⟩ : ∃ n : Nat, c.heard.no = n := ⟨c.heard.no.toNat, by omega⟩
    have hnn : c.heard.no.toNat = n := by omega
    have hser : serR c = serA c n := by simp [serR, hb, hnn]
    simp [g718, fillL, upd, hx.cells, hx.cell, hy.cells, hy.cell, hz.cells, hz.cell, e1, e2, e3, e4, ga.cells, ga.cell, gb.cells, gb.cell, gd.cells, gd.cell]
    refine Wc_upM (M := [2, 3, 7, 8, 9, 25, 26, 27, 28, 29, 30, 31, 32, 33, 34, 35, 36, 37, 38]) rfl n (fun i s => i ≤ n ∧ s.σ 25 = .v (vi i) ∧ s.L 1 = (1, [vi c.heard.no, x, y, z]) ∧ s.L 6 = (1, [a, b, d]) ∧ serA c i = true ∧ Keeps h4 s.h ∧ h4.length ≤ s.h.length) 0
      ⟨by omega, by simp, by simp [upd], by simp [upd], by simp [serA], Keeps.refl _, Nat.le_refl _⟩ fun i s ⟨gi, g25, gL1, gL4, hall, hk, hl⟩ hM J hJ => ?_
    by_cases hi : i < n
    · have hi2 : (i : Int) < c.heard.no := by omega
      have kk := k14.trans hk
      obtain ⟨_, h5, e5, o5, G5, rfl, c5, f5, k5, l5⟩ := OutcomeAt_ok (hcc.keep kk) (i : Int)
      have e6 := areSame_eq c5 ((c4.keep hk).keep k5)
      obtain ⟨a5, b5, d5, _, _, _, rfl, _, ga5, gb5, gd5⟩ := c5
      have st : IntKind.i64.wrap ((i : Int) + 1) = i + 1 := by rw [IntWalk.i64_in] <;> omega
      cases hs : sameQ (atR c (i : Int)) (outF c.heard (groupsL (linksR c.heard c.groups)).flatten) with
      | false =>
        rw [hs] at e6
        have := serA_false hi hs
        simp [g718_0, hM, g25, gL1, gL4, upd, hi2, e5, e6, ga5.cells, ga5.cell, gb5.cells, gb5.cell, gd5.cells, gd5.cell]
        exact hR _ _ ⟨by rw [hser, this, hb], kk.trans k5, by omega⟩
      | true =>
        rw [hs] at e6
        simp [g718_0, hM, g25, gL1, gL4, upd, hi2, e5, e6, ga5.cells, ga5.cell, gb5.cells, gb5.cell, gd5.cells, gd5.cell, st]
        exact hJ _ hi ⟨hi, by simp, by simp [upd, gL1], by simp [upd, gL4], by rw [serA_succ, hall]; exact hs, hk.trans k5, by show h4.length ≤ h5.length; omega⟩
    · have : i = n := by omega
      subst this
      have hi2 : ¬ (i : Int) < c.heard.no := by omega
      simp [g718_0, hM, g25, upd, hi2]
      exact hR _ _ ⟨by rw [hser, hall, hb], k14.trans hk, by omega⟩
end GL

namespace GL
open Go

theorem Od.draw {α : Type} [Data α] {h0 h h1 g : Heap} {N lo : Nat} {v : V} {xs : List α} {G G' : List Nat} (d : DC h0 h1 N) (kb : KeepsBut h0.length g h1) (od : Od lo h v xs G) (k1 : KeepsBut h0.length h h1) (l1 : h.length ≤ h1.length) (hlo : g.length ≤ lo) (hc : h0.length < lo) (gG : ∀ b ∈ G, lo ≤ b)
    (hG : ∀ b ∈ G', h.length ≤ b) {x : α} {cs : List V} (hr : Data.rep h1 x cs G') (hx : xs.length ≤ 2 ^ 20) {k bytes : Nat} (hk : k = Data.sz α) (hb : bytes ≤ 2 ^ 8) :
    ∃ v' h2, appH k bytes v 1 cs (h1 ++ [⟨.own, cs⟩]) = some (v', h2) ∧ Od lo h2 v' (xs ++ [x]) (G ++ G') ∧ DC h0 h2 N ∧ KeepsBut h0.length g h2 ∧ h1.length < h2.length := by
  have hge := fun i (hi : vB v i) => od.ge hi
  have kl : Keeps h1 (h1 ++ [⟨.own, cs⟩]) := Keeps.append h1 _
  have kp1 : KeepsP (fun b => b ≠ h0.length) h (h1 ++ [⟨.own, cs⟩]) := k1.P.trans (kl.p _)
  have nG : ∀ b ∈ G, b ≠ h0.length := fun b hb => by have := gG b hb; omega
  have od1 : Od lo (h1 ++ [⟨.own, cs⟩]) v xs G := od.keeps kp1 (fun i hi => by have := (hge i hi).1; omega) nG (by simp; omega)
  have hnv : ∀ b ∈ G', ¬ vB v b := fun b hb hv => by have := (hge b hv).2; have := hG b hb; omega
  obtain ⟨v', h2, e, o2, kp, l2, b2⟩ := od1.app (zs := [x]) (G := G') (by simp) (.one (Data.keeps hr (kl.p _))) hnv hb (by simp; omega) hk rfl
  have k2 : KeepsP (fun i => ¬ vB v i) h1 h2 := fun i blk hi h3 h4 => kp i blk hi (kl i blk h3 h4) h4
  exact ⟨v', h2, e, o2, d.far k2 fun i hi hv => by have := (hge i hv).1; omega, kb.far k2 fun i hi _ hv => by have := (hge i hv).1; omega, by simp at l2; omega⟩
theorem Od.geF {α : Type} [Data α] {lo : Nat} {h : Heap} {v : V} {xs : List α} {F : List Nat} (od : Od lo h v xs F) (gF : ∀ b ∈ F, lo ≤ b) : ∃ F', SdF h v xs F' ∧ ∀ b ∈ F', lo ≤ b := by
  obtain ⟨F', hs, rfl | ⟨rfl, hv, _⟩⟩ := od.sd
  · exact ⟨_, hs, gF⟩
  · refine ⟨_, hs, fun b hb => ?_⟩
    rcases List.mem_cons.1 hb with rfl | hb
    · exact (od.ge hv).1
    · exact gF b hb
/-- all but the first of a list of lists -/
theorem SdF.tailL {h : Heap} {v : V} {xs : List (List Int)} {F : List Nat} (hs : SdF h v xs F) (hl : 0 < xs.length) : ∃ u F', slcV 1 v (some 1) none none = some u ∧ SdF h u (xs.drop 1) F' ∧ ∀ b ∈ F', b ∈ F := by
  have hbd := hs.bd
  rcases hs with ⟨hb, ⟨rfl, rfl, rfl⟩ | ⟨b, off, cap, rfl, hc, hs⟩⟩
  · simp at hl
  · rcases hs with ⟨rfl, rfl⟩ | ⟨blk, cs, G, rfl, h1, h2, h3, h4⟩
    · simp at hl
    · have hdl : (xs.drop 1).length = xs.length - 1 := by simp
      have s2 : ∃ off2 cap2, slcV 1 (.slice b off xs.length cap) (some 1) none none = some (.slice b off2 (xs.length - 1) cap2) ∧ capW 1 (xs.length - 1) cap2 ∧ (off2 = off + 1 ∨ xs.length - 1 = 0) := by
        cases cap with
        | k c =>
          have hc' : xs.length ≤ c := hc
          refine ⟨_, .k (c - 1), by simp only [slcV, Option.getD_none, Option.getD_some]; rw [if_pos ⟨by omega, hc', Nat.le_refl _⟩], ?_, ?_⟩
          · show xs.length - 1 ≤ c - 1; omega
          · by_cases hci : c = 1
            · right; omega
            · left; rw [if_neg hci, Nat.mul_one]
        | o k =>
          have hc' : k = 1 := hc
          subst hc'
          refine ⟨_, .o 1, by simp only [slcV, Option.getD_none, Option.getD_some]; rw [if_pos ⟨trivial, by omega, Nat.le_refl _⟩], rfl, .inl (by omega)⟩
      obtain ⟨off2, cap2, e, c2, ho⟩ := s2
      by_cases h0 : xs.length - 1 = 0
      · have hnil : xs.drop 1 = [] := List.eq_nil_of_length_eq_zero (by rw [hdl]; exact h0)
        rw [hnil]
        rw [h0] at e c2
        exact ⟨_, [], e, ⟨by simp, .inr ⟨b, off2, cap2, rfl, c2, .inl ⟨rfl, rfl⟩⟩⟩, by simp⟩
      · have ho : off2 = off + 1 := by
          rcases ho with h | h
          · exact h
          · exact absurd h h0
        subst ho
        cases xs with
        | nil => simp at hl
        | cons x xs =>
          obtain ⟨c, r, G1, G2, e4, hG, hr1, hr2⟩ := h4
          have hc1 : c.length = 1 := Data.len hr1
          have h3' := cut_drop h3 (m := 1) (show 1 ≤ (x :: xs).length * 1 by simp)
          have hsz : Data.sz (List Int) = 1 := rfl
          rw [hsz, Nat.mul_one] at h3'
          have hdr : cs.drop 1 = r := by rw [e4, ← hc1, List.drop_left']; rfl
          rw [hdr] at h3'
          refine ⟨_, b :: G2, e, ⟨by simp at hbd ⊢; omega, .inr ⟨b, off + 1, cap2, by simp, by rw [hsz]; simpa using c2, .inr ⟨blk, r, G2, rfl, h1, h2, by simpa [hsz] using h3', hr2⟩⟩⟩, fun z hz => ?_⟩
          rw [hG]
          rcases List.mem_cons.1 hz with rfl | hz
          · simp
          · simp [hz]
theorem DC.house {h0 h : Heap} {N : Nat} (d : DC h0 h N) (hN : N < 2 ^ 52) : ∃ v h', call p 775 [.ptr h0.length 0] h = some (v, h') ∧ ∃ (c : Hs) (G : List Nat), HsV h' v c G ∧ (c.heard.no = 3 ∨ c.heard.no = 5) ∧ c.heard.deeds.length ≤ 9 ∧ (∀ b ∈ G, h.length ≤ b) ∧ DC h0 h' (N + 1000) ∧ KeepsBut h0.length h h' ∧ h.length ≤ h'.length := by
  have hlt := d.lt
  obtain ⟨w, h1, e1, c, F, hc, hno, hd, hF, d1, k1, l1⟩ := d.heard (by omega)
  obtain ⟨x, y, F1, F2, rfl, rfl, hx, hy⟩ := hc
  obtain ⟨n, hn⟩ : ∃ n : Nat, c.no = n := ⟨c.no.toNat, by omega⟩
  have ne1 : ∀ b ∈ F1, b ≠ h0.length := fun b hb => by have := hF b (by simp [hb]); omega
  have ne2 : ∀ b ∈ F2, b ≠ h0.length := fun b hb => by have := hF b (by simp [hb]); omega
  refine go (fn := g775) rfl rfl fun R hR => ?_
  simp [g775, fillL, upd, e1, hx.cells, hx.cell, hy.cells, hy.cell, hx.len]
  refine Wc_upM (M := [11, 12, 13, 14, 15, 16, 17, 18, 19, 20, 21, 22, 23]) rfl c.deeds.length (fun i s => i ≤ c.deeds.length ∧ s.σ 11 = .v (vi i) ∧ s.L 2 = (1, [.int .i64 0, .nils, .nils, .nils]) ∧ (∃ (r : V) (gs : List (List Int)) (G : List Nat), s.L 3 = (1, [vi c.no, x, y, r]) ∧ Od h1.length s.h r gs G ∧ (∀ b ∈ G, h1.length ≤ b) ∧ gs.length = i) ∧ DC h0 s.h (N + 700 + 10 * i) ∧ KeepsBut h0.length h1 s.h ∧ h1.length ≤ s.h.length) 0
    ⟨by omega, by simp, by simp [upd], ⟨.nils, [], [], by simp [upd], Od.nil (Nat.le_refl _), by simp, rfl⟩, by simpa using d1, KeepsBut.refl _ _, Nat.le_refl _⟩ fun i s ⟨gi, g11, gL2, ⟨r, gs, G, gL, og, gG, hgl⟩, dc, kb, hl⟩ hM J hJ => ?_
  by_cases hi : i < c.deeds.length
  · obtain ⟨q, h2, e2, ps, Gq, sq, hql, hGq, d2, k2, l2⟩ := dc.group (by omega) n (by omega)
    rw [← hn] at e2
    obtain ⟨v9, h3, e3, o3, d3, k3, l3⟩ := Od.draw d2 (kb.trans k2) og k2 l2 (Nat.le_refl _) (by omega) gG hGq (x := ps) (cs := [q]) ⟨q, rfl, sq⟩ (by omega) (k := 1) (bytes := 24) rfl (by decide)
    have gG3 : ∀ b ∈ G ++ Gq, h1.length ≤ b := fun b hb => by
      rcases List.mem_append.1 hb with h | h
      · exact gG b h
      · have := hGq b h; omega
    obtain ⟨F9, s9, _⟩ := o3.geF gG3
    have st := hx.step hi
    simp [g775_0, hM, g11, gL, upd, hi, e2, fillL, rdS_last, sq.cells, sq.cell, e3, s9.cells, s9.cell, st]
    exact hJ _ hi ⟨hi, by simp, by simp [upd, gL2], ⟨v9, _, _, by simp [upd], o3, gG3, by simp [hgl]⟩, d3.mono (by omega), k3, by show h1.length ≤ h3.length; omega⟩
  · have : i = c.deeds.length := by omega
    subst this
    obtain ⟨F9, s9, g9⟩ := og.geF gG
    have hx1 := hx.keeps (kb.P.mono ne1)
    have hy1 := hy.keeps (kb.P.mono ne2)
    have ne9 : ∀ b ∈ F9, b ≠ h0.length := fun b hb => by have := g9 b hb; omega
    have geA : ∀ (X : List Nat), (∀ b ∈ X, b ∈ F9) → ∀ b ∈ F1 ++ F2 ++ X, h.length ≤ b := fun X hX b hb => by
      rcases List.mem_append.1 hb with h | h
      · exact hF b h
      · have := g9 b (hX b h); omega
    by_cases h0' : 0 < gs.length
    · obtain ⟨b, h2, e2, d2, k2, l2⟩ := dc.one (by omega) 30 (by decide)
      have hx2 := hx1.keeps (k2.P.mono ne1)
      have hy2 := hy1.keeps (k2.P.mono ne2)
      have s92 := s9.keeps (k2.P.mono ne9)
      cases b with
      | false =>
        simp [g775_0, hM, g11, gL, gL2, upd, s9.len, h0', e2, hx.cell, hy.cell, s9.cell, resV, mkV]
        exact hR _ _ ⟨⟨c, gs⟩, _, ⟨x, y, r, F1, F2, F9, rfl, rfl, hx2, hy2, s92⟩, hno, hd, geA F9 (fun _ h => h), d2.mono (by omega), (k1.trans kb).trans k2, by omega⟩
      | true =>
        obtain ⟨u, F8, eu, su, hF8⟩ := s92.tailL h0'
        simp [g775_0, hM, g11, gL, gL2, upd, s9.len, h0', e2, bounds, takeB, eu, hx.cell, hy.cell, s9.cell, su.cell, su.cells, resV, mkV]
        exact hR _ _ ⟨⟨c, gs.drop 1⟩, _, ⟨x, y, u, F1, F2, F8, rfl, rfl, hx2, hy2, su⟩, hno, hd, geA F8 hF8, d2.mono (by omega), (k1.trans kb).trans k2, by omega⟩
    · simp [g775_0, hM, g11, gL, gL2, upd, s9.len, h0', hx.cell, hy.cell, s9.cell, resV, mkV]
      exact hR _ _ ⟨⟨c, gs⟩, _, ⟨x, y, r, F1, F2, F9, rfl, rfl, hx1, hy1, s9⟩, hno, hd, geA F9 (fun _ h => h), dc.mono (by omega), k1.trans kb, by omega⟩
end GL

namespace GL
open Go

theorem drawGoodHouse_ok {h : Heap} {v : V} {bs : List Byte} (hs : Sl h v bs) : ∃ r h', call p 776 [v] h = some (r, h') ∧ ∃ (c : Hs) (F : List Nat), HsV h' r c F ∧ Keeps h h' ∧ h.length ≤ h'.length := by
  have d0 := DC.start hs
  obtain ⟨w, h1, e1, c, F, hc, hno, hd, hF, d1, k1, l1⟩ := d0.house (by decide)
  have hcc := hc
  obtain ⟨x, y, z, F1, F2, F3, rfl, rfl, hx, hy, hz⟩ := hc
  simp at l1 e1
  refine go (fn := g776) rfl rfl fun R hR => ?_
  simp [g776, hs.cells, hs.cell, fillL, upd, e1, hx.cells, hx.cell, hy.cells, hy.cell, hz.cells, hz.cell, resV, mkV]
  exact hR _ _ ⟨c, _, hcc, d1.keep, by omega⟩
theorem sameOutcome_same {h : Heap} {v w : V} {c : Oc} {F G : List Nat} (hc : OcV h v c F) (hd : OcV h w c G) : call p 723 [v, w] h = some (.bool true, h) := by
  obtain ⟨x, y, z, F1, F2, F3, rfl, rfl, hx, hy, hz⟩ := hc
  obtain ⟨a, b, d, G1, G2, G3, rfl, rfl, ga, gb, gd⟩ := hd
  have e1 := sameInts_eq hx.sl ga.sl
  have e2 := sameInts_eq hy.sl gb.sl
  have e3 := sameInts_eq hz.sl gd.sl
  rw [decide_eq_true rfl] at e1 e2 e3
  refine go_eq (fn := g723) rfl rfl fun R hR => ?_
  simp [g723, fillL, upd, hx.cells, hx.cell, hy.cells, hy.cell, hz.cells, hz.cell, ga.cells, ga.cell, gb.cells, gb.cell, gd.cells, gd.cell, e1, e2, e3]; exact hR

end GL

namespace GL
open Go

end GL

namespace GL
open Go

end GL

namespace GL
open Go

def missC (c : Hd) (rs : List (List Int)) (i q : Nat) : Bool := clD (dAt c i) (dAt c q) && !decide ((q : Int) ∈ rs.getD i []) && !decide ((i : Int) ∈ rs.getD q [])
end GL

namespace GL
open Go

theorem getD_row {rs : List (List Int)} {i : Nat} (hi : i < rs.length) : rs.getD i [] = rs[i] := by
  rw [List.getD_eq_getElem?_getD, List.getElem?_eq_getElem hi]; rfl

end GL

namespace GL
open Go

end GL

namespace GL
open Go

end GL

namespace GL
open Go

theorem ahead_or {row : List Int} {a b : Int} (ha : a ∈ row) (hb : b ∈ row) (hne : a ≠ b) : a ∈ (row.takeWhile fun x => !decide (x = b)) ∨ b ∈ (row.takeWhile fun x => !decide (x = a)) := by
  induction row with
  | nil => simp at ha
  | cons y row ih =>
    by_cases h1 : y = a
    · left
      subst h1
      simp [hne]
    · by_cases h2 : y = b
      · right
        subst h2
        simp [h1]
      · have ha' : a ∈ row := by rcases List.mem_cons.1 ha with h | h; exact absurd h.symm h1; exact h
        have hb' : b ∈ row := by rcases List.mem_cons.1 hb with h | h; exact absurd h.symm h2; exact h
        rcases ih ha' hb' with h | h
        · left; simp [h2]; right; simpa using h
        · right; simp [h1]; right; simpa using h
theorem clD_comm (d e : Dd) : clD d e = clD e d := by
  simp only [clD]
  rw [Bool.or_comm]
  congr 1
  simp [eq_comm]
theorem common {n : Nat} {as bs : List Int} (ha : as.Nodup) (hb : bs.Nodup) (hin : ∀ x ∈ as ++ bs, 0 ≤ x ∧ x < (n : Int)) (hl : n < as.length + bs.length) : ∃ x, x ∈ as ∧ x ∈ bs := by
  refine Decidable.byContradiction fun hno => ?_
  have hnd : (as ++ bs).Nodup := List.nodup_append.2 ⟨ha, hb, fun x hx y hy e => by subst e; exact hno ⟨x, hx, hy⟩⟩
  have := nodup_len hnd hin
  rw [List.length_append] at this; omega
theorem miss_none {c : Hd} {gs : List (List Int)} (hq : allQ c gs = true) {i q : Nat} (hi : i < gs.length) (hqq : q < gs.length) (hne : i ≠ q) : missC c (linksR c gs) i q = false := by
  have hq2 := hq
  simp only [allQ, Bool.and_eq_true, decide_eq_true_eq] at hq2
  obtain ⟨⟨hg, hl⟩, hall⟩ := hq2
  obtain ⟨hno, h8, _, hrows⟩ := goodH_facts hg
  have hlen : (linksR c gs).length = gs.length := by simp [linksR, hq, allP]
  have get : ∀ j : Nat, (hj : j < gs.length) → (linksR c gs).getD j [] = ofL c (j : Int) gs[j] := fun j hj => by
    rw [getD_row (by omega)]
    have : (linksR c gs)[j]? = some (ofL c (j : Int) gs[j]) := by
      simp only [linksR, hq, if_true, allP, List.getElem?_map, List.getElem?_range hj, Option.map_some, List.getD_eq_getElem?_getD, List.getElem?_eq_getElem hj, Option.getD_some]
    rw [List.getElem?_eq_getElem (by omega)] at this
    exact Option.some.inj this
  have gi := List.all_eq_true.1 hall _ (List.getElem_mem hi)
  have gq := List.all_eq_true.1 hall _ (List.getElem_mem hqq)
  have ii := groupQ_in gi
  have iq := groupQ_in gq
  simp only [groupQ, Bool.and_eq_true, decide_eq_true_eq, risB] at gi gq
  simp only [missC, get i hi, get q hqq]
  cases hcl : clD (dAt c i) (dAt c q) with
  | false => rfl
  | true =>
    obtain ⟨p, hp1, hp2⟩ := common (n := c.no.toNat) (as := gs[i]) (bs := gs[q]) (gi.1.2.imp fun h => by omega) (gq.1.2.imp fun h => by omega) (fun x hx => by
      rcases List.mem_append.1 hx with h | h
      · have := ii x h; omega
      · have := iq x h; omega) (by have := gi.2; have := gq.2; omega)
    obtain ⟨_, _, _, hcov⟩ := hrows _ (rows_get hg (ii p hp1)).2.2
    have ci := hcov i (by omega)
    have cq := hcov q (by omega)
    rcases ahead_or ci cq (by omega) with h | h
    · have hd : (i : Int) ∈ depsL c p (q : Int) := (srtI_perm _).mem_iff.2 (List.mem_filter.2 ⟨h, hcl⟩)
      have := (mem_ofL hg iq (a := (q : Int))).2 ⟨p, hp2, hd⟩
      simp [this]
    · have hd : (q : Int) ∈ depsL c p (i : Int) := (srtI_perm _).mem_iff.2 (List.mem_filter.2 ⟨h, by show clD (dAt c q) (dAt c i) = true; rw [clD_comm]; exact hcl⟩)
      have := (mem_ofL hg ii (a := (i : Int))).2 ⟨p, hp1, hd⟩
      simp [this]
end GL

namespace GL
open Go

end GL

namespace GL
open Go

end GL

namespace GL
open Go

end GL

namespace GL
open Go

end GL

namespace GL
open Go

def agH (a b : List Int) (p : Int) : Prop := p.tdiv 12 ∈ a ∧ p.tmod 12 ∈ a ∧ p.tdiv 12 ∈ b ∧ p.tmod 12 ∈ b
instance (a b : List Int) (p : Int) : Decidable (agH a b p) := by unfold agH; infer_instance
end GL

namespace GL
open Go

noncomputable def whR (l : List (List Int)) : List Int := if linksB l = true then (groupsL l).flatten else []
theorem WholeOrder_ok {h : Heap} {v : V} {l : List (List Int)} {F : List Nat} (hs : SdF h v l F) :
    ∃ r h', call p 589 [v] h = some (r, h') ∧ ∃ o, r = .tup [o, .bool (linksB l)] ∧ Sl h' o (whR l) ∧ Keeps h h' ∧ h.length ≤ h'.length := by
  obtain ⟨_, h1, e1, o, rfl, s1, k1, l1⟩ := OrderBy_ok hs
  refine go (fn := g589) rfl rfl fun R hR => ?_
  simp [g589, e1]
  exact hR _ _ ⟨_, rfl, s1, k1, l1⟩
end GL

namespace GL
open Go

/-- a first part of a list of one's own, and what is put behind it -/
theorem Out.preApp {lo : Nat} {h : Heap} {v : V} {xs : List Int} (ho : Out lo h v xs) (hx : xs.length ≤ 2 ^ 20) {k : Nat} (hk : k ≤ xs.length) :
    ∃ u, slcV 1 v none (some k) none = some u ∧ (∃ F, SdF h u (xs.take k) F ∧ ∀ b ∈ F, vB v b ∧ lo ≤ b) ∧
      ∀ (h1 : Heap) (zs : List Int), KeepsP (vB v) h h1 → h.length ≤ h1.length → 0 < zs.length → zs.length ≤ 1000 → ∃ v' h2, appH 1 8 u zs.length (flats zs) h1 = some (v', h2) ∧ (∃ F, SdF h2 v' (xs.take k ++ zs) F) ∧ KeepsP (fun i => ¬ vB v i) h1 h2 ∧ h1.length ≤ h2.length := by
  have hsz : Flat.sz Int = 1 := rfl
  have hsz' : Data.sz Int = 1 := rfl
  have ho' := ho
  obtain ⟨h1, h2, ⟨rfl, rfl⟩ | ⟨b, rfl, hb, h3⟩ | ⟨b, rfl, rfl, h3, h4⟩⟩ := ho
  · simp at hk; subst hk
    refine ⟨.nils, rfl, ⟨[], .nil, by simp⟩, fun h5 zs kk hl hz hz2 => ?_⟩
    have o := Out.nil (lo := 0) (h := h5) (α := Int) (Nat.zero_le _)
    obtain ⟨v', h6, e, o', k', l', _⟩ := o.app zs hz (bytes := 8) (by decide) (by simp; omega) (k := 1) rfl rfl rfl
    obtain ⟨F, s, _⟩ := o'.fr
    exact ⟨v', h6, e, ⟨F, by simpa using s⟩, k', by omega⟩
  · have e0 : slcV 1 (.slice b 0 xs.length (.o (Flat.sz Int))) none (some k) none = some (.slice b 0 k (.o 1)) := by
      simp only [slcV, Option.getD_none, Option.getD_some, hsz]
      rw [if_pos ⟨trivial, Nat.zero_le _, hk⟩]; simp
    have hfl : (flats xs).length = xs.length := by rw [flats_len, hsz, Nat.mul_one]
    have hft : (flats xs).take k = flats (xs.take k) := by have := flats_take xs k; rwa [hsz, Nat.mul_one] at this
    have hcut : cut (flats xs) 0 k = some (flats (xs.take k)) := by
      simp only [cut, Nat.zero_add, hfl, hk, if_true, List.drop_zero, hft]
    have hkl : (xs.take k).length = k := by simp [hk]
    have hsk : Sl h (.slice b 0 k (.o 1)) (xs.take k) := by
      refine ⟨by omega, .inr ⟨b, 0, .o 1, by rw [hkl], ?_⟩⟩
      by_cases h0 : k = 0
      · left; subst h0; rfl
      · right; exact ⟨_, hb, by simp, by rw [hkl, hsz, Nat.mul_one]; exact hcut⟩
    obtain ⟨F, sF, hF, _⟩ := hsk.sdF (α := Int) rfl
    refine ⟨_, e0, ⟨F, sF, fun c hc => ?_⟩, fun h5 zs kk hl hz hz2 => ?_⟩
    · obtain ⟨_, _, _, e⟩ := (hF c hc).2
      cases e; exact ⟨⟨_, _, _, rfl⟩, h3⟩
    · have hb5 : h5[b]? = some ⟨.own, flats xs⟩ := kk b _ ⟨_, _, _, rfl⟩ hb (by simp)
      have hzl : (flats zs).length = zs.length := by rw [flats_len, hsz, Nat.mul_one]
      have hnl : (xs.take k ++ zs).length = k + zs.length := by rw [List.length_append, hkl]
      by_cases hfit : k + zs.length ≤ xs.length
      · have hlay : lay (flats xs) k (flats zs) = some (flats (xs.take k ++ zs) ++ (flats xs).drop (k + zs.length)) := by
          unfold lay
          rw [if_pos (by omega), hft, hzl, flats_append]
        refine ⟨.slice b 0 (k + zs.length) (.o 1), h5.set b ⟨.own, flats (xs.take k ++ zs) ++ (flats xs).drop (k + zs.length)⟩, ?_, ?_, fun i blk hi h6 hd => ?_, by simp⟩
        · simp only [appH, Nat.ne_of_gt hz, if_false, hb5]
          rw [if_pos ⟨trivial, trivial, by decide⟩, if_pos (by simp only [Nat.zero_add, Nat.mul_one]; rw [hfl]; exact hfit)]
          rw [Nat.zero_add, Nat.mul_one, wrH_at hb5 rfl, hlay]; rfl
        · have hsn : Sl (h5.set b ⟨.own, flats (xs.take k ++ zs) ++ (flats xs).drop (k + zs.length)⟩) (.slice b 0 (k + zs.length) (.o 1)) (xs.take k ++ zs) := by
            refine ⟨by omega, .inr ⟨b, 0, .o 1, by rw [hnl], .inr ⟨_, by rw [List.getElem?_set_self (get_lt hb5)], by simp, ?_⟩⟩⟩
            have hf2 : (flats (xs.take k ++ zs)).length = k + zs.length := by rw [flats_len, hsz, Nat.mul_one, hnl]
            rw [hnl, hsz, Nat.mul_one]
            simp only [cut]
            rw [if_pos (by rw [List.length_append]; omega), List.drop_zero, List.take_append_of_le_length (by omega), ← hf2, List.take_length]
          obtain ⟨F2, sF2, _⟩ := hsn.sdF (α := Int) rfl
          exact ⟨F2, sF2⟩
        · have : i ≠ b := fun e => hi ⟨_, _, _, by rw [e]⟩
          rw [List.getElem?_set_ne (Ne.symm this)]; exact h6
      · refine ⟨.slice h5.length 0 (k + zs.length) (.o 1), h5.set b ⟨.dead, flats xs⟩ ++ [⟨.own, flats (xs.take k) ++ flats zs⟩], ?_, ?_, fun i blk hi h6 hd => ?_, by simp⟩
        · simp only [appH, Nat.ne_of_gt hz, if_false, hb5]
          rw [if_pos ⟨trivial, trivial, by decide⟩, if_neg (by simp only [Nat.zero_add, Nat.mul_one]; rw [hfl]; exact hfit), if_pos ⟨by unfold room; omega, by unfold room; omega⟩]
          rw [Nat.mul_one, hcut]; rfl
        · have hsn : Sl (h5.set b ⟨.dead, flats xs⟩ ++ [⟨.own, flats (xs.take k) ++ flats zs⟩]) (.slice h5.length 0 (k + zs.length) (.o 1)) (xs.take k ++ zs) := by
            have := Sl.whole (h := h5.set b ⟨.dead, flats xs⟩ ++ [⟨.own, flats (xs.take k) ++ flats zs⟩]) (xs := xs.take k ++ zs) (b := h5.length) (blk := ⟨.own, flats (xs.take k) ++ flats zs⟩) (.o 1) (by simp) (by simp) (by rw [flats_append]) (by omega)
            rwa [hnl] at this
          obtain ⟨F2, sF2, _⟩ := hsn.sdF (α := Int) rfl
          exact ⟨F2, sF2⟩
        · have : i ≠ b := fun e => hi ⟨_, _, _, by rw [e]⟩
          rw [List.getElem?_append_left (by simp; exact get_lt h6), List.getElem?_set_ne (Ne.symm this)]; exact h6
  · simp at hk; subst hk
    refine ⟨.slice b 0 0 (.k 0), rfl, ⟨[], ⟨by simp, .inr ⟨b, 0, .k 0, rfl, Nat.le_refl _, .inl ⟨rfl, rfl⟩⟩⟩, by simp⟩, fun h5 zs kk hl hz hz2 => ?_⟩
    have o := Out.empty (lo := 0) (h := h5) (α := Int) (b := b) (Nat.zero_le _) (by omega)
    obtain ⟨v', h6, e, o', k', l', _⟩ := o.app zs hz (bytes := 8) (by decide) (by simp; omega) (k := 1) rfl rfl rfl
    obtain ⟨F, s, _⟩ := o'.fr
    exact ⟨v', h6, e, ⟨F, by simpa using s⟩, k', by omega⟩

end GL

namespace GL
open Go

/-! what is done stands in the order of the whole -/
theorem idx_ne {x a : Int} (w : List Int) (h : x ≠ a) : (x :: w).idxOf a = w.idxOf a + 1 := by
  rw [List.idxOf_cons, beq_eq_false_iff_ne.2 h]; rfl
theorem idx_filter (q : Int → Bool) : ∀ {w : List Int}, ∀ {a b : Int}, a ∈ w → b ∈ w → q a = true → q b = true → ((w.filter q).idxOf a < (w.filter q).idxOf b ↔ w.idxOf a < w.idxOf b)
  | [], _, _, ha, _, _, _ => by simp at ha
  | x :: w, a, b, ha, hb, qa, qb => by
    by_cases hx : q x = true
    · rw [List.filter_cons_of_pos hx]
      by_cases hxa : x = a
      · subst hxa
        by_cases hxb : x = b
        · subst hxb; simp
        · rw [idx_ne _ hxb, idx_ne _ hxb]; simp
      · by_cases hxb : x = b
        · subst hxb; rw [idx_ne _ hxa, idx_ne _ hxa]; simp
        · have ha' : a ∈ w := by simpa [Ne.symm hxa] using ha
          have hb' : b ∈ w := by simpa [Ne.symm hxb] using hb
          have := idx_filter q ha' hb' qa qb
          rw [idx_ne _ hxa, idx_ne _ hxb, idx_ne _ hxa, idx_ne _ hxb]; omega
    · rw [List.filter_cons_of_neg hx]
      have hxa : x ≠ a := fun e => hx (e ▸ qa)
      have hxb : x ≠ b := fun e => hx (e ▸ qb)
      have ha' : a ∈ w := by simpa [Ne.symm hxa] using ha
      have hb' : b ∈ w := by simpa [Ne.symm hxb] using hb
      have := idx_filter q ha' hb' qa qb
      rw [idx_ne _ hxa, idx_ne _ hxb]; omega

theorem mem_outK {l : List (List Int)} (hg : linksB l = true) {xs : List Int} (hin : ∀ x ∈ xs, InR l x) (k : Nat) (x : Int) : x ∈ outK l xs k ↔ x ∈ readyL l (xs.take k) := by
  induction k with
  | zero => simp [outK, readyL]
  | succ k ih =>
    simp only [outK, List.mem_append, mem_nextL, ih]
    constructor
    · rintro (h | h)
      · rw [mem_readyL] at h ⊢
        have hs : ∀ y, y ∈ xs.take k → y ∈ xs.take (k + 1) := fun y hy => (List.take_prefix_take_left (Nat.le_succ k)).subset hy
        exact ⟨hs _ h.1, fun y hy => hs _ (h.2 y hy)⟩
      · exact h.2.1
    · intro h
      by_cases hx : x ∈ outK l xs k
      · left; exact ih.1 hx
      · right; exact ⟨((groupsL_facts hg).2.1 x).1 (hin x (List.mem_of_mem_take (mem_readyL.1 h).1)), h, fun h2 => hx (ih.2 h2)⟩
theorem place_idx {xs : List Int} {a : Int} (h : a ∈ xs) : placeL xs a = xs.idxOf a := by rw [placeL, if_pos h]
theorem ready_mono {l : List (List Int)} (hg : linksB l = true) {ds : List Int} {a b : Int} (ha : InR l a) (h : a ∈ readyL l ds) (r : Rch l a b) : b ∈ readyL l ds := by
  rw [mem_readyL] at h ⊢
  have hb := r.lt hg ha
  refine ⟨h.2 b ((mem_reachL hg ha).2 r), fun x hx => h.2 x ((mem_reachL hg ha).2 (r.trans ((mem_reachL hg hb).1 hx)))⟩
theorem outK_agree {l : List (List Int)} (hg : linksB l = true) {xs : List Int} (hin : ∀ x ∈ xs, InR l x) (k : Nat) : ∀ {a b : Int}, a ∈ outK l xs k → b ∈ outK l xs k → Rch l a b →
    ((outK l xs k).idxOf a < (outK l xs k).idxOf b ↔ (groupsL l).flatten.idxOf a < (groupsL l).flatten.idxOf b) := by
  induction k with
  | zero => intro a b ha; simp [outK] at ha
  | succ k ih =>
    intro a b ha hb r
    have wa := outK_in hg xs _ a ha
    have wb := outK_in hg xs _ b hb
    have fa := ((groupsL_facts hg).2.1 a).1 wa
    have fb := ((groupsL_facts hg).2.1 b).1 wb
    simp only [outK, List.mem_append] at ha hb ⊢
    by_cases ha1 : a ∈ outK l xs k
    · have hb1 : b ∈ outK l xs k := (mem_outK hg hin k b).2 (ready_mono hg wa ((mem_outK hg hin k a).1 ha1) r)
      rw [List.idxOf_append, List.idxOf_append, if_pos ha1, if_pos hb1]
      exact ih ha1 hb1 r
    · have ha2 : a ∈ nextL l (xs.take (k + 1)) (outK l xs k) := ha.resolve_left ha1
      by_cases hb1 : b ∈ outK l xs k
      · rw [List.idxOf_append, List.idxOf_append, if_neg ha1, if_pos hb1]
        have hbl := List.idxOf_lt_length_of_mem hb1
        have nr : ¬ Rch l b a := fun r2 => ha1 ((mem_outK hg hin k a).2 (ready_mono hg wb ((mem_outK hg hin k b).1 hb1) r2))
        have := place_le hg wa r nr
        rw [place_idx fa, place_idx fb] at this
        constructor <;> intro <;> omega
      · have hb2 : b ∈ nextL l (xs.take (k + 1)) (outK l xs k) := hb.resolve_left hb1
        rw [List.idxOf_append, List.idxOf_append, if_neg ha1, if_neg hb1]
        have e : nextL l (xs.take (k + 1)) (outK l xs k) = (groupsL l).flatten.filter fun n => decide (n ∈ readyL l (xs.take (k + 1))) && !decide (n ∈ outK l xs k) := by
          unfold nextL; rw [List.filter_filter]; congr 1; funext n; rw [Bool.and_comm]
        rw [e] at ha2 hb2 ⊢
        have := idx_filter (fun n => decide (n ∈ readyL l (xs.take (k + 1))) && !decide (n ∈ outK l xs k)) fa fb (List.mem_filter.1 ha2).2 (List.mem_filter.1 hb2).2
        omega
end GL

namespace GL
open Go

end GL

namespace GL
open Go

end GL

namespace GL
open Go

/-! two orders in which clashing deeds stand alike come to the same -/
theorem sub_idx : ∀ {l : List Int} {a b : Int}, l.Nodup → ([a, b] : List Int).Sublist l → l.idxOf a < l.idxOf b
  | [], a, b, _, h => by simp at h
  | y :: l, a, b, hn, h => by
    have hn' := List.nodup_cons.1 hn
    cases h with
    | cons _ h1 =>
      have ha : a ∈ l := h1.subset (by simp)
      have hb : b ∈ l := h1.subset (by simp)
      have na : y ≠ a := fun e => hn'.1 (by rw [e]; exact ha)
      have nb : y ≠ b := fun e => hn'.1 (by rw [e]; exact hb)
      rw [idx_ne _ na, idx_ne _ nb]
      have := sub_idx hn'.2 h1
      omega
    | cons_cons _ h1 =>
      have hb : b ∈ l := h1.subset (by simp)
      have nb : y ≠ b := fun e => hn'.1 (by rw [e]; exact hb)
      rw [idx_ne _ nb]
      simp
theorem idx_sub : ∀ {l : List Int} {a b : Int}, b ∈ l → l.idxOf a < l.idxOf b → ([a, b] : List Int).Sublist l
  | [], a, b, h, _ => by simp at h
  | y :: l, a, b, hb, h => by
    by_cases hya : y = a
    · subst hya
      by_cases hyb : y = b
      · subst hyb; omega
      · have : b ∈ l := by simpa [Ne.symm hyb] using hb
        exact (List.singleton_sublist.2 this).cons_cons _
    · by_cases hyb : y = b
      · subst hyb; simp at h
      · have hb' : b ∈ l := by simpa [Ne.symm hyb] using hb
        rw [idx_ne _ hya, idx_ne _ hyb] at h
        exact (idx_sub hb' (by omega)).cons _

theorem step_comm (c : Hd) (q : List Int × List Int) {a x : Int} (hne : a.toNat ≠ x.toNat) (ka : 0 ≤ (dAt c a).key) (kx : 0 ≤ (dAt c x).key) (hc : clH c a x = false) : stepO c (stepO c q a) x = stepO c (stepO c q x) a := by
  obtain ⟨ks, sn⟩ := q
  simp only [stepO, clH, clD, Bool.and_eq_false_iff, decide_eq_false_iff_not] at hc ⊢
  have gs : ∀ (l : List Int) (i j : Nat) (v : Int), i ≠ j → (l.set i v).getD j 0 = l.getD j 0 := fun l i j v h => by
    simp only [List.getD_eq_getElem?_getD, List.getElem?_set_ne h]
  rcases hc with hc | hc
  · have hk : (dAt c a).key.toNat ≠ (dAt c x).key.toNat := by omega
    cases (dAt c a).wr <;> cases (dAt c x).wr <;> simp [List.getElem?_set_ne hk, List.getElem?_set_ne (Ne.symm hk), List.set_comm _ _ hne, List.set_comm _ _ hk]
  · simp only [Bool.or_eq_false_iff] at hc
    simp [hc.1, hc.2, List.set_comm _ _ hne]
theorem fold_front (c : Hd) {x : Int} : ∀ (A B : List Int) (q : List Int × List Int), (∀ a ∈ A, a.toNat ≠ x.toNat ∧ 0 ≤ (dAt c a).key ∧ clH c a x = false) → 0 ≤ (dAt c x).key → (A ++ x :: B).foldl (stepO c) q = (x :: (A ++ B)).foldl (stepO c) q
  | [], B, q, _, _ => rfl
  | a :: A, B, q, h, kx => by
    obtain ⟨h1, h2, h3⟩ := h a (by simp)
    have := fold_front c A B (stepO c q a) (fun a ha => h a (by simp [ha])) kx
    simp only [List.cons_append, List.foldl_cons] at this ⊢
    rw [this, step_comm c q h1 h2 kx h3]
theorem fold_agree (c : Hd) : ∀ (P W : List Int) (q : List Int × List Int), P.Nodup → W.Nodup → (∀ z, z ∈ P ↔ z ∈ W) → (∀ z ∈ P, 0 ≤ z ∧ 0 ≤ (dAt c z).key) → (∀ a b, clH c a b = true → ([a, b] : List Int).Sublist P → ([a, b] : List Int).Sublist W) → P.foldl (stepO c) q = W.foldl (stepO c) q
  | [], W, q, _, _, hm, _, _ => by
    cases W with
    | nil => rfl
    | cons y W => exact absurd ((hm y).2 (by simp)) (by simp)
  | x :: P, W, q, hp, hw, hm, hk, hc => by
    have hp' := List.nodup_cons.1 hp
    obtain ⟨A, B, rfl⟩ := List.append_of_mem ((hm x).1 (by simp))
    have hw1 := List.nodup_append.1 hw
    have hw2 := List.nodup_cons.1 hw1.2.1
    have hxA : x ∉ A := fun h => hw1.2.2 x h x (by simp) rfl
    have hAP : ∀ a ∈ A, a ∈ P := fun a ha => by
      have := (hm a).2 (by simp [ha])
      rcases List.mem_cons.1 this with h | h
      · exact absurd (h ▸ ha) hxA
      · exact h
    have hmn : ∀ z, z ∈ P ↔ z ∈ A ++ B := fun z => by
      constructor
      · intro hz
        have h1 := (hm z).1 (by simp [hz])
        have hzx : z ≠ x := fun e => hp'.1 (e ▸ hz)
        simpa [hzx] using h1
      · intro hz
        have hz' : z ∈ A ∨ z ∈ B := List.mem_append.1 hz
        have hzx : z ≠ x := fun e => by
          rcases hz' with h | h
          · exact hxA (e ▸ h)
          · exact hw2.1 (e ▸ h)
        have h1 := (hm z).2 (by rcases hz' with h | h <;> simp [h])
        simpa [hzx] using h1
    rw [fold_front c A B q (fun a ha => ?_) (hk x (by simp)).2]
    · simp only [List.foldl_cons]
      have hd : (A ++ B).Nodup := by
        rw [List.nodup_append]
        exact ⟨hw1.1, hw2.2, fun a ha b hb => hw1.2.2 a ha b (by simp [hb])⟩
      refine fold_agree c P (A ++ B) (stepO c q x) hp'.2 hd hmn (fun z hz => hk z (by simp [hz])) fun a b hab hs => ?_
      have h1 := hc a b hab (hs.cons _)
      have ha : a ≠ x := fun e => hp'.1 (e ▸ hs.subset (by simp))
      have hb : b ≠ x := fun e => hp'.1 (e ▸ hs.subset (by simp))
      have h2 := h1.erase x
      rw [List.erase_append_right _ hxA, List.erase_cons_head] at h2
      have h3 : ([a, b] : List Int).erase x = [a, b] := List.erase_of_not_mem (by simp [Ne.symm ha, Ne.symm hb])
      rwa [h3] at h2
    · have haP := hAP a ha
      have hax : a ≠ x := fun e => hp'.1 (e ▸ haP)
      refine ⟨fun e => hax ?_, (hk a (by simp [haP])).2, ?_⟩
      · have h1 := (hk a (by simp [haP])).1
        have h2 := (hk x (by simp)).1
        omega
      · cases hcl : clH c a x with
        | false => rfl
        | true =>
          exfalso
          have hcl' : clH c x a = true := by simp only [clH] at hcl ⊢; rw [clD_comm]; exact hcl
          have h1 := hc x a hcl' ((List.singleton_sublist.2 haP).cons_cons _)
          have haB : a ∉ B := fun h => hw1.2.2 a ha a (by simp [h]) rfl
          have i1 := sub_idx hw h1
          rw [List.idxOf_append, List.idxOf_append, if_neg hxA, if_pos ha] at i1
          have := List.idxOf_lt_length_of_mem ha
          omega

theorem serial_fold {c : Hs} (hb : houseB c = true) {row : List Int} (hn : row.Nodup) (hm : ∀ x, x ∈ row ↔ InR (linksR c.heard c.groups) x) (q : List Int × List Int) :
    (outK (linksR c.heard c.groups) row row.length).foldl (stepO c.heard) q = (groupsL (linksR c.heard c.groups)).flatten.foldl (stepO c.heard) q ∧ (outK (linksR c.heard c.groups) row row.length).length = (linksR c.heard c.groups).length := by
  obtain ⟨hg, hlen⟩ := links_good hb
  have hfc := groupsL_facts hg
  have hb' : allQ c.heard c.groups = true := hb
  have hgl : c.groups.length = c.heard.deeds.length := (houseB_facts hb).2.1
  have hgd := (houseB_facts hb).1
  have miss := fun {i q : Nat} (hi : i < c.groups.length) (hq : q < c.groups.length) (hne : i ≠ q) => miss_none hb' hi hq hne
  generalize hL : linksR c.heard c.groups = L at *
  have hin : ∀ x ∈ row, InR L x := fun x hx => (hm x).1 hx
  have hmem : ∀ x, x ∈ outK L row row.length ↔ InR L x := fun x => by
    rw [mem_outK hg hin, List.take_length, mem_readyL, hm]
    refine ⟨fun h => h.1, fun h => ⟨h, fun y hy => (hm y).2 (((mem_reachL hg h).1 hy).lt hg h)⟩⟩
  have hno := outK_nodup hg row row.length
  refine ⟨fold_agree c.heard _ _ q hno hfc.1 (fun z => by rw [hmem, hfc.2.1]) (fun z hz => ?_) fun a b hcl hs => ?_, ?_⟩
  · have h1 := (hmem z).1 hz
    exact ⟨h1.1, (okD_at hgd (x := z) ⟨h1.1, by have := h1.2; omega⟩).1⟩
  · have ha := hs.subset (show a ∈ [a, b] by simp)
    have hbm := hs.subset (show b ∈ [a, b] by simp)
    have ra := (hmem a).1 ha
    have rb := (hmem b).1 hbm
    have hlt := sub_idx hno hs
    have hab : a ≠ b := fun e => by subst e; omega
    have wa := (hfc.2.1 a).1 ra
    have wb := (hfc.2.1 b).1 rb
    have hedge : Rch L a b ∨ Rch L b a := by
      have hm1 := miss (i := a.toNat) (q := b.toNat) (by have := ra.1; have := ra.2; omega) (by have := rb.1; have := rb.2; omega) (by have := ra.1; have := rb.1; omega)
      have ea : ((a.toNat : Nat) : Int) = a := Int.toNat_of_nonneg ra.1
      have eb : ((b.toNat : Nat) : Int) = b := Int.toNat_of_nonneg rb.1
      simp only [missC, ea, eb] at hm1
      have hcl' : clD (dAt c.heard a) (dAt c.heard b) = true := hcl
      rw [hcl', Bool.true_and, Bool.and_eq_false_iff] at hm1
      simp only [Bool.not_eq_false', decide_eq_true_eq] at hm1
      have la : a.toNat < L.length := by have := ra.1; have := ra.2; omega
      have lb : b.toNat < L.length := by have := rb.1; have := rb.2; omega
      rcases hm1 with h | h
      · left
        rw [getD_in la] at h
        exact (Rch.refl _).step ⟨a.toNat, la, ea.symm, h⟩
      · right
        rw [getD_in lb] at h
        exact (Rch.refl _).step ⟨b.toNat, lb, eb.symm, h⟩
    refine idx_sub wb ?_
    rcases hedge with r | r
    · exact (outK_agree hg hin row.length ha hbm r).1 hlt
    · have h1 := outK_agree hg hin row.length hbm ha r
      have h2 : ¬ (groupsL L).flatten.idxOf b < (groupsL L).flatten.idxOf a := fun h => by have := h1.2 h; omega
      have h3 : (groupsL L).flatten.idxOf a ≠ (groupsL L).flatten.idxOf b := fun e => hab (by
        have e1 := List.getElem_idxOf (List.idxOf_lt_length_of_mem wa)
        have e2 := List.getElem_idxOf (List.idxOf_lt_length_of_mem wb)
        rw [← e1, ← e2]; simp only [e])
      omega
  · refine Nat.le_antisymm (outK_short hg row _) ?_
    have h1 : ((List.range L.length).map fun (i : Nat) => (i : Int)).Nodup := (range_rising _).imp fun h => by omega
    have := sub_len h1 (m := outK L row row.length) fun x hx => (hmem x).2 (by
      have := mem_nodes (l := L) (a := x); exact this.1 hx)
    simpa using this
theorem at_serial {c : Hs} {r : Int} (hp : placeQ c r = true) : (atR c r).keys = (serO c).keys ∧ (atR c r).seen = (serO c).seen ∧ (atR c r).order.length = c.heard.deeds.length := by
  have hp0 := hp
  obtain ⟨hg, hb, hr, hrl, hon, hin⟩ := row_pre hp c.heard.deeds.length
  have hf := goodH_facts hg
  have htk : (rowAt c.heard r).take c.heard.deeds.length = rowAt c.heard r := by rw [← hrl, List.take_length]
  rw [htk] at hon hin
  have hl := (links_good hb).2
  have hat : atR c r = soO c r c.heard.deeds.length := by
    have : sfB c r (c.heard.deeds.length : Int) = true := by rw [sf_at]; exact hp
    rw [atR, sfR, if_pos this]; simp
  have hon' := hon
  simp only [onceB, decide_eq_true_eq] at hon'
  have hrow : rowAt c.heard r ∈ c.heard.rows := by
    unfold rowAt; rw [getD_in (by omega)]; exact List.getElem_mem _
  have hall := (hf.2.2.2 _ hrow).2.2.2
  obtain ⟨h1, h2⟩ := serial_fold hb (row := rowAt c.heard r) hon'.2 (fun x => ⟨hin x, fun hx => by
    have := hall x.toNat (by unfold InR at hx; omega)
    rwa [Int.toNat_of_nonneg hx.1] at this⟩) (List.replicate 10 0, List.replicate c.heard.deeds.length (-1))
  rw [hat, soO, htk, serO]
  simp only [outF, h1]
  exact ⟨trivial, trivial, by omega⟩
theorem serR_true {c : Hs} (hb : houseB c = true) : serR c = true := by
  simp only [serR, hb, Bool.true_and, serA, List.all_eq_true, sameQ]
  intro r hr
  rw [List.mem_range] at hr
  have hp : placeQ c (r : Int) = true := by simp only [placeQ, hb, Bool.true_and, decide_eq_true_eq]; omega
  obtain ⟨h1, h2, _⟩ := at_serial hp
  simp [h1, h2]
theorem twoA_eq (c : Hs) (r q : Int) : twoA c r q = twoQ c r q := by
  cases h : twoQ c r q with
  | false => simp [twoA, h]
  | true =>
    have h' := h
    simp only [twoQ, Bool.and_eq_true] at h'
    obtain ⟨a1, a2, _⟩ := at_serial h'.1
    obtain ⟨b1, b2, _⟩ := at_serial h'.2
    simp [twoA, h, sameQ, a1, a2, b1, b2]
end GL

namespace GL
open Go

/-- what is left behind the first of a list of one's own, and what is put behind it -/
theorem Out.tailApp {lo : Nat} {h : Heap} {v : V} {xs : List Int} (ho : Out lo h v xs) (hx : xs.length ≤ 2 ^ 20) (hp : 0 < xs.length) :
    ∃ u, slcV 1 v (some 1) none none = some u ∧ (∃ F, SdF h u (xs.drop 1) F ∧ ∀ b ∈ F, vB v b ∧ lo ≤ b) ∧
      ∀ (h1 : Heap) (zs : List Int), KeepsP (vB v) h h1 → h.length ≤ h1.length → 0 < zs.length → zs.length ≤ 1000 → ∃ v' h2, appH 1 8 u zs.length (flats zs) h1 = some (v', h2) ∧ (∃ F, SdF h2 v' (xs.drop 1 ++ zs) F) ∧ KeepsP (fun i => ¬ vB v i) h1 h2 ∧ h1.length ≤ h2.length := by
  have hsz : Flat.sz Int = 1 := rfl
  obtain ⟨h1, h2, ⟨rfl, rfl⟩ | ⟨b, rfl, hb, h3⟩ | ⟨b, rfl, rfl, h3, h4⟩⟩ := ho
  · simp at hp
  · have hdl : (xs.drop 1).length = xs.length - 1 := by simp
    have e0 : slcV 1 (.slice b 0 xs.length (.o (Flat.sz Int))) (some 1) none none = some (.slice b 1 (xs.drop 1).length (.o 1)) := by
      simp only [slcV, Option.getD_none, Option.getD_some, hsz]
      rw [if_pos ⟨trivial, hp, Nat.le_refl _⟩, hdl]
    have hfl : (flats xs).length = xs.length := by rw [flats_len, hsz, Nat.mul_one]
    have hfd : (flats xs).drop 1 = flats (xs.drop 1) := by have := flats_drop xs 1; rwa [hsz, Nat.mul_one] at this
    have hfdl : (flats (xs.drop 1)).length = (xs.drop 1).length := by rw [flats_len, hsz, Nat.mul_one]
    have hcut : cut (flats xs) 1 (xs.drop 1).length = some (flats (xs.drop 1)) := by
      simp only [cut]
      rw [if_pos (by omega), hfd, ← hfdl, List.take_length]
    have hsk : Sl h (.slice b 1 (xs.drop 1).length (.o 1)) (xs.drop 1) := by
      refine ⟨by omega, .inr ⟨b, 1, .o 1, rfl, .inr ⟨_, hb, by simp, by rw [hsz, Nat.mul_one]; exact hcut⟩⟩⟩
    obtain ⟨F, sF, hF, _⟩ := hsk.sdF (α := Int) rfl
    refine ⟨_, e0, ⟨F, sF, fun c hc => ?_⟩, fun h5 zs kk hl hz hz2 => ?_⟩
    · obtain ⟨_, _, _, e⟩ := (hF c hc).2
      cases e; exact ⟨⟨_, _, _, rfl⟩, h3⟩
    · have hb5 : h5[b]? = some ⟨.own, flats xs⟩ := kk b _ ⟨_, _, _, rfl⟩ hb (by simp)
      have hnl : (xs.drop 1 ++ zs).length = (xs.drop 1).length + zs.length := List.length_append
      refine ⟨.slice h5.length 0 ((xs.drop 1).length + zs.length) (.o 1), h5.set b ⟨.dead, flats xs⟩ ++ [⟨.own, flats (xs.drop 1) ++ flats zs⟩], ?_, ?_, fun i blk hi h6 hd => ?_, by simp⟩
      · simp only [appH, Nat.ne_of_gt hz, if_false, hb5]
        rw [if_pos ⟨trivial, trivial, by decide⟩, if_neg (by simp only [Nat.mul_one]; omega), if_pos ⟨by unfold room; omega, by unfold room; omega⟩]
        rw [Nat.mul_one, hcut]; rfl
      · have hsn : Sl (h5.set b ⟨.dead, flats xs⟩ ++ [⟨.own, flats (xs.drop 1) ++ flats zs⟩]) (.slice h5.length 0 ((xs.drop 1).length + zs.length) (.o 1)) (xs.drop 1 ++ zs) := by
          have := Sl.whole (h := h5.set b ⟨.dead, flats xs⟩ ++ [⟨.own, flats (xs.drop 1) ++ flats zs⟩]) (xs := xs.drop 1 ++ zs) (b := h5.length) (blk := ⟨.own, flats (xs.drop 1) ++ flats zs⟩) (.o 1) (by simp) (by simp) (by rw [flats_append]) (by omega)
          rwa [hnl] at this
        obtain ⟨F2, sF2, _⟩ := hsn.sdF (α := Int) rfl
        exact ⟨F2, sF2⟩
      · have : i ≠ b := fun e => hi ⟨_, _, _, by rw [e]⟩
        rw [List.getElem?_append_left (by simp; exact get_lt h6), List.getElem?_set_ne (Ne.symm this)]; exact h6
  · simp at hp

theorem drawIsSerial_ok {h : Heap} {v : V} {bs : List Byte} (hs : Sl h v bs) : ∃ r h', call p 731 [v] h = some (r, h') ∧ ∃ (c : Hs) (F : List Nat), HsV h' r c F ∧ Keeps h h' ∧ h.length ≤ h'.length := by
  obtain ⟨w, h1, e1, c, F, hc, k1, l1⟩ := drawGoodHouse_ok hs
  have hcc := hc
  obtain ⟨x, y, z, F1, F2, F3, rfl, rfl, hx, hy, hz⟩ := hc
  refine go (fn := g731) rfl rfl fun R hR => ?_
  simp [g731, upd, e1, hx.cells, hx.cell, hy.cells, hy.cell, hz.cells, hz.cell, resV, mkV]
  exact hR _ _ ⟨c, _, hcc, k1, l1⟩
theorem drawOutcomeAtN_ok {h : Heap} {v : V} {bs : List Byte} (hs : Sl h v bs) : ∃ r h', call p 725 [v] h = some (r, h') ∧ ∃ (w : V) (q : Int) (c : Hs) (F : List Nat), r = .tup [w, vi q] ∧ HsV h' w c F ∧ (c.heard.no = 3 ∨ c.heard.no = 5) ∧ Keeps h h' ∧ h.length ≤ h'.length := by
  have d0 := DC.start hs
  obtain ⟨w, h1, e1, c, F, hc, hno, hd, hF, d1, k1, l1⟩ := d0.house (by decide)
  have hcc := hc
  obtain ⟨x, y, z, F1, F2, F3, rfl, rfl, hx, hy, hz⟩ := hc
  obtain ⟨n, hn⟩ : ∃ n : Nat, c.heard.no = n := ⟨c.heard.no.toNat, by omega⟩
  have w0 : IntKind.i64.wrap ((n : Int) + 1) = (n + 1 : Nat) := by rw [IntWalk.i64_in] <;> omega
  obtain ⟨q, h2, e2, hq, d2, k2, l2⟩ := d1.pick (by omega) ((n + 1 : Nat) : Int) (by omega)
  obtain ⟨b, h3, e3, hb, d3, k3, l3⟩ := d2.pick (by omega) 9 (by decide)
  have t : (b : Int).tdiv 8 = (b / 8 : Nat) := by rw [Int.tdiv_eq_ediv_of_nonneg (by omega)]; omega
  have w2 : IntKind.i64.wrap ((b / 8 : Nat) : Int) = (b / 8 : Nat) := by rw [IntWalk.i64_in] <;> omega
  have w3 : IntKind.i64.wrap ((q : Int) - (b / 8 : Nat)) = (q : Int) - (b / 8 : Nat) := by rw [IntWalk.i64_in] <;> omega
  have ne : ∀ b ∈ F1 ++ F2 ++ F3, b ≠ h.length := fun b hb => by have := hF b hb; simp at this; omega
  have hc2 := (hcc.keeps (k2.P.mono ne)).keeps (k3.P.mono ne)
  simp at l1 e1
  have hno' := hno
  rw [hn] at hcc hc2 e1
  refine go (fn := g725) rfl rfl fun R hR => ?_
  simp [g725, hs.cells, hs.cell, fillL, upd, e1, hx.cells, hx.cell, hy.cells, hy.cell, hz.cells, hz.cell, w0, e2, e3, t, w2, w3, resV, mkV, -Int.natCast_add, -Int.natCast_ediv]
  exact hR _ _ ⟨_, _, c, _, rfl, hc2, hno', d3.keep, by omega⟩
theorem drawSameOutcome_ok {h : Heap} {v : V} {bs : List Byte} (hs : Sl h v bs) : ∃ r h', call p 733 [v] h = some (r, h') ∧ ∃ (w : V) (q k : Int) (c : Hs) (F : List Nat), r = .tup [w, vi q, vi k] ∧ HsV h' w c F ∧ Keeps h h' ∧ h.length ≤ h'.length := by
  obtain ⟨_, h1, e1, w, q, c, F, rfl, hc, hd, k1, l1⟩ := drawOutcomeAtN_ok hs
  have hs1 := hs.keeps k1
  have d0 := DC.start hs1
  have hcc := hc
  obtain ⟨x, y, z, F1, F2, F3, rfl, rfl, hx, hy, hz⟩ := hc
  obtain ⟨a, h2, e2, ha, d2, k2, l2⟩ := d0.pick (by decide) c.heard.no (by omega)
  have k3' := d2.keep
  simp at l2
  refine go (fn := g733) rfl rfl fun R hR => ?_
  simp [g733, e1, hs.cells, hs.cell, fillL, upd, hx.cells, hx.cell, hy.cells, hy.cell, hz.cells, hz.cell, e2, resV, mkV]
  exact hR _ _ ⟨_, q, _, c, _, rfl, hcc.keep k3', k1.trans k3', by omega⟩

theorem drawOutcomeBy_ok {h : Heap} {v : V} {bs : List Byte} (hs : Sl h v bs) : ∃ r h', call p 732 [v] h = some (r, h') ∧ ∃ (w u : V) (c : Hs) (F G : List Nat) (xs : List Int), r = .tup [w, u] ∧ HsV h' w c F ∧ SdF h' u xs G ∧ xs.length ≤ 40 ∧ Keeps h h' ∧ h.length ≤ h'.length := by
  have d0 := DC.start hs
  obtain ⟨w, h1, e1, c, F, hc, hno, hx, hF, d1, k1, l1⟩ := d0.house (by decide)
  obtain ⟨u, h2, e2, xs, o2, hxl, d2, k2, l2⟩ := d1.shuffled (by omega) c.heard.deeds.length (by omega)
  simp at l1 e1 hF
  have neF : ∀ b ∈ F, b ≠ h.length := fun b hb => by have := hF b hb; omega
  have s2 := hc.keeps (k2.P.mono neF)
  have nv : ∀ b ∈ F, ¬ vB u b := fun b hb hv => by
    have := (o2.ge hv).1
    have := hc.lt hb
    omega
  have nu : ∀ i, vB u i → i ≠ h.length := fun i hi => by have := (o2.ge hi).1; omega
  have hcc := hc
  obtain ⟨x, y, z, F1, F2, F3, rfl, rfl, hx1, hy1, hz1⟩ := hc
  refine go (fn := g732) rfl rfl fun R hR => ?_
  have tailF : ∀ (ys : List Int) (t : V) (h3 : Heap) (M : Nat) (hM : M < 2 ^ 57), ys.length ≤ 20 → (∃ F, SdF h2 t ys F ∧ ∀ b ∈ F, vB u b ∧ h1.length ≤ b) → (∀ (h1 : Heap) (zs : List Int), KeepsP (vB u) h2 h1 → h2.length ≤ h1.length → 0 < zs.length → zs.length ≤ 1000 → ∃ v' h5, appH 1 8 t zs.length (flats zs) h1 = some (v', h5) ∧ (∃ F, SdF h5 v' (ys ++ zs) F) ∧ KeepsP (fun i => ¬ vB u i) h1 h5 ∧ h1.length ≤ h5.length) → DC h h3 M → KeepsBut h.length h2 h3 → h2.length ≤ h3.length →
      ∃ one h4, call p 92 [.ptr h.length 0, vi 30] h3 = some (.bool one, h4) ∧ (one = false → R (.tup [.agg [vi c.heard.no, x, y, z], t]) h4) ∧ (one = true → ∃ v' h5, appH 1 8 t 2 [vi 0, vi 0] (h4 ++ [⟨.own, [vi 0, vi 0]⟩]) = some (v', h5) ∧ R (.tup [.agg [vi c.heard.no, x, y, z], v']) h5) := by
    intro ys t h3 M hM hk ⟨Fu, su, hFu⟩ happ d3 k3 l3
    obtain ⟨one, h4, e4, d4, k4, l4⟩ := d3.one (by omega) 30 (by decide)
    have k34 := k3.trans k4
    refine ⟨one, h4, e4, fun _ => ?_, fun _ => ?_⟩
    · exact hR _ _ ⟨_, t, c, F1 ++ F2 ++ F3, Fu, _, rfl, s2.keeps (k34.P.mono neF), su.keeps (k34.P.mono fun b hb => nu b (hFu b hb).1), by omega, d4.keep, by omega⟩
    · have kl : Keeps h4 (h4 ++ [⟨.own, [vi 0, vi 0]⟩]) := Keeps.append _ _
      obtain ⟨v', h5, e5, ⟨F5, s5⟩, k5, l5⟩ := happ (h4 ++ [⟨.own, [vi 0, vi 0]⟩]) [0, 0] ((k34.P.trans (kl.p _)).mono nu) (by simp; omega) (by simp) (by simp)
      refine ⟨v', h5, e5, hR _ _ ⟨_, v', c, F1 ++ F2 ++ F3, F5, _, rfl, ((s2.keeps (k34.P.mono neF)).keep kl).keeps (k5.mono nv), s5, by simp; omega, ?_, by simp at l5; omega⟩⟩
      exact Keeps.far (n := h.length) (d4.keep.trans kl) k5 (Nat.le_refl _) fun i hi hv => by have := (o2.ge hv).1; omega
  have et : slcV 1 u none (some xs.length) none = some u := by
    have ol := o2.sl.len
    obtain ⟨_, _, ⟨rfl, rfl⟩ | ⟨b, rfl, hb, h3⟩ | ⟨b, rfl, rfl, h3, h4⟩⟩ := o2
    · rfl
    · simp [slcV, Flat.sz]
    · rfl
  obtain ⟨u1, eu, hu1, hu2⟩ := o2.preApp (by omega) (Nat.le_refl _)
  rw [et] at eu; cases eu
  rw [List.take_length] at hu1 hu2
  by_cases h0 : xs.length = 0
  · obtain ⟨one, h4, e4, r1, r2⟩ := tailF xs u h2 _ (by omega) (by omega) hu1 hu2 d2 (KeepsBut.refl _ _) (Nat.le_refl _)
    cases one with
    | false =>
      simp [g732, hs.cells, hs.cell, fillL, upd, e1, hx1.cells, hx1.cell, hy1.cells, hy1.cell, hz1.cells, hz1.cell, hx1.len, e2, o2.sl.len, h0, e4, resV, mkV]
      exact r1 rfl
    | true =>
      obtain ⟨v', h5, e5, r3⟩ := r2 rfl
      simp [g732, hs.cells, hs.cell, fillL, upd, e1, hx1.cells, hx1.cell, hy1.cells, hy1.cell, hz1.cells, hz1.cell, hx1.len, e2, o2.sl.len, h0, e4, rdS_last, e5, resV, mkV]
      exact r3
  · obtain ⟨one, h3, e3, d3, k3, l3⟩ := d2.one (by omega) 3 (by decide)
    have hpos : (0 : Int) < xs.length := by omega
    have hposn : 0 < xs.length := by omega
    cases one with
    | false =>
      obtain ⟨one, h4, e4, r1, r2⟩ := tailF xs u h3 _ (by omega) (by omega) hu1 hu2 d3 k3 (by omega)
      cases one with
      | false =>
        simp [g732, hs.cells, hs.cell, fillL, upd, e1, hx1.cells, hx1.cell, hy1.cells, hy1.cell, hz1.cells, hz1.cell, hx1.len, e2, o2.sl.len, h0, hpos, hposn, e3, e4, resV, mkV]
        exact r1 rfl
      | true =>
        obtain ⟨v', h5, e5, r3⟩ := r2 rfl
        simp [g732, hs.cells, hs.cell, fillL, upd, e1, hx1.cells, hx1.cell, hy1.cells, hy1.cell, hz1.cells, hz1.cell, hx1.len, e2, o2.sl.len, h0, hpos, hposn, e3, e4, rdS_last, e5, resV, mkV]
        exact r3
    | true =>
      obtain ⟨t, et2, ht1, ht2⟩ := o2.tailApp (by omega) hposn
      obtain ⟨one, h5, e5, r1, r2⟩ := tailF (xs.drop 1) t h3 _ (by omega) (by simp; omega) ht1 ht2 d3 k3 (by omega)
      cases one with
      | false =>
        simp [g732, hs.cells, hs.cell, fillL, upd, e1, hx1.cells, hx1.cell, hy1.cells, hy1.cell, hz1.cells, hz1.cell, hx1.len, e2, o2.sl.len, h0, hpos, hposn, e3, bounds, takeB, et2, e5, resV, mkV]
        exact r1 rfl
      | true =>
        obtain ⟨v', h6, e6, r3⟩ := r2 rfl
        simp [g732, hs.cells, hs.cell, fillL, upd, e1, hx1.cells, hx1.cell, hy1.cells, hy1.cell, hz1.cells, hz1.cell, hx1.len, e2, o2.sl.len, h0, hpos, hposn, e3, bounds, takeB, et2, e5, rdS_last, e6, resV, mkV]
        exact r3
end GL

namespace GL
open Go

theorem house_tail {H : Heap} {vb : V} {bs : List Byte} (hb : Sl H vb bs) : ∃ (x y z u : V) (no : Int) (h1 : Heap) (a1 b1 d1 a2 b2 d2 : V) (ok : Bool) (h2 h3 h4 : Heap) (x2 y2 z2 : V) (no2 r q : Int) (ok2 : Bool) (h5 h6 : Heap),
    (x.cells = [x] ∧ x.cell = true ∧ y.cells = [y] ∧ y.cell = true ∧ z.cells = [z] ∧ z.cell = true) ∧ (a1.cells = [a1] ∧ a1.cell = true ∧ b1.cells = [b1] ∧ b1.cell = true ∧ d1.cells = [d1] ∧ d1.cell = true) ∧ (a2.cells = [a2] ∧ a2.cell = true ∧ b2.cells = [b2] ∧ b2.cell = true ∧ d2.cells = [d2] ∧ d2.cell = true) ∧
    (x2.cells = [x2] ∧ x2.cell = true ∧ y2.cells = [y2] ∧ y2.cell = true ∧ z2.cells = [z2] ∧ z2.cell = true) ∧
    call p 732 [vb] H = some (.tup [.agg [vi no, x, y, z], u], h1) ∧ call p 481 [.agg [vi no, x, y, z], u] h1 = some (.tup [.agg [a1, b1, d1], .bool ok], h2) ∧ call p 480 [.agg [vi no, x, y, z], u] h2 = some (.tup [.agg [a2, b2, d2], .bool ok], h3) ∧
    call p 733 [vb] h3 = some (.tup [.agg [vi no2, x2, y2, z2], vi r, vi q], h4) ∧ call p 715 [.agg [vi no2, x2, y2, z2], vi r, vi q] h4 = some (.tup [.bool ok2, .bool ok2], h5) ∧ call p 714 [.agg [vi no2, x2, y2, z2], vi r, vi q] h5 = some (.tup [.bool ok2, .bool ok2], h6) ∧
    call p 723 [.agg [a1, b1, d1], .agg [a2, b2, d2]] h6 = some (.bool true, h6) := by
  obtain ⟨_, h1, e1, w, u, c, F, G, xs, rfl, hc, hu, hl, k1, l1⟩ := drawOutcomeBy_ok hb
  obtain ⟨_, h2, e2, o2, G2, rfl, s2, f2, k2, l2⟩ := OutcomeBy_ok hc hu.sl (by omega)
  obtain ⟨_, h3, e3, o3, G3, rfl, s3, f3, k3, l3⟩ := OutcomeByS_ok (hc.keep k2) (hu.keep k2)
  obtain ⟨_, h4, e4, w4, r, q, c4, F4, rfl, hc4, k4, l4⟩ := drawSameOutcome_ok (hb.keeps ((k1.trans k2).trans k3))
  obtain ⟨_, h5, e5, rfl, k5, l5⟩ := SameOutcome_ok hc4 r q
  obtain ⟨_, h6, e6, rfl, k6, l6⟩ := SameOutcomeS_ok (hc4.keep k5) r q
  rw [twoA_eq] at e5 e6
  have k46 := (k4.trans k5).trans k6
  have e7 := sameOutcome_same (s2.keep (k3.trans k46)) (s3.keep k46)
  obtain ⟨x, y, z, F1, F2, F3, rfl, rfl, hx, hy, hz⟩ := hc
  obtain ⟨a1, b1, d1, _, _, _, rfl, _, ga, gb, gd⟩ := s2
  obtain ⟨a2, b2, d2, _, _, _, rfl, _, ga2, gb2, gd2⟩ := s3
  obtain ⟨x2, y2, z2, _, _, _, rfl, _, hx2, hy2, hz2⟩ := hc4
  exact ⟨x, y, z, u, c.heard.no, h1, a1, b1, d1, a2, b2, d2, _, h2, h3, h4, x2, y2, z2, c4.heard.no, r, q, _, h5, h6, ⟨hx.cells, hx.cell, hy.cells, hy.cell, hz.cells, hz.cell⟩, ⟨ga.cells, ga.cell, gb.cells, gb.cell, gd.cells, gd.cell⟩, ⟨ga2.cells, ga2.cell, gb2.cells, gb2.cell, gd2.cells, gd2.cell⟩, ⟨hx2.cells, hx2.cell, hy2.cells, hy2.cell, hz2.cells, hz2.cell⟩, e1, e2, e3, e4, e5, e6, e7⟩

set_option maxRecDepth 20000 in
theorem FnHouse_ok {h : Heap} {va vb : V} {as bs : List Byte} (ha : Sl h va as) (hb : Sl h vb bs) : ∃ r h', call p 730 [va, vb] h = some (r, h') ∧ r = .bool true := by
  refine go (fn := g730) rfl rfl fun R hR => ?_
  by_cases hbig : (1048576 : Int) < IntKind.i64.wrap ((as.length : Int) + bs.length)
  · simp [g730, ha.len, hb.len, hbig]
    exact hR _ _ rfl
  · obtain ⟨w, h1, e1, c, F, hc, k1, l1⟩ := drawIsSerial_ok ha
    obtain ⟨_, h2, e2, rfl, k2, l2⟩ := IsSerial_ok hc
    obtain ⟨_, h3, e3, rfl, k3, l3⟩ := IsSerialS_ok (hc.keep k2)
    obtain ⟨_, h4, e4, o4, G4, rfl, s4, _, k4, l4⟩ := LinksOf_ok (hc.keep (k2.trans k3))
    obtain ⟨_, h5, e5, o5, G5, rfl, s5, k5, l5⟩ := LinksOfS_ok (hc.keep ((k2.trans k3).trans k4))
    have e6 := sameRows_same (s4.keep k5) s5
    have k25 := ((k2.trans k3).trans k4).trans k5
    obtain ⟨_, h7, e7, rfl, k7, l7⟩ := GoodHouse_ok (hc.keep k25)
    have kA := k25.trans k7
    have hc7 := hc.keep kA
    have s4' := s4.keep (k5.trans k7)
    obtain ⟨x, y, z, F1, F2, F3, rfl, rfl, hx, hy, hz⟩ := hc
    cases hbb : houseB c with
    | false =>
      have hser : serR c = false := by simp [serR, hbb]
      rw [hbb, hser] at e2 e3
      rw [hbb] at e4 e5 e7
      obtain ⟨x9, y9, z9, u, no, t1, a1, b1, d1, a2, b2, d2, ok, t2, t3, t4, x2, y2, z2, no2, r, q, ok2, t5, t6, ⟨q1, q2, q3, q4, q5, q6⟩, ⟨p1, p2, p3, p4, p5, p6⟩, ⟨w1, w2, w3, w4, w5, w6⟩, ⟨v1, v2, v3, v4, v5, v6⟩, f1, f2, f3, f4, f5, f6, f7⟩ := house_tail (hb.keeps (k1.trans kA))
      cases ok2 <;> simp [g730, ha.len, hb.len, hbig, fillL, upd, hx.cells, hx.cell, hy.cells, hy.cell, hz.cells, hz.cell, e1, e2, e3, e4, e5, e6, e7, q1, q2, q3, q4, q5, q6, p1, p2, p3, p4, p5, p6, w1, w2, w3, w4, w5, w6, v1, v2, v3, v4, v5, v6, f1, f2, f3, f4, f5, f6, f7] <;> exact hR _ _ rfl
    | true =>
      have hser := serR_true hbb
      rw [hbb, hser] at e2 e3
      rw [hbb] at e4 e5 e7
      obtain ⟨hg, hlen⟩ := links_good hbb
      have hfc := groupsL_facts hg
      have hgd := (houseB_facts hbb).1
      obtain ⟨hno1, hdl, _⟩ := goodH_facts hgd
      obtain ⟨_, h8, e8, o8, rfl, t8, k8, l8⟩ := WholeOrder_ok s4'
      rw [hg] at e8
      have hwr : whR (linksR c.heard c.groups) = (groupsL (linksR c.heard c.groups)).flatten := by rw [whR, if_pos hg]
      rw [hwr] at t8
      have hser2 := ser_in hbb
      obtain ⟨_, h9, e9, o9, G9, rfl, s9, f9, k9, l9⟩ := OutcomeBy_ok (hc7.keep k8) t8 (by omega)
      have hob : outB c (groupsL (linksR c.heard c.groups)).flatten = true := by
        simp only [outB, hbb, Bool.true_and, onceB, decide_eq_true_eq]
        exact ⟨fun x hx => by have := hser2.1 x hx; omega, hfc.1⟩
      rw [hob] at e9
      have hor : outR c (groupsL (linksR c.heard c.groups)).flatten = serO c := by rw [outR, if_pos hob, serO]
      rw [hor] at s9
      obtain ⟨nn, hnn, e10⟩ := numberOf_eq ((hb.keeps (((k1.trans kA).trans k8).trans k9)))
      have hne0 : c.heard.no ≠ 0 := by omega
      obtain ⟨pl, hpl, hpl2, hpl3⟩ : ∃ pl : Int, ((nn : Int).tmod c.heard.no) = pl ∧ 0 ≤ pl ∧ pl < c.heard.no := ⟨_, rfl, Int.tmod_nonneg _ (by omega), Int.tmod_lt_of_pos _ (by omega)⟩
      have wpl : IntKind.i64.wrap pl = pl := by rw [IntWalk.i64_in] <;> omega
      have hpq : placeQ c pl = true := by simp only [placeQ, hbb, Bool.true_and, decide_eq_true_eq]; omega
      obtain ⟨_, h11, e11, o11, G11, rfl, s11, f11, k11, l11⟩ := OutcomeAt_ok ((hc7.keep k8).keep k9) pl
      rw [hpq] at e11
      obtain ⟨a1, a2, a3⟩ := at_serial hpq
      have s9' := s9.keep k11
      generalize atR c pl = A at *
      generalize serO c = B at *
      obtain ⟨ax, ay, az, _, _, _, rfl, _, gx, gy, gz⟩ := s9'
      obtain ⟨cx, cy, cz, _, _, _, rfl, _, ix, iy, iz⟩ := s11
      have e12 := sameInts_eq iy.sl gy.sl
      have e13 := sameInts_eq iz.sl gz.sl
      rw [decide_eq_true a1] at e12
      rw [decide_eq_true a2] at e13
      have ixl := ix.len
      rw [a3] at ixl
      obtain ⟨x9, y9, z9, u, no, t1, a1, b1, d1, a2, b2, d2, ok, t2, t3, t4, x2, y2, z2, no2, r, q, ok2, t5, t6, ⟨q1, q2, q3, q4, q5, q6⟩, ⟨p1, p2, p3, p4, p5, p6⟩, ⟨w1, w2, w3, w4, w5, w6⟩, ⟨v1, v2, v3, v4, v5, v6⟩, f1, f2, f3, f4, f5, f6, f7⟩ := house_tail (hb.keeps ((((k1.trans kA).trans k8).trans k9).trans k11))
      cases ok2 <;> simp [g730, ha.len, hb.len, hbig, fillL, upd, hx.cells, hx.cell, hy.cells, hy.cell, hz.cells, hz.cell, e1, e2, e3, e4, e5, e6, e7, e8, e9, e10, hne0, hpl, wpl, e11, gx.cells, gx.cell, gy.cells, gy.cell, gz.cells, gz.cell, ix.cells, ix.cell, iy.cells, iy.cell, iz.cells, iz.cell, e12, e13, ixl, hx.len, q1, q2, q3, q4, q5, q6, p1, p2, p3, p4, p5, p6, w1, w2, w3, w4, w5, w6, v1, v2, v3, v4, v5, v6, f1, f2, f3, f4, f5, f6, f7] <;> exact hR _ _ rfl
end GL

