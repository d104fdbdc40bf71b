import Derived.ChangeArms
import Derived.IntWalk
import Derived.WideShapes
import Derived.Test.YtgmjabiadkailaaGreatGuFnSoFarB
/- What the functions of the law do, on the machine. -/
set_option linter.unusedSimpArgs false
set_option linter.unusedVariables false
set_option linter.unnecessarySimpa false
namespace GL
open Go

theorem heard_deeds {h0 h g : Heap} {N : Nat} (d : DC h0 h N) (hN : N < 2 ^ 56) (kb : KeepsBut h0.length g h) (hl : g.length ≤ h.length) (hc : h0.length < g.length) (n : Nat) (hn : n ≤ 9) (no : Int) (s0 : S) (K : Ex → S → Prop) (g0 : s0.σ 0 = .v (.ptr h0.length 0)) (g4 : s0.σ 4 = .v (vi n)) (g5 : s0.σ 5 = .v (vi 0)) (g3 : s0.σ 3 = .lp 3 1 0) (gL : s0.L 3 = (1, [vi no, .nils, .nils])) (gh : s0.h = h)
    (hK : ∀ s u (xs : List Dd), (∀ k, k ∉ [5, 20, 21, 22, 23, 24, 25, 26, 27, 28, 29, 30, 31, 32, 33, 34] → s.σ k = s0.σ k) → s.L 2 = s0.L 2 → s.L 3 = (1, [vi no, u, .nils]) → Out g.length s.h u xs → xs.length = n → DC h0 s.h (N + 40) → KeepsBut h0.length g s.h → h.length ≤ s.h.length → K (.exit 0) s) : Wc p (.loop g528_0) s0 K := by
  refine Wc_upM (M := [5, 20, 21, 22, 23, 24, 25, 26, 27, 28, 29, 30, 31, 32, 33, 34]) rfl n (fun i s => i ≤ n ∧ s.σ 5 = .v (vi i) ∧ s.L 2 = s0.L 2 ∧ (∃ (u : V) (xs : List Dd), s.L 3 = (1, [vi no, u, .nils]) ∧ Out g.length s.h u xs ∧ xs.length = i) ∧ DC h0 s.h (N + 4 * i) ∧ KeepsBut h0.length g s.h ∧ h.length ≤ s.h.length) 0
    ⟨by omega, by simp [g5], rfl, ⟨.nils, [], gL, by rw [gh]; exact Out.nil hl, rfl⟩, by simpa [gh] using d, by rw [gh]; exact kb, by rw [gh]; exact Nat.le_refl _⟩ fun i s ⟨gi, g5', gL2, ⟨u, xs, hL, ho, hxl⟩, dc, kb, hl'⟩ hM J hJ => ?_
  by_cases hi : i < n
  · obtain ⟨a, h1, e1, ha, d1, k1, l1⟩ := dc.pick (by omega) 3 (by decide)
    obtain ⟨b, h2, e2, d2, k2, l2⟩ := d1.one (by omega) 2 (by decide)
    have kb2 := (kb.trans k1).trans k2
    have o2 : Out g.length h2 u xs := ho.keeps (k1.P.trans k2.P) (fun j hj e => by have := (ho.ge hj).1; omega) (by omega)
    obtain ⟨v', h3, e3, o3, d3, k3, l3⟩ := Out.draw (k := 2) (bytes := 16) d2 kb2 o2 (Nat.le_refl _) hc ⟨(a : Int), b⟩ (by omega) rfl (by decide) rfl
    simp [Flat.cells] at e3
    have w1 : IntKind.i64.wrap ((i : Int) + 1) = i + 1 := by rw [IntWalk.i64_in] <;> omega
    have uc := o3.sl.cell
    have ucs := o3.sl.cells
    simp [g528_0, hM, g0, g4, g5', g3, hL, hi, upd, e1, e2, fillL, rdS_last, e3, w1, uc, ucs]
    exact hJ _ hi ⟨hi, by simp, by simp [upd, gL2], ⟨v', xs ++ [⟨(a : Int), b⟩], by simp [upd], o3, by simp [hxl]⟩, d3.mono (by omega), k3, by show h.length ≤ h3.length; omega⟩
  · have : i = n := by omega
    subst this
    simp [g528_0, hM, g4, g5']
    exact hK _ u xs (fun k hk => by
      have h9 := hM k hk
      simp only [upd]
      repeat rw [if_neg (fun e => by subst e; simp at hk)]
      exact h9) gL2 hL ho hxl (dc.mono (by omega)) kb hl'
theorem heard_rows {h0 h g : Heap} {N : Nat} (d : DC h0 h N) (hN : N < 2 ^ 55) (kb : KeepsBut h0.length g h) (hl : g.length ≤ h.length) (hc : h0.length < g.length) (n : Nat) (hn : n ≤ 9) (no : Nat) (hno : no ≤ 5) {u v6 : V} {xs : List Dd} {base : List Int} (ou : Out g.length h u xs) (ob : Out g.length h v6 base) (hbl : base.length = n)
    (s0 : S) (K : Ex → S → Prop) (g0 : s0.σ 0 = .v (.ptr h0.length 0)) (g4 : s0.σ 4 = .v (vi n)) (g6 : s0.σ 6 = .v v6) (g7 : s0.σ 7 = .v (vi 0)) (g3 : s0.σ 3 = .lp 3 1 0) (gL : s0.L 3 = (1, [vi no, u, .nils])) (gh : s0.h = h)
    (hK : ∀ s r (rs : List (List Int)) (G : List Nat), (∀ k, k ∉ [7, 8, 38, 39, 40, 41, 42, 43, 44, 45, 46, 47, 48, 49, 50, 51, 52, 53, 54, 55, 56, 57, 58] → s.σ k = s0.σ k) → s.L 2 = s0.L 2 → s.L 3 = (1, [vi no, u, r]) → OdF h.length s.h r rs G → Out g.length s.h u xs → rs.length = no → (∀ l ∈ rs, l.length = n) → DC h0 s.h (N + 400) → KeepsBut h0.length g s.h → h.length ≤ s.h.length → K (.exit 2) s) : Wc p (.loop g528_1) s0 K := by
  refine Wc_upM (M := [7, 8, 38, 39, 40, 41, 42, 43, 44, 45, 46, 47, 48, 49, 50, 51, 52, 53, 54, 55, 56, 57, 58]) rfl no (fun i s => i ≤ no ∧ s.σ 7 = .v (vi i) ∧ s.L 2 = s0.L 2 ∧ (∃ (r : V) (rs : List (List Int)) (G : List Nat), s.L 3 = (1, [vi no, u, r]) ∧ OdF h.length s.h r rs G ∧ rs.length = i ∧ ∀ l ∈ rs, l.length = n) ∧ DC h0 s.h (N + 70 * i) ∧ KeepsBut h0.length h s.h ∧ h.length ≤ s.h.length) 0
    ⟨by omega, by simp [g7], rfl, ⟨.nils, [], [], gL, by rw [gh]; exact OdF.nil (Nat.le_refl _), rfl, by simp⟩, by simpa [gh] using d, by rw [gh]; exact KeepsBut.refl _ _, by rw [gh]; exact Nat.le_refl _⟩ fun i s ⟨gi, g7', gL2, ⟨r, rs, G, hL, ho, hrl, hrn⟩, dc, kb', hl'⟩ hM J hJ => ?_
  have hc2 : h0.length < h.length := by omega
  by_cases hi : i < no
  · have w1 : IntKind.i64.wrap ((i : Int) + 1) = i + 1 := by rw [IntWalk.i64_in] <;> omega
    have ob1 : Out g.length s.h v6 base := ob.keeps kb'.P (fun j hj e => by have := (ob.ge hj).1; omega) hl'
    have k1 : Keeps s.h (s.h ++ [⟨.own, []⟩]) := Keeps.append _ _
    have o1 : Out s.h.length (s.h ++ [⟨.own, []⟩]) (.slice s.h.length 0 0 (.k 0)) ([] : List Int) := Out.empty (Nat.le_refl _) (by simp)
    obtain ⟨ys, v3, h3, er3, e3, o3, k3, l3⟩ := o1.appS (ob1.sl.keeps k1) (bytes := 8) (by decide) (by simp; omega) (k := 1) rfl (n := base.length) rfl
    have kk3 : Keeps s.h h3 := o1.far k1 k3 (Nat.le_refl _)
    simp at l3
    obtain ⟨b, h4, e4, d4, k4, l4⟩ := (dc.keeps kk3).one (by omega) 3 (by decide)
    have o4 : Out s.h.length h4 v3 ([] ++ base) := o3.keeps k4.P (fun j hj e => by have := (o3.ge hj).1; omega) (by omega)
    have kb4 : KeepsBut h0.length s.h h4 := (kk3.but _).trans k4
    have hbl6 := ob1.sl.len
    -- with the row at hand
    have fin : ∀ (h5 : Heap) (v8 : V) (row : List Int), Out s.h.length h5 v8 row → row.length = n → DC h0 h5 (N + 70 * i + 62) → KeepsBut h0.length s.h h5 → s.h.length ≤ h5.length →
        ∃ v9 h6 G', appH 1 24 r 1 [v8] (h5 ++ [⟨.own, [v8]⟩]) = some (v9, h6) ∧ OdF h.length h6 v9 (rs ++ [row]) G' ∧ DC h0 h6 (N + 70 * (i + 1)) ∧ KeepsBut h0.length h h6 ∧ h.length ≤ h6.length ∧ v9.cell = true ∧ v9.cells = [v9] := fun h5 v8 row o8 hr d5 k5 l5 => by
      obtain ⟨F8, s8, f8⟩ := o8.fr
      obtain ⟨v9, h6, e6, o6, d6, k6, l6⟩ := OdF.draw d5 (kb'.trans k5) ho k5 l5 (Nat.le_refl _) hc2 f8 (x := row) (cs := [v8]) ⟨v8, rfl, s8⟩ (by omega) (k := 1) (bytes := 24) rfl (by decide)
      obtain ⟨F9, s9, _⟩ := o6.fresh
      exact ⟨v9, h6, _, e6, o6, d6.mono (by omega), k6, by omega, s9.cell, s9.cells⟩
    cases b with
    | true =>
      obtain ⟨v9, h6, G', e6, o6, d6, k6, l6, c6, cc6⟩ := fin h4 v3 _ o4 (by simpa using hbl) (d4.mono (by omega)) kb4 (by omega)
      have c4 := o4.sl.cell
      have cc4 := o4.sl.cells
      simp [g528_1, hM, g0, g4, g6, g7', g3, hL, hi, upd, hbl6, er3, e3, e4, fillL, rdS_last, c4, cc4, e6, w1, c6, cc6]
      exact hJ _ hi ⟨hi, by simp, by simp [upd, gL2], ⟨v9, _, G', by simp [upd], o6, by simp [hrl], fun l hl => by
        rcases List.mem_append.1 hl with h9 | h9
        · exact hrn l h9
        · simp at h9; subst h9; exact hbl⟩, d6, k6, l6⟩
    | false =>
      obtain ⟨v8, h5, e5, row, o5, hrow, d5, k5, l5⟩ := d4.shuffled (by omega) n (by omega)
      obtain ⟨v9, h6, G', e6, o6, d6, k6, l6, c6, cc6⟩ := fin h5 v8 row (o5.mono (by omega)) hrow (d5.mono (by omega)) (kb4.trans k5) (by omega)
      have c5 := o5.sl.cell
      have cc5 := o5.sl.cells
      simp [g528_1, hM, g0, g4, g6, g7', g3, hL, hi, upd, hbl6, er3, e3, e4, e5, fillL, rdS_last, c5, cc5, e6, w1, c6, cc6]
      exact hJ _ hi ⟨hi, by simp, by simp [upd, gL2], ⟨v9, _, G', by simp [upd], o6, by simp [hrl], fun l hl => by
        rcases List.mem_append.1 hl with h9 | h9
        · exact hrn l h9
        · simp at h9; subst h9; exact hrow⟩, d6, k6, l6⟩
  · have : i = no := by omega
    subst this
    have ou1 : Out g.length s.h u xs := ou.keeps kb'.P (fun j hj e => by have := (ou.ge hj).1; omega) hl'
    simp [g528_1, hM, g3, g7', hL, upd]
    exact hK _ r rs G (fun k hk => by
      have h9 := hM k hk
      simp only [upd]
      repeat rw [if_neg (fun e => by subst e; simp at hk)]
      exact h9) gL2 hL ho ou1 hrl hrn (dc.mono (by omega)) (kb.trans kb') hl'
end GL

namespace GL
open Go

def tail528 : GL.Code := .seq (.seq (.reg 0 [⟨0, some 5, none, .p .mov, [.c (.int .i64 0)]⟩])
   (.block 0 (.loop g528_0)))
   (.seq (.reg 0 [⟨0, some 35, none, .p .mov, [.t 0]⟩,
    ⟨1, some 36, none, .p .mov, [.t 4]⟩,
    ⟨2, some 37, none, .e .call [] [], [.f 567, .t 35, .t 36]⟩,
    ⟨3, some 6, none, .p .mov, [.t 37]⟩])
   (.seq (.seq (.reg 0 [⟨0, some 7, none, .p .mov, [.c (.int .i64 0)]⟩])
   (.block 2 (.loop g528_1)))
   (.seq (.seq (.reg 0 [⟨0, some 59, none, .p .mov, [.t 4]⟩,
    ⟨1, some 60, none, .p (.bin .gtr), [.t 59, .c (.int .i64 0)]⟩,
    ⟨2, some 61, none, .p .mov, [.t 60]⟩,
    ⟨3, some 62, some (61, true), .p .mov, [.t 0]⟩,
    ⟨4, some 63, some (61, true), .e .call [] [], [.f 92, .t 62, .c (.int .i64 30)]⟩,
    ⟨5, some 64, none, .p .pick, [.t 61, .t 63, .c (.bool false)]⟩])
   (.cond (.t 64) (.reg 0 [⟨0, some 65, none, .p (.faddr 2), [.t 3]⟩,
    ⟨1, some 66, none, .l (.load 3 false 1), [.t 65]⟩,
    ⟨2, some 67, none, .p (.idx 1), [.t 66, .c (.int .i64 0)]⟩,
    ⟨3, some 68, none, .r (.load false 1) true, [.t 67]⟩,
    ⟨4, some 69, none, .p .mov, [.t 0]⟩,
    ⟨5, some 70, none, .p .mov, [.t 4]⟩,
    ⟨6, some 71, none, .p (.bin .add), [.t 70, .c (.int .i64 2)]⟩,
    ⟨7, some 72, none, .e .call [3] [], [.f 91, .t 69, .t 71]⟩,
    ⟨8, some 73, none, .p (.bin .sub), [.t 72, .c (.int .i64 1)]⟩,
    ⟨9, some 74, none, .p (.idx 1), [.t 68, .c (.int .i64 0)]⟩,
    ⟨10, none, none, .e (.store 1) [] [], [.t 74, .t 73]⟩])
   (.skip)))
   (.seq (.reg 0 [⟨0, some 75, none, .l (.load 3 true 3), [.t 3]⟩,
    ⟨1, none, none, .l (.store 2 3), [.t 2, .t 75]⟩])
   (.ret)))))
theorem SdF.vB1 {α : Type} [Flat α] {h : Heap} {v : V} {xs : List α} {F : List Nat} (hs : SdF h v xs F) {b : Nat} (hb : b ∈ F) : vB v b := by
  have e := hs.flatF.1 b hb
  rcases hs with ⟨_, ⟨rfl, rfl, rfl⟩ | ⟨c, off, cap, rfl, _, _⟩⟩
  · simp at hb
  · simp only [bOf] at e; subst e; exact ⟨_, _, _, rfl⟩
theorem heard_tail {h0 h g : Heap} {N : Nat} (d : DC h0 h N) (hN : N < 2 ^ 54) (kb : KeepsBut h0.length g h) (hl : g.length ≤ h.length) (hc : h0.length < g.length) (n : Nat) (hn : n ≤ 9) (no : Nat) (hno : 3 ≤ no ∧ no ≤ 5) (s0 : S) (K : Ex → S → Prop) (g0 : s0.σ 0 = .v (.ptr h0.length 0)) (g4 : s0.σ 4 = .v (vi n)) (g2 : s0.σ 2 = .lp 2 1 0) (g3 : s0.σ 3 = .lp 3 1 0) (gL2 : s0.L 2 = (1, [.int .i64 0, .nils, .nils])) (gL : s0.L 3 = (1, [vi no, .nils, .nils])) (gh : s0.h = h)
    (hK : ∀ s x y (c : Hd) G, s.σ 2 = .lp 2 1 0 → s.L 2 = (1, [vi c.no, x, y]) → HdV s.h (.agg [vi c.no, x, y]) c G → c.no = no → c.deeds.length ≤ 9 → (∀ b ∈ G, g.length ≤ b) → DC h0 s.h (N + 600) → KeepsBut h0.length g s.h → g.length ≤ s.h.length → K .ret s) : Wc p tail528 s0 K := by
  obtain ⟨σ, L, H, wt, fl, base⟩ := s0
  simp only at g0 g4 g2 g3 gL2 gL gh
  subst gh
  simp [tail528]
  refine heard_deeds (g := g) d (by omega) kb hl hc n hn no _ _ (by simp [g0]) (by simp [g4]) (by simp) (by simp [g3]) gL rfl fun s u xs sM sL2 sL so sxl sd skb sl => ?_
  have s0' : s.σ 0 = .v (.ptr h0.length 0) := by rw [sM 0 (by decide)]; simp [g0]
  have s2' : s.σ 2 = .lp 2 1 0 := by rw [sM 2 (by decide)]; simp [g2]
  have s3' : s.σ 3 = .lp 3 1 0 := by rw [sM 3 (by decide)]; simp [g3]
  have s4' : s.σ 4 = .v (vi n) := by rw [sM 4 (by decide)]; simp [g4]
  obtain ⟨v6, h1, e1, bs, ob, hbl, d1, k1, l1⟩ := sd.shuffled (by omega) n (by omega)
  have ou1 : Out g.length h1 u xs := so.keeps k1.P (fun j hj e => by have := (so.ge hj).1; omega) (by omega)
  simp [s0', s4', e1]
  refine heard_rows (g := g) d1 (by omega) (skb.trans k1) (by omega) hc n hn no (by omega) ou1 (ob.mono (by omega)) hbl _ _ (by simp [s0']) (by simp [s4']) (by simp) (by simp) (by simp [s3']) (by simpa using sL) rfl fun t r rs G tM tL2 tL to tu trl trn td tkb tl => ?_
  have t0' : t.σ 0 = .v (.ptr h0.length 0) := by rw [tM 0 (by decide)]; simp [s0']
  have t2' : t.σ 2 = .lp 2 1 0 := by rw [tM 2 (by decide)]; simp [s2']
  have t3' : t.σ 3 = .lp 3 1 0 := by rw [tM 3 (by decide)]; simp [s3']
  have t4' : t.σ 4 = .v (vi n) := by rw [tM 4 (by decide)]; simp [s4']
  have tL2' : t.L 2 = (1, [.int .i64 0, .nils, .nils]) := by rw [tL2]; simp [sL2, gL2]
  obtain ⟨F1, sF1, fF1⟩ := tu.fr
  obtain ⟨F2, sF2, fF2⟩ := to.fresh
  have ge1 : ∀ b ∈ F1, g.length ≤ b := fF1.ge
  have ge2 : ∀ b ∈ F2, g.length ≤ b := fun b hb => by have := fF2.ge b hb; omega
  have geA : ∀ b ∈ F1 ++ F2, g.length ≤ b := fun b hb => by
    rcases List.mem_append.1 hb with h | h
    · exact ge1 b h
    · exact ge2 b h
  have uc := sF1.cell
  have rc := sF2.cell
  by_cases hn0 : 0 < n
  · have hn0' : (0 : Int) < n := by omega
    obtain ⟨b, h2, e2, d2, k2, l2⟩ := td.one (by omega) 30 (by decide)
    have kb2 := tkb.trans k2
    have sF1' := sF1.keeps (k2.P.mono fun b hb => by have := ge1 b hb; omega)
    have sF2' := sF2.keeps (k2.P.mono fun b hb => by have := ge2 b hb; omega)
    cases b with
    | false =>
      simp [t0', t2', t3', t4', hn0, e2, tL, tL2', upd, uc, rc]
      exact hK _ u r ⟨no, xs, rs⟩ (F1 ++ F2) (by simp [t2']) (by simp [upd]) ⟨u, r, F1, F2, rfl, rfl, sF1', sF2'⟩ rfl (by simp; omega) geA (d2.mono (by omega)) kb2 (by show g.length ≤ h2.length; omega)
    | true =>
      have w2 : IntKind.i64.wrap ((n : Int) + 2) = (n + 2 : Nat) := by rw [IntWalk.i64_in] <;> omega
      obtain ⟨m, h3, e3, hm, d3, k3, l3⟩ := d2.pick (by omega) ((n + 2 : Nat) : Int) (by omega)
      have kb3 := kb2.trans k3
      have sF1'' := sF1'.keeps (k3.P.mono fun b hb => by have := ge1 b hb; omega)
      have hrl : 0 < rs.length := by omega
      have sF2'' := sF2'.keeps (k3.P.mono fun b hb => by have := ge2 b hb; omega)
      have fr3 := (fF2.keeps (k2.P.mono fun b hb => by have := ge2 b hb; omega)).keeps (k3.P.mono fun b hb => by have := ge2 b hb; omega)
      have iw := sF2'.idx 1 .i64 0 hrl
      have w3 : IntKind.i64.wrap ((m : Int) - 1) = (m : Int) - 1 := by rw [IntWalk.i64_in] <;> omega
      obtain ⟨cs2, X2, ld2, rep2, hX2, nX2, hbF, hfin⟩ := sF2''.inner fr3.nodup hrl
      obtain ⟨q, rfl, hq⟩ := rep2
      have ld3 : rdH h3 (bOf r) (oOf r) 1 = some [q] := by simpa [Data.sz] using ld2
      obtain ⟨q', X2', ld2', hq', _⟩ := sF2'.loadL 0 hrl
      -- the same cell, before and after
      have ld4 : rdH h2 (bOf r) (oOf r) 1 = some [q'] := by simpa using ld2'
      have hqq : q' = q := by
        have hne : bOf r ≠ h0.length := by have := ge2 _ hbF; omega
        have : rdH h3 (bOf r) (oOf r) 1 = some [q'] := by
          unfold rdH at ld4 ⊢
          split at ld4
          case h_2 => cases ld4
          rename_i blk hblk
          split at ld4
          case isTrue => cases ld4
          rename_i hlv
          rw [k3 _ _ hne hblk hlv]
          simp only [hlv, if_false]; exact ld4
        rw [ld3] at this
        injection this with this
        injection this with this
        exact this.symm
      subst hqq
      have hr0 : (rs[0]).length = n := trn _ (List.getElem_mem hrl)
      have hr0' : 0 < (rs[0]).length := by omega
      obtain ⟨hXa, hXb, hXc⟩ := hq.flatF
      have hbq : bOf q' ∈ X2 := by rw [hXc (fun e => by rw [e] at hr0'; simp at hr0')]; simp
      have ownq : OwnB h3 (bOf q') := fr3.own _ (hX2 _ hbq).1
      obtain ⟨h4, e4, hq4, k4, l4, o4⟩ := hq.putF (i := 0) ownq hr0' (x' := (m : Int) - 1) (o := 0) (ys := [vi ((m : Int) - 1)]) (by simp [Flat.cells, lay])
      simp [Flat.sz] at e4
      have iq := hq.idx 1 .i64 0 hr0'
      simp at iq iw
      have kX : KeepsP (fun b => b ∉ X2) h3 h4 := k4.mono fun b hb e => hb (by rw [e]; exact hbq)
      have sR := hfin h4 (rs[0].set 0 ((m : Int) - 1)) kX ⟨q', rfl, hq4⟩
      have nF1 : ∀ b ∈ F1, b ≠ bOf q' := fun b hb e => by
        have h1 := fF2.ge _ (hX2 _ hbq).1
        have h2 := (ou1.ge (sF1.vB1 hb)).2
        omega
      have sF14 := sF1''.keeps (k4.mono nF1)
      have hql : h0.length ≠ bOf q' := by have := ge2 _ (hX2 _ hbq).1; omega
      have d4 : DC h0 h4 (N + 600) := (d3.mono (by omega)).far k4 fun j hj e => by have := ge2 _ (hX2 _ hbq).1; omega
      have kb4 : KeepsBut h0.length g h4 := kb3.far k4 fun j hj _ e => by have := ge2 _ (hX2 _ hbq).1; omega
      have hst : rdH h2 (bOf r) (oOf r) 1 = some [q'] := ld4
      simp [t0', t2', t3', t4', hn0, e2, tL, tL2', upd, uc, rc, iw, ld4, w2, e3, ld3, stable, w3, iq, e4, -Int.natCast_add]
      exact hK _ u r ⟨no, xs, rs.set 0 (rs[0].set 0 ((m : Int) - 1))⟩ (F1 ++ F2) (by simp [t2']) (by simp [upd]) ⟨u, r, F1, F2, rfl, rfl, sF14, sR⟩ rfl (by simp; omega) geA d4 kb4 (by show g.length ≤ h4.length; omega)
  · have hnn : n = 0 := by omega
    subst hnn
    simp [t0', t2', t3', t4', tL, tL2', upd, uc, rc]
    exact hK _ u r ⟨no, xs, rs⟩ (F1 ++ F2) (by simp [t2']) (by simp [upd]) ⟨u, r, F1, F2, rfl, rfl, sF1, sF2⟩ rfl (by simp; omega) geA (td.mono (by omega)) tkb (by show g.length ≤ t.h.length; omega)
end GL

namespace GL
open Go

theorem DC.heard {h0 h : Heap} {N : Nat} (d : DC h0 h N) (hN : N < 2 ^ 53) : ∃ v h', call p 528 [.ptr h0.length 0] h = some (v, h') ∧ ∃ (c : Hd) (G : List Nat), HdV h' v c G ∧ (c.no = 3 ∨ c.no = 5) ∧ c.deeds.length ≤ 9 ∧ (∀ b ∈ G, h.length ≤ b) ∧ DC h0 h' (N + 700) ∧ KeepsBut h0.length h h' ∧ h.length ≤ h'.length := by
  have hlt := d.lt
  obtain ⟨x, h1, e1, hx, d1, k1, l1⟩ := d.amongL (by omega) [3, 3, 5] 3 rfl [vi 3, vi 3, vi 5] rfl (.k 3) (by decide) (by decide)
  obtain ⟨no, rfl, hno, hno2⟩ : ∃ n : Nat, x = n ∧ (n = 3 ∨ n = 5) ∧ (3 ≤ n ∧ n ≤ 5) := by
    simp at hx
    rcases hx with rfl | rfl
    · exact ⟨3, rfl, .inl rfl, by omega, by omega⟩
    · exact ⟨5, rfl, .inr rfl, by omega, by omega⟩
  obtain ⟨a, h2, e2, ha, d2, k2, l2⟩ := d1.pick (by omega) 7 (by decide)
  obtain ⟨b, h3, e3, d3, k3, l3⟩ := d2.one (by omega) 20 (by decide)
  have kb3 := (k1.trans k2).trans k3
  refine go (fn := g528) rfl rfl fun R hR => ?_
  show Wc p (.seq _ (.seq _ (.seq _ (.seq _ tail528)))) _ _
  have fin : ∀ (s : S) (x y : V) (c : Hd) (G : List Nat) , s.σ 2 = .lp 2 1 0 → s.L 2 = (1, [vi c.no, x, y]) → HdV s.h (.agg [vi c.no, x, y]) c G → c.no = no → c.deeds.length ≤ 9 → (∀ b ∈ G, h.length ≤ b) → DC h0 s.h (N + 700) → KeepsBut h0.length h s.h → h.length ≤ s.h.length → finK g528.res (fun r => R r.1 r.2) .ret s := fun s x y c G g2 gL hc hcn hd hG dd kb hl => by
    simp [g528, g2, gL, resV, mkV]
    exact hR _ _ ⟨c, G, hc, by rw [hcn]; omega, hd, hG, dd, kb, hl⟩
  cases b with
  | false =>
    simp [g528, fillL, upd, e1, e2, e3]
    refine heard_tail (g := h) d3 (by omega) kb3 (by omega) hlt a (by omega) no hno2 _ _ (by simp) (by simp) (by simp) (by simp) (by simp [upd]) (by simp [upd]) rfl fun s x y c G g2 gL hc hcn hd hG dd kb hl => ?_
    exact fin s x y c G g2 gL hc hcn hd hG (dd.mono (by omega)) kb hl
  | true =>
    obtain ⟨m, h4, e4, hm, d4, k4, l4⟩ := d3.pick (by omega) 2 (by decide)
    have w : IntKind.i64.wrap (8 + (m : Int)) = (8 + m : Nat) := by rw [IntWalk.i64_in] <;> omega
    simp [g528, fillL, upd, e1, e2, e3, e4, w, -Int.natCast_add]
    refine heard_tail (g := h) d4 (by omega) (kb3.trans k4) (by omega) hlt (8 + m) (by omega) no hno2 _ _ (by simp) (by simp) (by simp) (by simp) (by simp [upd]) (by simp [upd]) rfl fun s x y c G g2 gL hc hcn hd hG dd kb hl => ?_
    exact fin s x y c G g2 gL hc hcn hd hG (dd.mono (by omega)) kb hl
/-- some places in a row, beginning anywhere -/
theorem groupBy568_ok {h : Heap} (n k f : Nat) (hn : n = 3 ∨ n = 5) (hk : 1 ≤ k ∧ k ≤ n) (hf : f < n) : ∃ r h', call p 568 [vi n, vi k, vi f] h = some (r, h') ∧ ∃ (o : V) (ps : List Int) (G : List Nat), r = .tup [o, .bool true] ∧ SdF h' o ps G ∧ ps.length ≤ 5 ∧ (∀ b ∈ G, h.length ≤ b) ∧ Keeps h h' ∧ h.length ≤ h'.length := by
  have e1 := l11Places_eq (n : Int) h
  have hm : manyB (n : Int) = true := by rcases hn with rfl | rfl <;> decide
  rw [hm] at e1
  have w1 : IntKind.i64.wrap ((n : Int) - 1) = (n : Int) - 1 := by rw [IntWalk.i64_in] <;> omega
  have hk2 : (1 : Int) ≤ k ∧ (k : Int) ≤ n := by omega
  have hf2 : (f : Int) ≤ (n : Int) - 1 := by omega
  refine go (fn := g568) rfl rfl fun R hR => ?_
  simp [g568, e1, hk2, w1, hf2]
  refine Wc_upM (M := [8, 9, 26, 27, 28, 29, 30, 31, 32, 33, 34, 35, 36, 37]) rfl k (fun i s => i ≤ k ∧ s.σ 9 = .v (vi i) ∧ (∃ (u : V) (ys : List Int) (G : List Nat), s.σ 8 = .v u ∧ SdF s.h u ys G ∧ ys.Pairwise (· < ·) ∧ ys.length ≤ i ∧ ∀ b ∈ G, h.length ≤ b) ∧ Keeps h s.h ∧ h.length ≤ s.h.length) 0
    ⟨by omega, by simp, ⟨.nils, [], [], by simp, .nil, by simp, by simp, by simp⟩, Keeps.refl _, Nat.le_refl _⟩ fun i s ⟨gi, g9, ⟨u, ys, G, g8, hs, hr, hl, hG⟩, hk', hl'⟩ hM J hJ => ?_
  by_cases hi : i < k
  · have w2 : IntKind.i64.wrap ((f : Int) + i) = (f + i : Nat) := by rw [IntWalk.i64_in] <;> omega
    have n0 : ¬ n = 0 := by omega
    have w4 : IntKind.i64.wrap ((i : Int) + 1) = i + 1 := by rw [IntWalk.i64_in] <;> omega
    obtain ⟨w6, h3, e5, zs, G6, s6, r6, m6, zl, hG6, k3, l3⟩ := l1Put_ok hs hr (by omega) (((f + i : Nat) : Int).tmod n)
    simp [g568_0, hM, g9, g8, hi, w2, n0, e5, w4, -Int.natCast_add]
    refine hJ _ hi ⟨hi, by simp, ⟨w6, zs, G6, by simp, s6, r6, by omega, fun b hb => ?_⟩, hk'.trans k3, by show h.length ≤ h3.length; omega⟩
    rcases hG6 b hb with h | h
    · exact hG b h
    · omega
  · have : i = k := by omega
    subst this
    simp [g568_0, hM, g9, g8]
    exact hR _ _ ⟨u, ys, G, rfl, hs, by omega, hG, hk', hl'⟩
theorem DC.group {h0 h : Heap} {N : Nat} (d : DC h0 h N) (hN : N < 2 ^ 55) (n : Nat) (hn : n = 3 ∨ n = 5) : ∃ v h', call p 529 [.ptr h0.length 0, vi n] h = some (v, h') ∧ ∃ (ps : List Int) (G : List Nat), SdF h' v ps G ∧ ps.length ≤ 5 ∧ (∀ b ∈ G, h.length ≤ b) ∧ DC h0 h' (N + 10) ∧ KeepsBut h0.length h h' ∧ h.length ≤ h'.length := by
  have t : (n : Int).tdiv 2 = (n / 2 : Nat) := by rw [Int.tdiv_eq_ediv_of_nonneg (by omega)]; omega
  have w1 : IntKind.i64.wrap ((n / 2 : Nat) : Int) = (n / 2 : Nat) := by rw [IntWalk.i64_in] <;> omega
  have w2 : IntKind.i64.wrap (((n / 2 : Nat) : Int) + 1) = (n / 2 + 1 : Nat) := by rw [IntWalk.i64_in] <;> omega
  obtain ⟨a, h1, e1, ha, d1, k1, l1⟩ := d.pick (by omega) ((n / 2 + 1 : Nat) : Int) (by omega)
  obtain ⟨b, h2, e2, hb, d2, k2, l2⟩ := d1.pick (by omega) (n : Int) (by omega)
  have w3 : IntKind.i64.wrap (((n / 2 + 1 : Nat) : Int) + a) = (n / 2 + 1 + a : Nat) := by rw [IntWalk.i64_in] <;> omega
  obtain ⟨_, h3, e3, o, ps, G, rfl, s3, hl, hG, k3, l3⟩ := groupBy568_ok (h := h2) n (n / 2 + 1 + a) b hn (by omega) (by omega)
  refine go (fn := g529) rfl rfl fun R hR => ?_
  simp [g529, t, w1, w2, e1, e2, w3, e3, -Int.natCast_add, -Int.natCast_ediv]
  exact hR _ _ ⟨ps, G, s3, hl, fun b hb => by have := hG b hb; omega, (d2.keeps k3).mono (by omega), (k1.trans k2).trans (k3.but _), by omega⟩
end GL

namespace GL
open Go

end GL

namespace GL
open Go

theorem mem_readyL {l : List (List Int)} {ds : List Int} {n : Int} : n ∈ readyL l ds ↔ n ∈ ds ∧ ∀ x ∈ reachL l n, x ∈ ds := by
  simp [readyL, List.mem_filter]
theorem nextL_congr {l : List (List Int)} {ds ds' c : List Int} (h : ∀ x, x ∈ ds ↔ x ∈ ds') : nextL l ds c = nextL l ds' c := by
  unfold nextL
  congr 1
  apply List.filter_congr
  intro x _
  congr 1
  refine propext ?_
  rw [mem_readyL, mem_readyL, h]
  exact and_congr_right fun _ => forall_congr' fun y => imp_congr_right fun _ => h y
noncomputable def outK (l : List (List Int)) (xs : List Int) : Nat → List Int
  | 0 => []
  | k + 1 => outK l xs k ++ nextL l (xs.take (k + 1)) (outK l xs k)
theorem nextL_len {l : List (List Int)} (hg : linksB l = true) (ds c : List Int) : (nextL l ds c).length ≤ l.length := by
  have := groupsL_flat hg
  exact Nat.le_trans (List.length_filter_le ..) (Nat.le_trans (List.length_filter_le ..) (by omega))
theorem mem_nextL {l : List (List Int)} {ds c : List Int} {x : Int} : x ∈ nextL l ds c ↔ x ∈ (groupsL l).flatten ∧ x ∈ readyL l ds ∧ x ∉ c := by
  simp only [nextL, List.mem_filter, decide_eq_true_eq, Bool.not_eq_true', decide_eq_false_iff_not, and_assoc]
theorem outK_in {l : List (List Int)} (hg : linksB l = true) (xs : List Int) (k : Nat) : ∀ x ∈ outK l xs k, InR l x := by
  induction k with
  | zero => simp [outK]
  | succ k ih =>
    intro x hx
    simp only [outK, List.mem_append] at hx
    rcases hx with hx | hx
    · exact ih x hx
    · exact ((groupsL_facts hg).2.1 x).2 (mem_nextL.1 hx).1
theorem outK_nodup {l : List (List Int)} (hg : linksB l = true) (xs : List Int) (k : Nat) : (outK l xs k).Nodup := by
  induction k with
  | zero => simp [outK]
  | succ k ih =>
    simp only [outK]
    rw [List.nodup_append]
    refine ⟨ih, ?_, fun a ha b hb e => ?_⟩
    · exact List.Sublist.nodup List.filter_sublist (List.Sublist.nodup List.filter_sublist (groupsL_facts hg).1)
    · subst e; exact (mem_nextL.1 hb).2.2 ha
theorem outK_short {l : List (List Int)} (hg : linksB l = true) (xs : List Int) (k : Nat) : (outK l xs k).length ≤ l.length := nodup_len (outK_nodup hg xs k) (outK_in hg xs k)
theorem Out.appT {α : Type} [Flat α] {lo : Nat} {h : Heap} {v w : V} {xs zs : List α} (ho : Out lo h v xs) (hs : Sl h w zs) {bytes : Nat} (hb : bytes ≤ 2 ^ 8) (hl : xs.length + zs.length ≤ 2 ^ 30) {k n : Nat} (hk : k = Flat.sz α) (hn : n = zs.length) :
    ∃ ys v' h', GL.rdS h k w n = some ys ∧ appH k bytes v n ys h = some (v', h') ∧ Out lo h' v' (xs ++ zs) ∧ KeepsP (fun i => ¬ vB v i) h h' ∧ h.length ≤ h'.length ∧ ∀ i, vB v' i → vB v i ∨ h.length ≤ i := by
  subst hk; subst hn
  have e := hs.rdS zs.length (Nat.le_refl _)
  rw [List.take_length] at e
  by_cases h0 : zs.length = 0
  · have hz : zs = [] := List.length_eq_zero_iff.1 h0
    subst hz
    have := ho.sl.len
    exact ⟨_, v, h, e, by simp [appH, this], by simpa using ho, KeepsP.refl _ _, Nat.le_refl _, fun i hi => .inl hi⟩
  · obtain ⟨v', h', e1, o', k', l', b'⟩ := ho.app zs (by omega) hb hl rfl rfl rfl
    exact ⟨_, v', h', e, e1, o', k', by omega, fun i hi => .inr (by have := b' i hi; omega)⟩
theorem doneBy_ok {h : Heap} {v w : V} {l : List (List Int)} {F : List Nat} {xs : List Int} (hs : SdF h v l F) (hx : Sl h w xs) (hg : linksB l = true) (hin : ∀ x ∈ xs, InR l x) (hl : xs.length ≤ 2 ^ 10) :
    ∃ r h', call p 604 [v, w] h = some (r, h') ∧ Out h.length h' r (outK l xs xs.length) ∧ Keeps h h' ∧ h.length ≤ h'.length := by
  obtain ⟨l12, _⟩ := linksB_facts hg
  refine go (fn := g604) rfl rfl fun R hR => ?_
  simp [g604, hx.len]
  have k0 : Keeps h (h ++ [⟨.own, []⟩, ⟨.own, []⟩]) := Keeps.append _ _
  refine Wc_upM (M := [5, 6, 8, 13, 14, 15, 16, 17, 18, 19, 20, 21, 22, 23, 24, 25, 26, 27]) rfl xs.length (fun i s => i ≤ xs.length ∧ s.σ 13 = .v (vi i) ∧ (∃ (u : V) (ys : List Int) (G : List Nat), s.σ 5 = .v u ∧ SdF s.h u ys G ∧ ys.length ≤ i ∧ ∀ x, x ∈ ys ↔ x ∈ xs.take i) ∧ (∃ o, s.σ 6 = .v o ∧ Out h.length s.h o (outK l xs i)) ∧ Keeps h s.h ∧ h.length ≤ s.h.length) 0
    ⟨by omega, by simp, ⟨.slice h.length 0 0 (.k 0), [], [], by simp, ⟨by simp, .inr ⟨h.length, 0, .k 0, rfl, Nat.le_refl 0, .inl ⟨rfl, rfl⟩⟩⟩, by simp, by simp⟩, ⟨.slice (h.length + 1) 0 0 (.k 0), by simp, by simpa [outK] using Out.empty (by omega) (by simp)⟩, k0, by simp⟩ fun i s ⟨gi, g13, ⟨u, ys, G, g5, su, hyl, hm⟩, ⟨o, g6, so⟩, hk, hln⟩ hM J hJ => ?_
  by_cases hi : i < xs.length
  · have ix := hx.idx 1 .i64 i hi
    simp only [Nat.mul_one] at ix
    have ld := (hx.keeps hk).loadI i hi
    have st := hx.step hi
    have hmt : ∀ z, z ∈ xs.take (i + 1) ↔ z ∈ xs.take i ∨ z = xs[i] := fun z => mem_take_succ hi
    have k1 : Keeps s.h (s.h ++ [⟨.own, [vi xs[i]]⟩]) := Keeps.append _ _
    have sl1 := Sl.lit (h := s.h) [xs[i]] 1 rfl [vi xs[i]] rfl (.k 1) (by simp)
    obtain ⟨G1, sd1, _⟩ := Sl.sdF sl1 (Nat.le_refl 1)
    obtain ⟨w2, h2, e2, zs, G2, s2, f2, r2, m2, k2, l2⟩ := together_ok (su.keep k1) sd1 (by simp; omega)
    have k12 := k1.trans k2
    have hzm : ∀ x, x ∈ zs ↔ x ∈ xs.take (i + 1) := fun x => by rw [m2, hm, hmt]; simp
    have hzin : ∀ x ∈ zs, InR l x := fun x hx => hin x (List.mem_of_mem_take ((hzm x).1 hx))
    have hzl : zs.length ≤ i + 1 := by
      have h1 : zs.Nodup := r2.imp fun h => by omega
      have := sub_len h1 (m := xs.take (i + 1)) fun x hx => (hzm x).1 hx
      rw [List.length_take] at this; omega
    have so2 : Out h.length h2 o (outK l xs i) := so.keeps (k12.p fun _ => True) (fun _ _ => trivial) (by simp at l2; omega)
    obtain ⟨r3, h3, e3, s3, k3, l3⟩ := nextDone_ok (hs.keep (hk.trans k12)) s2.sl so2.sl hg hzin (by omega)
    have so3 : Out h.length h3 o (outK l xs i) := so2.keeps (k3.p fun _ => True) (fun _ _ => trivial) l3
    have hnl := nextL_len hg zs (outK l xs i)
    have hol := outK_short hg xs i
    obtain ⟨ys4, v4, h4, e4, e5, o4, k4, l4⟩ := so3.appS s3 (bytes := 8) (by decide) (by omega) (k := 1) rfl (n := (nextL l zs (outK l xs i)).length) rfl
    have hnc : nextL l zs (outK l xs i) = nextL l (xs.take (i + 1)) (outK l xs i) := nextL_congr hzm
    have hkk : Keeps h h4 := so3.far ((hk.trans k12).trans k3) k4 (Nat.le_refl _)
    have s24 := s2.keep k3
    have nGv : ∀ b ∈ G2, ¬ vB o b := fun b hb hv => by have := (so.ge hv).2; have := f2.ge b hb; simp at this; omega
    have s3l := s3.len
    have s24' := s24.keeps (k4.mono nGv)
    rw [hnc] at o4 e4 e5 s3l
    generalize xs[i] = xi at *
    simp at l2
    simp [g604_0, hM, g13, g5, g6, hi, ix, ld, fillL, e2, e3, s3l, e4, e5, st]
    exact hJ _ hi ⟨hi, by simp, ⟨w2, zs, G2, by simp, s24', hzl, hzm⟩, ⟨v4, by simp, o4⟩, hkk, by show h.length ≤ h4.length; omega⟩
  · have : i = xs.length := by omega
    subst this
    simp [g604_0, hM, g13, g6]
    exact hR _ _ ⟨so, hk, hln⟩
theorem DoneByS_ok {h : Heap} {v w : V} {l : List (List Int)} {F F9 : List Nat} {xs : List Int} (hs : SdF h v l F) (hx : SdF h w xs F9) (hg : linksB l = true) (hon : onceB l.length xs = true) :
    ∃ r h', call p 588 [v, w] h = some (r, h') ∧ ∃ o, r = .tup [o, .bool true] ∧ Out h.length h' o (outK l xs xs.length) ∧ Keeps h h' ∧ h.length ≤ h'.length := by
  obtain ⟨l12, _⟩ := linksB_facts hg
  have e0 := GoodLinksS_eq hs
  rw [hg] at e0
  have e1 := l14Once_eq hx (l.length : Int) (by omega)
  rw [hon] at e1
  simp only [onceB, decide_eq_true_eq] at hon
  have hin : ∀ x ∈ xs, InR l x := fun x hx => ⟨(hon.1 x hx).1, by have := (hon.1 x hx).2; omega⟩
  have hxl := nodup_len hon.2 hin
  have hx' := hx.sl
  refine go (fn := g588) rfl rfl fun R hR => ?_
  simp [g588, e0, e1, hs.len, hx.len]
  refine Wc_upM (M := [6, 7, 9, 22, 23, 24, 25, 26, 27, 28, 29, 30, 31, 32, 33, 34, 35]) rfl xs.length (fun i s => i ≤ xs.length ∧ s.σ 22 = .v (vi i) ∧ (∃ (u : V) (ys : List Int) (G : List Nat) (o : V), s.σ 6 = .v u ∧ SdF s.h u ys G ∧ ys.Pairwise (· < ·) ∧ ys.length ≤ i ∧ (∀ b ∈ G, ¬ vB o b) ∧ (∀ x, x ∈ ys ↔ x ∈ xs.take i) ∧ s.σ 7 = .v o ∧ Out h.length s.h o (outK l xs i)) ∧ True ∧ Keeps h s.h ∧ h.length ≤ s.h.length) 0
    ⟨by omega, by simp, ⟨.nils, [], [], .nils, by simp, .nil, by simp, by simp, by simp, by simp, by simp, by simpa [outK] using Out.nil (Nat.le_refl _)⟩, trivial, Keeps.refl _, Nat.le_refl _⟩ fun i s ⟨gi, g22, ⟨u, ys, G, o, g6, su, hr, hyl, hG, hm, g7, so⟩, _, hk, hln⟩ hM J hJ => ?_
  by_cases hi : i < xs.length
  · have ix := hx.idx 1 .i64 i hi
    simp only [Nat.mul_one] at ix
    have ld := (hx'.keeps hk).loadI i hi
    have st := hx'.step hi
    have hmt : ∀ z, z ∈ xs.take (i + 1) ↔ z ∈ xs.take i ∨ z = xs[i] := fun z => mem_take_succ hi
    obtain ⟨w2, h2, e2, zs, G2, s2, r2, m2, zl, hG2, k2, l2⟩ := l1Put_ok su hr (by omega) xs[i]
    have hzm : ∀ x, x ∈ zs ↔ x ∈ xs.take (i + 1) := fun x => by rw [m2, hm, hmt]
    have hzin : ∀ x ∈ zs, InR l x := fun x hx => hin x (List.mem_of_mem_take ((hzm x).1 hx))
    have so2 : Out h.length h2 o (outK l xs i) := so.keeps (k2.p fun _ => True) (fun _ _ => trivial) l2
    obtain ⟨r3, h3, e3, s3, k3, l3⟩ := l14Next_ok (hs.keep (hk.trans k2)) s2.sl so2.sl hg hzin (by omega)
    have so3 : Out h.length h3 o (outK l xs i) := so2.keeps (k3.p fun _ => True) (fun _ _ => trivial) l3
    have hnl := nextL_len hg zs (outK l xs i)
    have hol := outK_short hg xs i
    obtain ⟨ys4, v4, h4, e4, e5, o4, k4, l4, b4⟩ := so3.appT s3 (bytes := 8) (by decide) (by omega) (k := 1) rfl (n := (nextL l zs (outK l xs i)).length) rfl
    have hnc : nextL l zs (outK l xs i) = nextL l (xs.take (i + 1)) (outK l xs i) := nextL_congr hzm
    have hkk : Keeps h h4 := so3.far ((hk.trans k2).trans k3) k4 (Nat.le_refl _)
    have nG2 : ∀ b ∈ G2, ¬ vB o b := fun b hb hv => by
      rcases hG2 b hb with h | h
      · exact hG b h hv
      · have := (so.ge hv).2; omega
    have s24' := (s2.keep k3).keeps (k4.mono nG2)
    have nG4 : ∀ b ∈ G2, ¬ vB v4 b := fun b hb hv => by
      rcases b4 b hv with h | h
      · exact nG2 b hb h
      · have := s2.ltF hb; omega
    have s3l := s3.len
    rw [hnc] at o4 e4 e5 s3l
    generalize xs[i] = xi at *
    simp [g588_0, hM, g22, g6, g7, hi, ix, ld, e2, e3, s3l, e4, e5, st]
    exact hJ _ hi ⟨hi, by simp, ⟨w2, zs, G2, v4, by simp, s24', r2, by omega, nG4, hzm, by simp, o4⟩, trivial, hkk, by show h.length ≤ h4.length; omega⟩
  · have : i = xs.length := by omega
    subst this
    simp [g588_0, hM, g22, g7]
    exact hR _ _ ⟨o, rfl, so, hk, hln⟩
end GL

namespace GL
open Go

theorem links_good {c : Hs} (hb : houseB c = true) : linksB (linksR c.heard c.groups) = true ∧ (linksR c.heard c.groups).length = c.heard.deeds.length := by
  obtain ⟨hg, hgl, h8⟩ := houseB_facts hb
  have hq : allQ c.heard c.groups = true := hb
  have hl : (linksR c.heard c.groups).length = c.heard.deeds.length := by simp [linksR, hq, allP, hgl]
  refine ⟨?_, hl⟩
  simp only [linksB, Bool.and_eq_true, decide_eq_true_eq]
  refine ⟨by omega, List.all_eq_true.2 fun xs hx => ?_⟩
  rw [hl]
  simp only [linksR, hq, if_true] at hx
  obtain ⟨i, hi, rfl⟩ := List.mem_map.1 hx
  have hi' : i < c.groups.length := List.mem_range.1 hi
  simp only [allQ, Bool.and_eq_true, decide_eq_true_eq] at hq
  have hgq := List.all_eq_true.1 hq.2 _ (List.getElem_mem hi')
  have hgd : c.groups.getD i [] = c.groups[i] := by rw [List.getD_eq_getElem?_getD, List.getElem?_eq_getElem hi']; rfl
  rw [hgd]
  simp only [risB, decide_eq_true_eq]
  refine ⟨fun x hx => ?_, ofL_rising _ _ _⟩
  obtain ⟨p, hp, hxp⟩ := (mem_ofL hg (groupQ_in hgq)).1 hx
  have := depsL_in hg (groupQ_in hgq p hp) hxp
  omega
noncomputable def soO (c : Hs) (r : Int) (k : Nat) : Oc := outF c.heard (outK (linksR c.heard c.groups) ((rowAt c.heard r).take k) ((rowAt c.heard r).take k).length)
def placeQ (c : Hs) (r : Int) : Bool := houseB c && decide (0 ≤ r ∧ r ≤ c.heard.no - 1)
theorem l17Place_ok {h : Heap} {v : V} {c : Hs} {F : List Nat} (hc : HsV h v c F) (r : Int) : ∃ w h', call p 770 [v, vi r] h = some (w, h') ∧ w = .bool (placeQ c r) ∧ Keeps h h' ∧ h.length ≤ h'.length := by
  obtain ⟨_, h1, e1, rfl, k1, l1⟩ := GoodHouseS_ok hc
  obtain ⟨x, y, z, F1, F2, F3, rfl, rfl, hx, hy, hz⟩ := hc
  refine go (fn := g770) rfl rfl fun R hR => ?_
  cases hb : houseB c with
  | false =>
    rw [hb] at e1
    simp [g770, fillL, upd, hx.cells, hx.cell, hy.cells, hy.cell, hz.cells, hz.cell, e1]
    exact hR _ _ ⟨by simp [placeQ, hb], k1, l1⟩
  | true =>
    rw [hb] at e1
    obtain ⟨hg, _⟩ := houseB_facts hb
    obtain ⟨hno, _⟩ := goodH_facts hg
    have w1 : IntKind.i64.wrap (c.heard.no - 1) = c.heard.no - 1 := by rw [IntWalk.i64_in] <;> omega
    simp [g770, fillL, upd, hx.cells, hx.cell, hy.cells, hy.cell, hz.cells, hz.cell, e1, w1, -Bool.decide_and]
    exact hR _ _ ⟨by simp [placeQ, hb], k1, l1⟩
/-- a row, as far as it goes -/
theorem row_pre {c : Hs} {r : Int} (hp : placeQ c r = true) (k : Nat) : goodH c.heard = true ∧ houseB c = true ∧ (0 ≤ r ∧ r < (c.heard.rows.length : Int)) ∧ ((rowAt c.heard r).length = c.heard.deeds.length) ∧ onceB c.heard.deeds.length ((rowAt c.heard r).take k) = true ∧ (∀ x ∈ (rowAt c.heard r).take k, InR (linksR c.heard c.groups) x) := by
  simp only [placeQ, Bool.and_eq_true, decide_eq_true_eq] at hp
  obtain ⟨hb, hr⟩ := hp
  obtain ⟨hg, hgl, h8⟩ := houseB_facts hb
  obtain ⟨r0, r1, hmem⟩ := rows_get hg hr
  obtain ⟨_, _, _, hrows⟩ := goodH_facts hg
  obtain ⟨hlen, hin, hnd, _⟩ := hrows _ hmem
  obtain ⟨_, hll⟩ := links_good hb
  refine ⟨hg, hb, ⟨r0, r1⟩, hlen, ?_, fun x hx => ?_⟩
  · simp only [onceB, decide_eq_true_eq]
    exact ⟨fun x hx => by have := hin x (List.mem_of_mem_take hx); omega, List.Sublist.nodup (List.take_sublist ..) hnd⟩
  · have := hin x (List.mem_of_mem_take hx)
    exact ⟨this.1, by rw [hll]; exact this.2⟩
theorem l17So_ok {h : Heap} {v : V} {c : Hs} {F : List Nat} (hc : HsV h v c F) {r : Int} (hp : placeQ c r = true) (k : Nat) (hk : k ≤ c.heard.deeds.length) :
    ∃ w h', call p 771 [v, vi r, vi k] h = some (w, h') ∧ ∃ G, OcV h' w (soO c r k) G ∧ (∀ i ∈ G, h.length ≤ i) ∧ Keeps h h' ∧ h.length ≤ h'.length := by
  obtain ⟨hg, hb, hr, hlen, hon, hin⟩ := row_pre hp k
  obtain ⟨hlk, hll⟩ := links_good hb
  obtain ⟨_, h8, _⟩ := goodH_facts hg
  have hcc := hc
  obtain ⟨x, y, z, F1, F2, F3, rfl, rfl, hx, hy, hz⟩ := hc
  obtain ⟨_, h1, e1, o1, G1, rfl, s1, k1, l1⟩ := AllDepsS_ok (c := c.heard) ⟨x, y, F1, F2, rfl, rfl, hx, hy⟩ hz
  have hq : allQ c.heard c.groups = true := hb
  rw [hq] at e1
  have e1' : ∃ h1', call p 774 [.agg [vi c.heard.no, x, y, z]] h = some (o1, h1') ∧ h1' = h1 := by
    obtain ⟨w, h', e, hw, hh⟩ : ∃ w h', call p 774 [.agg [vi c.heard.no, x, y, z]] h = some (w, h') ∧ w = o1 ∧ h' = h1 := by
      refine go (fn := g774) rfl rfl fun R hR => ?_
      simp [g774, fillL, upd, hx.cells, hx.cell, hy.cells, hy.cell, hz.cells, hz.cell, e1]
      exact hR _ _ ⟨rfl, rfl⟩
    exact ⟨h', by rw [e, hw], hh⟩
  obtain ⟨_, e2, rfl⟩ := e1'
  obtain ⟨u, Gu, i1, ld1, su, _⟩ := readL hy hr
  have su1 : SdF h u (rowAt c.heard r) Gu := su
  have ld1' := rdH_keep k1 ld1
  obtain ⟨pu, Gp, ep, sp, _⟩ := (su1.keep k1).pre (i := k) (by omega)
  have hon' : onceB (linksR c.heard c.groups).length ((rowAt c.heard r).take k) = true := by rw [hll]; exact hon
  obtain ⟨_, h2, e3, o2, rfl, s2, k2, l2⟩ := DoneByS_ok s1 sp hlk hon'
  have hol := outK_short hlk ((rowAt c.heard r).take k) ((rowAt c.heard r).take k).length
  have hoi := outK_in hlk ((rowAt c.heard r).take k) ((rowAt c.heard r).take k).length
  obtain ⟨r3, h3, e4, G3, c3, f3, k3, l3⟩ := l17By_ok (hcc.keep (k1.trans k2)) hg s2.sl (fun p hp => by have := hoi p hp; exact ⟨this.1, by have := this.2; rw [hll] at this; exact this⟩) (by omega)
  have c3' := c3
  obtain ⟨a, b, d, _, _, _, rfl, _, ga, gb, gd⟩ := c3'
  refine go (fn := g771) rfl rfl fun R hR => ?_
  simp [g771, fillL, upd, hx.cells, hx.cell, hy.cells, hy.cell, hz.cells, hz.cell, i1, ld1, ld1', e2, stable, bounds, takeB, ep, e3, e4, resV, mkV, ga.cells, ga.cell, gb.cells, gb.cell, gd.cells, gd.cell]
  exact hR _ _ ⟨G3, c3, fun i hi => by have := f3 i hi; omega, (k1.trans k2).trans k3, by omega⟩
def sfB (c : Hs) (r k : Int) : Bool := placeQ c r && decide (0 ≤ k ∧ k ≤ (c.heard.deeds.length : Int))
noncomputable def sfR (c : Hs) (r k : Int) : Oc := if sfB c r k = true then soO c r k.toNat else zO
theorem OutcomeSoFar_ok {h : Heap} {v : V} {c : Hs} {F : List Nat} (hc : HsV h v c F) (r k : Int) :
    ∃ w h', call p 721 [v, vi r, vi k] h = some (w, h') ∧ ∃ o G, w = .tup [o, .bool (sfB c r k)] ∧ OcV h' o (sfR c r k) G ∧ Fresh h.length h' G ∧ Keeps h h' ∧ h.length ≤ h'.length := by
  obtain ⟨_, h1, e1, o1, G1, rfl, s1, f1, k1, l1⟩ := LinksOf_ok hc
  have hcc := hc
  obtain ⟨x, y, z, F1, F2, F3, rfl, rfl, hx, hy, hz⟩ := hc
  refine go (fn := g721) rfl rfl fun R hR => ?_
  have fin : sfB c r k = false → R (.tup [.agg [.nils, .nils, .nils], .bool false]) h1 := fun hb => hR _ _ ⟨_, [], by rw [hb], by simp only [sfR, hb]; exact zO_v h1, Fresh.nil, k1, l1⟩
  cases hb : houseB c with
  | false =>
    rw [hb] at e1
    simp [g721, fillL, upd, hx.cells, hx.cell, hy.cells, hy.cell, hz.cells, hz.cell, e1, resV, mkV]
    exact fin (by simp [sfB, placeQ, hb])
  | true =>
    rw [hb] at e1
    obtain ⟨hg, _⟩ := houseB_facts hb
    obtain ⟨hno, h8, _⟩ := goodH_facts hg
    have w1 : IntKind.i64.wrap (c.heard.no - 1) = c.heard.no - 1 := by rw [IntWalk.i64_in] <;> omega
    by_cases hr : 0 ≤ r ∧ r ≤ c.heard.no - 1
    · by_cases hkk : 0 ≤ k ∧ k ≤ (c.heard.deeds.length : Int)
      · have hp : placeQ c r = true := by simp only [placeQ, hb, decide_eq_true hr, Bool.and_self]
        have hs : sfB c r k = true := by simp only [sfB, hp, decide_eq_true hkk, Bool.and_self]
        obtain ⟨n, rfl⟩ : ∃ n : Nat, k = n := ⟨k.toNat, by omega⟩
        obtain ⟨_, _, hrr, hlen, hon, hin⟩ := row_pre hp n
        obtain ⟨hlk, hll⟩ := links_good hb
        obtain ⟨u, Gu, i1, ld1, su, _⟩ := readL (hy.keep k1) hrr
        have su1 : SdF h1 u (rowAt c.heard r) Gu := su
        obtain ⟨pu, Gp, ep, sp, _⟩ := su1.pre (i := n) (by omega)
        obtain ⟨r2, h2, e2, s2, k2, l2⟩ := doneBy_ok s1 sp.sl hlk hin (by rw [List.length_take]; omega)
        have hol := outK_short hlk ((rowAt c.heard r).take n) ((rowAt c.heard r).take n).length
        have hoi := outK_in hlk ((rowAt c.heard r).take n) ((rowAt c.heard r).take n).length
        obtain ⟨r3, h3, e4, G3, c3, f3, k3, l3⟩ := outcome_ok (hcc.keep (k1.trans k2)) hg s2.sl (fun p hp => by have := hoi p hp; exact ⟨this.1, by have := this.2; rw [hll] at this; exact this⟩) (by omega)
        have c3' := c3
        obtain ⟨a, b, d, _, _, _, rfl, _, ga, gb, gd⟩ := c3'
        simp [g721, fillL, upd, hx.cells, hx.cell, hy.cells, hy.cell, hz.cells, hz.cell, hx.len, e1, w1, hr, hkk.2, i1, ld1, bounds, takeB, ep, e2, e4, resV, mkV, ga.cells, ga.cell, gb.cells, gb.cell, gd.cells, gd.cell]
        exact hR _ _ ⟨_, G3, by rw [hs], by simp only [sfR, hs, if_true, Int.toNat_natCast]; exact c3, f3.mono (by omega), (k1.trans k2).trans k3, by omega⟩
      · have hk2 : decide (0 ≤ k ∧ k ≤ (c.heard.deeds.length : Int)) = false := decide_eq_false hkk
        simp [g721, fillL, upd, hx.cells, hx.cell, hy.cells, hy.cell, hz.cells, hz.cell, hx.len, e1, w1, hr, hk2, resV, mkV, -Bool.decide_and]
        exact fin (by simp only [sfB, hk2, Bool.and_false])
    · have hr2 : decide (0 ≤ r ∧ r ≤ c.heard.no - 1) = false := decide_eq_false hr
      simp [g721, fillL, upd, hx.cells, hx.cell, hy.cells, hy.cell, hz.cells, hz.cell, hx.len, e1, w1, hr2, resV, mkV, -Bool.decide_and]
      exact fin (by simp only [sfB, placeQ, hr2, Bool.and_false, Bool.false_and])
theorem OutcomeSoFarS_ok {h : Heap} {v : V} {c : Hs} {F : List Nat} (hc : HsV h v c F) (r k : Int) :
    ∃ w h', call p 722 [v, vi r, vi k] h = some (w, h') ∧ ∃ o G, w = .tup [o, .bool (sfB c r k)] ∧ OcV h' o (sfR c r k) G ∧ (∀ i ∈ G, h.length ≤ i) ∧ Keeps h h' ∧ h.length ≤ h'.length := by
  obtain ⟨_, h1, e1, rfl, k1, l1⟩ := l17Place_ok hc r
  have hcc := hc.keep k1
  obtain ⟨x, y, z, F1, F2, F3, rfl, rfl, hx, hy, hz⟩ := hc
  refine go (fn := g722) rfl rfl fun R hR => ?_
  have fin : sfB c r k = false → R (.tup [.agg [.nils, .nils, .nils], .bool false]) h1 := fun hb => hR _ _ ⟨_, [], by rw [hb], by simp only [sfR, hb]; exact zO_v h1, by simp, k1, l1⟩
  cases hp : placeQ c r with
  | false =>
    rw [hp] at e1
    simp [g722, fillL, upd, hx.cells, hx.cell, hy.cells, hy.cell, hz.cells, hz.cell, e1, resV, mkV]
    exact fin (by simp [sfB, hp])
  | true =>
    rw [hp] at e1
    by_cases hkk : 0 ≤ k ∧ k ≤ (c.heard.deeds.length : Int)
    · have hs : sfB c r k = true := by simp only [sfB, hp, decide_eq_true hkk, Bool.and_self]
      obtain ⟨n, rfl⟩ : ∃ n : Nat, k = n := ⟨k.toNat, by omega⟩
      obtain ⟨r3, h3, e4, G3, c3, f3, k3, l3⟩ := l17So_ok hcc hp n (by omega)
      have c3' := c3
      obtain ⟨a, b, d, _, _, _, rfl, _, ga, gb, gd⟩ := c3'
      simp [g722, fillL, upd, hx.cells, hx.cell, hy.cells, hy.cell, hz.cells, hz.cell, hx.len, e1, hkk.2, e4, resV, mkV, ga.cells, ga.cell, gb.cells, gb.cell, gd.cells, gd.cell]
      exact hR _ _ ⟨_, G3, by rw [hs], by simp only [sfR, hs, if_true, Int.toNat_natCast]; exact c3, fun i hi => by have := f3 i hi; omega, k1.trans k3, by omega⟩
    · have hk2 : decide (0 ≤ k ∧ k ≤ (c.heard.deeds.length : Int)) = false := decide_eq_false hkk
      simp [g722, fillL, upd, hx.cells, hx.cell, hy.cells, hy.cell, hz.cells, hz.cell, hx.len, e1, hk2, resV, mkV, -Bool.decide_and]
      exact fin (by simp only [sfB, hk2, Bool.and_false])
end GL

namespace GL
open Go

theorem sf_at (c : Hs) (r : Int) : sfB c r (c.heard.deeds.length : Int) = placeQ c r := by
  simp only [sfB]
  rw [decide_eq_true (show 0 ≤ (c.heard.deeds.length : Int) ∧ (c.heard.deeds.length : Int) ≤ c.heard.deeds.length by omega), Bool.and_true]
noncomputable def atR (c : Hs) (r : Int) : Oc := sfR c r (c.heard.deeds.length : Int)
theorem OutcomeAt_ok {h : Heap} {v : V} {c : Hs} {F : List Nat} (hc : HsV h v c F) (r : Int) :
    ∃ w h', call p 724 [v, vi r] h = some (w, h') ∧ ∃ o G, w = .tup [o, .bool (placeQ c r)] ∧ OcV h' o (atR c r) G ∧ Fresh h.length h' G ∧ Keeps h h' ∧ h.length ≤ h'.length := by
  obtain ⟨_, h1, e1, o, G, rfl, c1, f1, k1, l1⟩ := OutcomeSoFar_ok hc r (c.heard.deeds.length : Int)
  rw [sf_at] at e1
  have c1' := c1
  obtain ⟨x, y, z, F1, F2, F3, rfl, rfl, hx, hy, hz⟩ := hc
  obtain ⟨a, b, d, _, _, _, rfl, _, ga, gb, gd⟩ := c1'
  refine go (fn := g724) rfl rfl fun R hR => ?_
  simp [g724, fillL, upd, hx.cells, hx.cell, hy.cells, hy.cell, hz.cells, hz.cell, hx.len, e1, resV, mkV, ga.cells, ga.cell, gb.cells, gb.cell, gd.cells, gd.cell]
  exact hR _ _ ⟨_, G, rfl, c1, f1, k1, l1⟩
theorem OutcomeAtS_ok {h : Heap} {v : V} {c : Hs} {F : List Nat} (hc : HsV h v c F) (r : Int) :
    ∃ w h', call p 726 [v, vi r] h = some (w, h') ∧ ∃ o G, w = .tup [o, .bool (placeQ c r)] ∧ OcV h' o (atR c r) G ∧ (∀ i ∈ G, h.length ≤ i) ∧ Keeps h h' ∧ h.length ≤ h'.length := by
  obtain ⟨_, h1, e1, rfl, k1, l1⟩ := l17Place_ok hc r
  have hcc := hc.keep k1
  obtain ⟨x, y, z, F1, F2, F3, rfl, rfl, hx, hy, hz⟩ := hc
  refine go (fn := g726) rfl rfl fun R hR => ?_
  cases hp : placeQ c r with
  | false =>
    have hs : sfB c r (c.heard.deeds.length : Int) = false := by rw [sf_at, hp]
    rw [hp] at e1
    simp [g726, fillL, upd, hx.cells, hx.cell, hy.cells, hy.cell, hz.cells, hz.cell, e1, resV, mkV]
    exact hR _ _ ⟨_, [], by rw [hp], by simp only [atR, sfR, hs]; exact zO_v h1, by simp, k1, l1⟩
  | true =>
    have hs : sfB c r (c.heard.deeds.length : Int) = true := by rw [sf_at, hp]
    rw [hp] at e1
    obtain ⟨r3, h3, e4, G3, c3, f3, k3, l3⟩ := l17So_ok hcc hp c.heard.deeds.length (Nat.le_refl _)
    have c3' := c3
    obtain ⟨a, b, d, _, _, _, rfl, _, ga, gb, gd⟩ := c3'
    simp [g726, fillL, upd, hx.cells, hx.cell, hy.cells, hy.cell, hz.cells, hz.cell, hx.len, e1, e4, resV, mkV, ga.cells, ga.cell, gb.cells, gb.cell, gd.cells, gd.cell]
    exact hR _ _ ⟨_, G3, by rw [hp], by simp only [atR, sfR, hs, if_true, Int.toNat_natCast]; exact c3, fun i hi => by have := f3 i hi; omega, k1.trans k3, by omega⟩
end GL

namespace GL
open Go

end GL

namespace GL
open Go

end GL

namespace GL
open Go

end GL

namespace GL
open Go

theorem Od.draw {α : Type} [Data α] {h0 h h1 g : Heap} {N lo : Nat} {v : V} {xs : List α} {G G' : List Nat} (d : DC h0 h1 N) (kb : KeepsBut h0.length g h1) (od : Od lo h v xs G) (k1 : KeepsBut h0.length h h1) (l1 : h.length ≤ h1.length) (hlo : g.length ≤ lo) (hc : h0.length < lo) (gG : ∀ b ∈ G, lo ≤ b)
    (hG : ∀ b ∈ G', h.length ≤ b) {x : α} {cs : List V} (hr : Data.rep h1 x cs G') (hx : xs.length ≤ 2 ^ 20) {k bytes : Nat} (hk : k = Data.sz α) (hb : bytes ≤ 2 ^ 8) :
    ∃ v' h2, appH k bytes v 1 cs (h1 ++ [⟨.own, cs⟩]) = some (v', h2) ∧ Od lo h2 v' (xs ++ [x]) (G ++ G') ∧ DC h0 h2 N ∧ KeepsBut h0.length g h2 ∧ h1.length < h2.length := by
  have hge := fun i (hi : vB v i) => od.ge hi
  have kl : Keeps h1 (h1 ++ [⟨.own, cs⟩]) := Keeps.append h1 _
  have kp1 : KeepsP (fun b => b ≠ h0.length) h (h1 ++ [⟨.own, cs⟩]) := k1.P.trans (kl.p _)
  have nG : ∀ b ∈ G, b ≠ h0.length := fun b hb => by have := gG b hb; omega
  have od1 : Od lo (h1 ++ [⟨.own, cs⟩]) v xs G := od.keeps kp1 (fun i hi => by have := (hge i hi).1; omega) nG (by simp; omega)
  have hnv : ∀ b ∈ G', ¬ vB v b := fun b hb hv => by have := (hge b hv).2; have := hG b hb; omega
  obtain ⟨v', h2, e, o2, kp, l2, b2⟩ := od1.app (zs := [x]) (G := G') (by simp) (.one (Data.keeps hr (kl.p _))) hnv hb (by simp; omega) hk rfl
  have k2 : KeepsP (fun i => ¬ vB v i) h1 h2 := fun i blk hi h3 h4 => kp i blk hi (kl i blk h3 h4) h4
  exact ⟨v', h2, e, o2, d.far k2 fun i hi hv => by have := (hge i hv).1; omega, kb.far k2 fun i hi _ hv => by have := (hge i hv).1; omega, by simp at l2; omega⟩
theorem Od.geF {α : Type} [Data α] {lo : Nat} {h : Heap} {v : V} {xs : List α} {F : List Nat} (od : Od lo h v xs F) (gF : ∀ b ∈ F, lo ≤ b) : ∃ F', SdF h v xs F' ∧ ∀ b ∈ F', lo ≤ b := by
  obtain ⟨F', hs, rfl | ⟨rfl, hv, _⟩⟩ := od.sd
  · exact ⟨_, hs, gF⟩
  · refine ⟨_, hs, fun b hb => ?_⟩
    rcases List.mem_cons.1 hb with rfl | hb
    · exact (od.ge hv).1
    · exact gF b hb
/-- all but the first of a list of lists -/
theorem SdF.tailL {h : Heap} {v : V} {xs : List (List Int)} {F : List Nat} (hs : SdF h v xs F) (hl : 0 < xs.length) : ∃ u F', slcV 1 v (some 1) none none = some u ∧ SdF h u (xs.drop 1) F' ∧ ∀ b ∈ F', b ∈ F := by
  have hbd := hs.bd
  rcases hs with ⟨hb, ⟨rfl, rfl, rfl⟩ | ⟨b, off, cap, rfl, hc, hs⟩⟩
  · simp at hl
  · rcases hs with ⟨rfl, rfl⟩ | ⟨blk, cs, G, rfl, h1, h2, h3, h4⟩
    · simp at hl
    · have hdl : (xs.drop 1).length = xs.length - 1 := by simp
      have s2 : ∃ off2 cap2, slcV 1 (.slice b off xs.length cap) (some 1) none none = some (.slice b off2 (xs.length - 1) cap2) ∧ capW 1 (xs.length - 1) cap2 ∧ (off2 = off + 1 ∨ xs.length - 1 = 0) := by
        cases cap with
        | k c =>
          have hc' : xs.length ≤ c := hc
          refine ⟨_, .k (c - 1), by simp only [slcV, Option.getD_none, Option.getD_some]; rw [if_pos ⟨by omega, hc', Nat.le_refl _⟩], ?_, ?_⟩
          · show xs.length - 1 ≤ c - 1; omega
          · by_cases hci : c = 1
            · right; omega
            · left; rw [if_neg hci, Nat.mul_one]
        | o k =>
          have hc' : k = 1 := hc
          subst hc'
          refine ⟨_, .o 1, by simp only [slcV, Option.getD_none, Option.getD_some]; rw [if_pos ⟨trivial, by omega, Nat.le_refl _⟩], rfl, .inl (by omega)⟩
      obtain ⟨off2, cap2, e, c2, ho⟩ := s2
      by_cases h0 : xs.length - 1 = 0
      · have hnil : xs.drop 1 = [] := List.eq_nil_of_length_eq_zero (by rw [hdl]; exact h0)
        rw [hnil]
        rw [h0] at e c2
        exact ⟨_, [], e, ⟨by simp, .inr ⟨b, off2, cap2, rfl, c2, .inl ⟨rfl, rfl⟩⟩⟩, by simp⟩
      · have ho : off2 = off + 1 := by
          rcases ho with h | h
          · exact h
          · exact absurd h h0
        subst ho
        cases xs with
        | nil => simp at hl
        | cons x xs =>
          obtain ⟨c, r, G1, G2, e4, hG, hr1, hr2⟩ := h4
          have hc1 : c.length = 1 := Data.len hr1
          have h3' := cut_drop h3 (m := 1) (show 1 ≤ (x :: xs).length * 1 by simp)
          have hsz : Data.sz (List Int) = 1 := rfl
          rw [hsz, Nat.mul_one] at h3'
          have hdr : cs.drop 1 = r := by rw [e4, ← hc1, List.drop_left']; rfl
          rw [hdr] at h3'
          refine ⟨_, b :: G2, e, ⟨by simp at hbd ⊢; omega, .inr ⟨b, off + 1, cap2, by simp, by rw [hsz]; simpa using c2, .inr ⟨blk, r, G2, rfl, h1, h2, by simpa [hsz] using h3', hr2⟩⟩⟩, fun z hz => ?_⟩
          rw [hG]
          rcases List.mem_cons.1 hz with rfl | hz
          · simp
          · simp [hz]
theorem DC.house {h0 h : Heap} {N : Nat} (d : DC h0 h N) (hN : N < 2 ^ 52) : ∃ v h', call p 775 [.ptr h0.length 0] h = some (v, h') ∧ ∃ (c : Hs) (G : List Nat), HsV h' v c G ∧ (c.heard.no = 3 ∨ c.heard.no = 5) ∧ c.heard.deeds.length ≤ 9 ∧ (∀ b ∈ G, h.length ≤ b) ∧ DC h0 h' (N + 1000) ∧ KeepsBut h0.length h h' ∧ h.length ≤ h'.length := by
  have hlt := d.lt
  obtain ⟨w, h1, e1, c, F, hc, hno, hd, hF, d1, k1, l1⟩ := d.heard (by omega)
  obtain ⟨x, y, F1, F2, rfl, rfl, hx, hy⟩ := hc
  obtain ⟨n, hn⟩ : ∃ n : Nat, c.no = n := ⟨c.no.toNat, by omega⟩
  have ne1 : ∀ b ∈ F1, b ≠ h0.length := fun b hb => by have := hF b (by simp [hb]); omega
  have ne2 : ∀ b ∈ F2, b ≠ h0.length := fun b hb => by have := hF b (by simp [hb]); omega
  refine go (fn := g775) rfl rfl fun R hR => ?_
  simp [g775, fillL, upd, e1, hx.cells, hx.cell, hy.cells, hy.cell, hx.len]
  refine Wc_upM (M := [11, 12, 13, 14, 15, 16, 17, 18, 19, 20, 21, 22, 23]) rfl c.deeds.length (fun i s => i ≤ c.deeds.length ∧ s.σ 11 = .v (vi i) ∧ s.L 2 = (1, [.int .i64 0, .nils, .nils, .nils]) ∧ (∃ (r : V) (gs : List (List Int)) (G : List Nat), s.L 3 = (1, [vi c.no, x, y, r]) ∧ Od h1.length s.h r gs G ∧ (∀ b ∈ G, h1.length ≤ b) ∧ gs.length = i) ∧ DC h0 s.h (N + 700 + 10 * i) ∧ KeepsBut h0.length h1 s.h ∧ h1.length ≤ s.h.length) 0
    ⟨by omega, by simp, by simp [upd], ⟨.nils, [], [], by simp [upd], Od.nil (Nat.le_refl _), by simp, rfl⟩, by simpa using d1, KeepsBut.refl _ _, Nat.le_refl _⟩ fun i s ⟨gi, g11, gL2, ⟨r, gs, G, gL, og, gG, hgl⟩, dc, kb, hl⟩ hM J hJ => ?_
  by_cases hi : i < c.deeds.length
  · obtain ⟨q, h2, e2, ps, Gq, sq, hql, hGq, d2, k2, l2⟩ := dc.group (by omega) n (by omega)
    rw [← hn] at e2
    obtain ⟨v9, h3, e3, o3, d3, k3, l3⟩ := Od.draw d2 (kb.trans k2) og k2 l2 (Nat.le_refl _) (by omega) gG hGq (x := ps) (cs := [q]) ⟨q, rfl, sq⟩ (by omega) (k := 1) (bytes := 24) rfl (by decide)
    have gG3 : ∀ b ∈ G ++ Gq, h1.length ≤ b := fun b hb => by
      rcases List.mem_append.1 hb with h | h
      · exact gG b h
      · have := hGq b h; omega
    obtain ⟨F9, s9, _⟩ := o3.geF gG3
    have st := hx.step hi
    simp [g775_0, hM, g11, gL, upd, hi, e2, fillL, rdS_last, sq.cells, sq.cell, e3, s9.cells, s9.cell, st]
    exact hJ _ hi ⟨hi, by simp, by simp [upd, gL2], ⟨v9, _, _, by simp [upd], o3, gG3, by simp [hgl]⟩, d3.mono (by omega), k3, by show h1.length ≤ h3.length; omega⟩
  · have : i = c.deeds.length := by omega
    subst this
    obtain ⟨F9, s9, g9⟩ := og.geF gG
    have hx1 := hx.keeps (kb.P.mono ne1)
    have hy1 := hy.keeps (kb.P.mono ne2)
    have ne9 : ∀ b ∈ F9, b ≠ h0.length := fun b hb => by have := g9 b hb; omega
    have geA : ∀ (X : List Nat), (∀ b ∈ X, b ∈ F9) → ∀ b ∈ F1 ++ F2 ++ X, h.length ≤ b := fun X hX b hb => by
      rcases List.mem_append.1 hb with h | h
      · exact hF b h
      · have := g9 b (hX b h); omega
    by_cases h0' : 0 < gs.length
    · obtain ⟨b, h2, e2, d2, k2, l2⟩ := dc.one (by omega) 30 (by decide)
      have hx2 := hx1.keeps (k2.P.mono ne1)
      have hy2 := hy1.keeps (k2.P.mono ne2)
      have s92 := s9.keeps (k2.P.mono ne9)
      cases b with
      | false =>
        simp [g775_0, hM, g11, gL, gL2, upd, s9.len, h0', e2, hx.cell, hy.cell, s9.cell, resV, mkV]
        exact hR _ _ ⟨⟨c, gs⟩, _, ⟨x, y, r, F1, F2, F9, rfl, rfl, hx2, hy2, s92⟩, hno, hd, geA F9 (fun _ h => h), d2.mono (by omega), (k1.trans kb).trans k2, by omega⟩
      | true =>
        obtain ⟨u, F8, eu, su, hF8⟩ := s92.tailL h0'
        simp [g775_0, hM, g11, gL, gL2, upd, s9.len, h0', e2, bounds, takeB, eu, hx.cell, hy.cell, s9.cell, su.cell, su.cells, resV, mkV]
        exact hR _ _ ⟨⟨c, gs.drop 1⟩, _, ⟨x, y, u, F1, F2, F8, rfl, rfl, hx2, hy2, su⟩, hno, hd, geA F8 hF8, d2.mono (by omega), (k1.trans kb).trans k2, by omega⟩
    · simp [g775_0, hM, g11, gL, gL2, upd, s9.len, h0', hx.cell, hy.cell, s9.cell, resV, mkV]
      exact hR _ _ ⟨⟨c, gs⟩, _, ⟨x, y, r, F1, F2, F9, rfl, rfl, hx1, hy1, s9⟩, hno, hd, geA F9 (fun _ h => h), dc.mono (by omega), k1.trans kb, by omega⟩
end GL

namespace GL
open Go

theorem drawGoodHouse_ok {h : Heap} {v : V} {bs : List Byte} (hs : Sl h v bs) : ∃ r h', call p 776 [v] h = some (r, h') ∧ ∃ (c : Hs) (F : List Nat), HsV h' r c F ∧ Keeps h h' ∧ h.length ≤ h'.length := by
  have d0 := DC.start hs
  obtain ⟨w, h1, e1, c, F, hc, hno, hd, hF, d1, k1, l1⟩ := d0.house (by decide)
  have hcc := hc
  obtain ⟨x, y, z, F1, F2, F3, rfl, rfl, hx, hy, hz⟩ := hc
  simp at l1 e1
  refine go (fn := g776) rfl rfl fun R hR => ?_
  simp [g776, hs.cells, hs.cell, fillL, upd, e1, hx.cells, hx.cell, hy.cells, hy.cell, hz.cells, hz.cell, resV, mkV]
  exact hR _ _ ⟨c, _, hcc, d1.keep, by omega⟩
theorem drawFastDeeds_ok {h : Heap} {v : V} {bs : List Byte} (hs : Sl h v bs) : ∃ r h', call p 727 [v] h = some (r, h') ∧ ∃ (c : Hs) (F : List Nat), HsV h' r c F ∧ Keeps h h' ∧ h.length ≤ h'.length := by
  obtain ⟨w, h1, e1, c, F, hc, k1, l1⟩ := drawGoodHouse_ok hs
  have hcc := hc
  obtain ⟨x, y, z, F1, F2, F3, rfl, rfl, hx, hy, hz⟩ := hc
  refine go (fn := g727) rfl rfl fun R hR => ?_
  simp [g727, upd, e1, hx.cells, hx.cell, hy.cells, hy.cell, hz.cells, hz.cell, resV, mkV]
  exact hR _ _ ⟨c, _, hcc, k1, l1⟩
theorem drawOutcomeAt_ok {h : Heap} {v : V} {bs : List Byte} (hs : Sl h v bs) : ∃ r h', call p 725 [v] h = some (r, h') ∧ ∃ (w : V) (q : Int) (c : Hs) (F : List Nat), r = .tup [w, vi q] ∧ HsV h' w c F ∧ c.heard.deeds.length ≤ 9 ∧ Keeps h h' ∧ h.length ≤ h'.length := by
  have d0 := DC.start hs
  obtain ⟨w, h1, e1, c, F, hc, hno, hd, hF, d1, k1, l1⟩ := d0.house (by decide)
  have hcc := hc
  obtain ⟨x, y, z, F1, F2, F3, rfl, rfl, hx, hy, hz⟩ := hc
  obtain ⟨n, hn⟩ : ∃ n : Nat, c.heard.no = n := ⟨c.heard.no.toNat, by omega⟩
  have w0 : IntKind.i64.wrap ((n : Int) + 1) = (n + 1 : Nat) := by rw [IntWalk.i64_in] <;> omega
  obtain ⟨q, h2, e2, hq, d2, k2, l2⟩ := d1.pick (by omega) ((n + 1 : Nat) : Int) (by omega)
  obtain ⟨b, h3, e3, hb, d3, k3, l3⟩ := d2.pick (by omega) 9 (by decide)
  have t : (b : Int).tdiv 8 = (b / 8 : Nat) := by rw [Int.tdiv_eq_ediv_of_nonneg (by omega)]; omega
  have w2 : IntKind.i64.wrap ((b / 8 : Nat) : Int) = (b / 8 : Nat) := by rw [IntWalk.i64_in] <;> omega
  have w3 : IntKind.i64.wrap ((q : Int) - (b / 8 : Nat)) = (q : Int) - (b / 8 : Nat) := by rw [IntWalk.i64_in] <;> omega
  have ne : ∀ b ∈ F1 ++ F2 ++ F3, b ≠ h.length := fun b hb => by have := hF b hb; simp at this; omega
  have hc2 := (hcc.keeps (k2.P.mono ne)).keeps (k3.P.mono ne)
  simp at l1 e1
  rw [hn] at hcc hc2 e1
  refine go (fn := g725) rfl rfl fun R hR => ?_
  simp [g725, hs.cells, hs.cell, fillL, upd, e1, hx.cells, hx.cell, hy.cells, hy.cell, hz.cells, hz.cell, w0, e2, e3, t, w2, w3, resV, mkV, -Int.natCast_add, -Int.natCast_ediv]
  exact hR _ _ ⟨_, _, c, _, rfl, hc2, hd, d3.keep, by omega⟩
theorem drawOutcomeSoFar_ok {h : Heap} {v : V} {bs : List Byte} (hs : Sl h v bs) : ∃ r h', call p 720 [v] h = some (r, h') ∧ ∃ (w : V) (q k : Int) (c : Hs) (F : List Nat), r = .tup [w, vi q, vi k] ∧ HsV h' w c F ∧ Keeps h h' ∧ h.length ≤ h'.length := by
  obtain ⟨_, h1, e1, w, q, c, F, rfl, hc, hd, k1, l1⟩ := drawOutcomeAt_ok hs
  have hs1 := hs.keeps k1
  have d0 := DC.start hs1
  have hcc := hc
  obtain ⟨x, y, z, F1, F2, F3, rfl, rfl, hx, hy, hz⟩ := hc
  have w0 : IntKind.i64.wrap ((c.heard.deeds.length : Int) + 2) = (c.heard.deeds.length + 2 : Nat) := by rw [IntWalk.i64_in] <;> omega
  obtain ⟨a, h2, e2, ha, d2, k2, l2⟩ := d0.pick (by decide) ((c.heard.deeds.length + 2 : Nat) : Int) (by omega)
  obtain ⟨b, h3, e3, hb, d3, k3, l3⟩ := d2.pick (by omega) 9 (by decide)
  have t : (b : Int).tdiv 8 = (b / 8 : Nat) := by rw [Int.tdiv_eq_ediv_of_nonneg (by omega)]; omega
  have w2 : IntKind.i64.wrap ((b / 8 : Nat) : Int) = (b / 8 : Nat) := by rw [IntWalk.i64_in] <;> omega
  have w3 : IntKind.i64.wrap ((a : Int) - (b / 8 : Nat)) = (a : Int) - (b / 8 : Nat) := by rw [IntWalk.i64_in] <;> omega
  have k3' := d3.keep
  simp at l2
  refine go (fn := g720) rfl rfl fun R hR => ?_
  simp [g720, e1, hs.cells, hs.cell, fillL, upd, hx.cells, hx.cell, hy.cells, hy.cell, hz.cells, hz.cell, hx.len, w0, e2, e3, t, w2, w3, resV, mkV, -Int.natCast_add, -Int.natCast_ediv]
  exact hR _ _ ⟨_, q, _, c, _, rfl, hcc.keep k3', k1.trans k3', by omega⟩
theorem sameOutcome_same {h : Heap} {v w : V} {c : Oc} {F G : List Nat} (hc : OcV h v c F) (hd : OcV h w c G) : call p 723 [v, w] h = some (.bool true, h) := by
  obtain ⟨x, y, z, F1, F2, F3, rfl, rfl, hx, hy, hz⟩ := hc
  obtain ⟨a, b, d, G1, G2, G3, rfl, rfl, ga, gb, gd⟩ := hd
  have e1 := sameInts_eq hx.sl ga.sl
  have e2 := sameInts_eq hy.sl gb.sl
  have e3 := sameInts_eq hz.sl gd.sl
  rw [decide_eq_true rfl] at e1 e2 e3
  refine go_eq (fn := g723) rfl rfl fun R hR => ?_
  simp [g723, fillL, upd, hx.cells, hx.cell, hy.cells, hy.cell, hz.cells, hz.cell, ga.cells, ga.cell, gb.cells, gb.cell, gd.cells, gd.cell, e1, e2, e3]; exact hR

/-! what was done first stays -/
theorem outK_take {l : List (List Int)} {xs : List Int} {k : Nat} : ∀ {j : Nat}, j ≤ k → outK l (xs.take k) j = outK l xs j
  | 0, _ => rfl
  | j + 1, h => by
    simp only [outK]
    rw [outK_take (j := j) (by omega), List.take_take, Nat.min_eq_left h]
theorem outK_pre {l : List (List Int)} {xs : List Int} {j k : Nat} (h : j ≤ k) : outK l xs j <+: outK l xs k := by
  induction k with
  | zero => have : j = 0 := by omega
            subst this; exact List.prefix_refl _
  | succ k ih =>
    by_cases e : j = k + 1
    · subst e; exact List.prefix_refl _
    · exact (ih (by omega)).trans (List.prefix_append _ _)
theorem outK_mem {l : List (List Int)} {xs : List Int} {k : Nat} {x : Int} (h : x ∈ outK l xs k) : x ∈ xs.take k := by
  induction k with
  | zero => simp [outK] at h
  | succ k ih =>
    simp only [outK, List.mem_append] at h
    rcases h with h | h
    · have := ih h
      exact (List.take_sublist_take_left (by omega)).mem this
    · exact (mem_readyL.1 (mem_nextL.1 h).2.1).1
theorem seen_step (c : Hd) (q : List Int × List Int) (x : Int) (i : Nat) (hx : x.toNat ≠ i) : (stepO c q x).2[i]? = q.2[i]? := by
  simp only [stepO]
  rw [List.getElem?_set_ne hx]
theorem seen_fold (c : Hd) (i : Nat) : ∀ (ps : List Int) (q : List Int × List Int), (∀ p ∈ ps, 0 ≤ p) → (i : Int) ∉ ps → (ps.foldl (stepO c) q).2[i]? = q.2[i]?
  | [], _, _, _ => rfl
  | p :: ps, q, h0, hn => by
    simp only [List.foldl_cons]
    rw [seen_fold c i ps _ (fun p hp => h0 p (by simp [hp])) (fun hm => hn (by simp [hm]))]
    have := h0 p (by simp)
    exact seen_step c q p i (fun e => hn (by rw [← e]; simp; left; omega))
theorem seen_in (c : Hd) {n : Nat} (hn : n ≤ 1000) (i : Nat) (hi : i < n) : ∀ (ps : List Int) (q : List Int × List Int), (∀ p ∈ ps, 0 ≤ p ∧ p < (n : Int)) → ps.Nodup → OkO n q → (i : Int) ∈ ps → ∃ v, (ps.foldl (stepO c) q).2[i]? = some v ∧ 0 ≤ v
  | [], _, _, _, _, hm => by simp at hm
  | p :: ps, q, h0, hnd, hq, hm => by
    have hp := h0 p (by simp)
    have hok := stepO_ok (c := c) hq (x := p) (by omega)
    have hnd2 := List.nodup_cons.1 hnd
    simp only [List.foldl_cons]
    rcases List.mem_cons.1 hm with e | hm
    · rw [seen_fold c i ps _ (fun p hp => (h0 p (by simp [hp])).1) (by rw [e]; exact hnd2.1)]
      have hpi : p.toNat = i := by omega
      simp only [stepO, hpi]
      refine ⟨q.1.getD (dAt c p).key.toNat 0, ?_, (getD_lt hq.2.2 _).1⟩
      rw [List.getElem?_set_self (by rw [hq.2.1]; exact hi)]
    · exact seen_in c hn i hi ps _ (fun p hp => h0 p (by simp [hp])) hnd2.2 hok hm
end GL

namespace GL
open Go

theorem soFar_tail {H : Heap} {vb : V} {bs : List Byte} (hb : Sl H vb bs) : ∃ (u x y z : V) (r no : Int) (h1 : Heap) (g1 g2 : V) (ok : Bool) (h2 h3 : Heap) (a1 b1 d1 a2 b2 d2 : V) (u2 x2 y2 z2 : V) (no2 : Int) (h4 h5 h6 : Heap) (fr : Nat) (ok2 : Bool),
    u = .agg [vi no, x, y, z] ∧ (x.cells = [x] ∧ x.cell = true ∧ y.cells = [y] ∧ y.cell = true ∧ z.cells = [z] ∧ z.cell = true) ∧ g1 = .agg [a1, b1, d1] ∧ g2 = .agg [a2, b2, d2] ∧ (a1.cells = [a1] ∧ a1.cell = true ∧ b1.cells = [b1] ∧ b1.cell = true ∧ d1.cells = [d1] ∧ d1.cell = true) ∧ (a2.cells = [a2] ∧ a2.cell = true ∧ b2.cells = [b2] ∧ b2.cell = true ∧ d2.cells = [d2] ∧ d2.cell = true) ∧
    u2 = .agg [vi no2, x2, y2, z2] ∧ (x2.cells = [x2] ∧ x2.cell = true ∧ y2.cells = [y2] ∧ y2.cell = true ∧ z2.cells = [z2] ∧ z2.cell = true) ∧
    call p 725 [vb] H = some (.tup [u, vi r], h1) ∧ call p 724 [u, vi r] h1 = some (.tup [g1, .bool ok], h2) ∧ call p 726 [u, vi r] h2 = some (.tup [g2, .bool ok], h3) ∧ call p 727 [vb] h3 = some (u2, h4) ∧ call p 478 [u2] h4 = some (.tup [vi fr, .bool ok2], h5) ∧ call p 477 [u2] h5 = some (.tup [vi fr, .bool ok2], h6) ∧ call p 723 [g1, g2] h6 = some (.bool true, h6) := by
  obtain ⟨_, h1, e1, w, r, c, F, rfl, hc, _, k1, l1⟩ := drawOutcomeAt_ok hb
  obtain ⟨_, h2, e2, o2, G2, rfl, s2, f2, k2, l2⟩ := OutcomeAt_ok hc r
  obtain ⟨_, h3, e3, o3, G3, rfl, s3, f3, k3, l3⟩ := OutcomeAtS_ok (hc.keep k2) r
  obtain ⟨w2, h4, e4, c4, F4, hc4, k4, l4⟩ := drawFastDeeds_ok (hb.keeps ((k1.trans k2).trans k3))
  obtain ⟨_, h5, e5, rfl, k5, l5⟩ := FastDeeds_ok hc4
  obtain ⟨_, h6, e6, rfl, k6, l6⟩ := FastDeedsS_ok (hc4.keep k5)
  have k46 := (k4.trans k5).trans k6
  have e7 := sameOutcome_same (s2.keep (k3.trans k46)) (s3.keep k46)
  obtain ⟨x, y, z, F1, F2, F3, rfl, rfl, hx, hy, hz⟩ := hc
  obtain ⟨a1, b1, d1, _, _, _, rfl, _, ga, gb, gd⟩ := s2
  obtain ⟨a2, b2, d2, _, _, _, rfl, _, ga2, gb2, gd2⟩ := s3
  obtain ⟨x2, y2, z2, _, _, _, rfl, _, hx2, hy2, hz2⟩ := hc4
  exact ⟨_, x, y, z, r, c.heard.no, h1, _, _, _, h2, h3, a1, b1, d1, a2, b2, d2, _, x2, y2, z2, c4.heard.no, h4, h5, h6, fastR c4, houseB c4, rfl, ⟨hx.cells, hx.cell, hy.cells, hy.cell, hz.cells, hz.cell⟩, rfl, rfl, ⟨ga.cells, ga.cell, gb.cells, gb.cell, gd.cells, gd.cell⟩, ⟨ga2.cells, ga2.cell, gb2.cells, gb2.cell, gd2.cells, gd2.cell⟩, rfl, ⟨hx2.cells, hx2.cell, hy2.cells, hy2.cell, hz2.cells, hz2.cell⟩, e1, e2, e3, e4, e5, e6, e7⟩
/-- what is known of an outcome so far, beside the whole outcome -/
theorem soFar_facts {c : Hs} {r k : Int} (hs : sfB c r k = true) : ∃ n kn : Nat, k = kn ∧ placeQ c r = true ∧ (sfR c r k).seen.length = n ∧ (atR c r).seen.length = n ∧ (sfR c r k).order.length ≤ kn ∧ (sfR c r k).order.length ≤ (atR c r).order.length ∧ (atR c r).order.take (sfR c r k).order.length = (sfR c r k).order ∧ n ≤ 8 ∧
    ∀ (i : Nat) (h1 : i < (sfR c r k).seen.length) (h2 : i < (atR c r).seen.length), (decide (0 ≤ (sfR c r k).seen[i]) = decide ((i : Int) ∈ (sfR c r k).order)) ∧ (0 ≤ (sfR c r k).seen[i] → (atR c r).seen[i] = (sfR c r k).seen[i]) := by
  have hs2 := hs
  simp only [sfB, Bool.and_eq_true, decide_eq_true_eq] at hs2
  obtain ⟨hp, hk⟩ := hs2
  obtain ⟨kn, rfl⟩ : ∃ n : Nat, k = n := ⟨k.toNat, by omega⟩
  obtain ⟨hg, hb, _, hlen, hon, hin⟩ := row_pre hp c.heard.deeds.length
  obtain ⟨_, h8, _⟩ := goodH_facts hg
  obtain ⟨hlk, hll⟩ := links_good hb
  have hkn : kn ≤ c.heard.deeds.length := by omega
  have hat : sfB c r (c.heard.deeds.length : Int) = true := by rw [sf_at, hp]
  have e1 : sfR c r (kn : Int) = outF c.heard (outK (linksR c.heard c.groups) (rowAt c.heard r) kn) := by
    simp only [sfR, hs, if_true, Int.toNat_natCast, soO]
    rw [List.length_take, hlen, Nat.min_eq_left hkn, outK_take (Nat.le_refl _)]
  have e2 : atR c r = outF c.heard (outK (linksR c.heard c.groups) (rowAt c.heard r) c.heard.deeds.length) := by
    simp only [atR, sfR, hat, if_true, Int.toNat_natCast, soO]
    rw [List.length_take, hlen, Nat.min_self, outK_take (Nat.le_refl _)]
  have hpre : outK (linksR c.heard c.groups) (rowAt c.heard r) kn <+: outK (linksR c.heard c.groups) (rowAt c.heard r) c.heard.deeds.length := outK_pre hkn
  have hPn := outK_nodup hlk (rowAt c.heard r) kn
  have hQn := outK_nodup hlk (rowAt c.heard r) c.heard.deeds.length
  have hPi := outK_in hlk (rowAt c.heard r) kn
  have hQi := outK_in hlk (rowAt c.heard r) c.heard.deeds.length
  have hPl : (outK (linksR c.heard c.groups) (rowAt c.heard r) kn).length ≤ kn := by
    have := sub_len hPn (m := (rowAt c.heard r).take kn) fun x hx => outK_mem hx
    rw [List.length_take] at this; omega
  generalize hP : outK (linksR c.heard c.groups) (rowAt c.heard r) kn = P at *
  generalize hQ : outK (linksR c.heard c.groups) (rowAt c.heard r) c.heard.deeds.length = Q at *
  obtain ⟨T, rfl⟩ := hpre
  have hPi' : ∀ p ∈ P, 0 ≤ p ∧ p < (c.heard.deeds.length : Int) := fun p hp => by have := hPi p hp; exact ⟨this.1, by have := this.2; rw [hll] at this; exact this⟩
  have hQi' : ∀ p ∈ P ++ T, 0 ≤ p ∧ p < (c.heard.deeds.length : Int) := fun p hp => by have := hQi p hp; exact ⟨this.1, by have := this.2; rw [hll] at this; exact this⟩
  have ok0 : OkO c.heard.deeds.length (List.replicate 10 (0 : Int), List.replicate c.heard.deeds.length (-1 : Int)) := ⟨by simp, by simp, fun k hk => by simp only [List.mem_replicate] at hk; omega⟩
  have okP := fold_ok (c := c.heard) (n := c.heard.deeds.length) (by omega) hPi' ok0
  have okQ := fold_ok (c := c.heard) (n := c.heard.deeds.length) (by omega) hQi' ok0
  rw [e1, e2]
  refine ⟨c.heard.deeds.length, kn, rfl, hp, okP.2.1, okQ.2.1, hPl, by simp [outF], by simp [outF], h8, fun i h1 h2 => ?_⟩
  have hi : i < c.heard.deeds.length := by have := okP.2.1; simp only [outF] at h1; omega
  have g1 : ∀ v, (P.foldl (stepO c.heard) (List.replicate 10 0, List.replicate c.heard.deeds.length (-1))).2[i]? = some v → (outF c.heard P).seen[i] = v := fun v hv => by
    have := List.getElem?_eq_getElem h1
    simp only [outF] at this ⊢
    rw [this] at hv; exact Option.some.inj hv
  have g2 : ∀ v, ((P ++ T).foldl (stepO c.heard) (List.replicate 10 0, List.replicate c.heard.deeds.length (-1))).2[i]? = some v → (outF c.heard (P ++ T)).seen[i] = v := fun v hv => by
    have := List.getElem?_eq_getElem h2
    simp only [outF] at this ⊢
    rw [this] at hv; exact Option.some.inj hv
  by_cases hm : (i : Int) ∈ P
  · obtain ⟨v, hv, hv0⟩ := seen_in c.heard (by omega) i hi P _ hPi' hPn ok0 hm
    rw [g1 v hv]
    refine ⟨by rw [decide_eq_true hv0, decide_eq_true (show (i : Int) ∈ (outF c.heard P).order from hm)], fun _ => ?_⟩
    refine g2 v ?_
    rw [List.foldl_append, seen_fold c.heard i T _ (fun p hp => (hQi' p (by simp [hp])).1) (fun hT => ?_)]
    · exact hv
    · exact (List.nodup_append.1 hQn).2.2 _ hm _ hT rfl
  · have hv := seen_fold c.heard i P (List.replicate 10 0, List.replicate c.heard.deeds.length (-1)) (fun p hp => (hPi' p hp).1) hm
    have hv1 : (P.foldl (stepO c.heard) (List.replicate 10 0, List.replicate c.heard.deeds.length (-1))).2[i]? = some (-1) := by rw [hv]; simp [hi]
    rw [g1 _ hv1]
    refine ⟨?_, fun h => by omega⟩
    rw [decide_eq_false (show ¬ (0 : Int) ≤ -1 by omega), decide_eq_false (show ¬ (i : Int) ∈ (outF c.heard P).order from hm)]
end GL

namespace GL
open Go

set_option maxRecDepth 20000 in
theorem FnSoFar_ok {h : Heap} {va vb : V} {as bs : List Byte} (ha : Sl h va as) (hb : Sl h vb bs) : ∃ r h', call p 719 [va, vb] h = some (r, h') ∧ r = .bool true := by
  refine go (fn := g719) rfl rfl fun R hR => ?_
  by_cases hbig : (1048576 : Int) < IntKind.i64.wrap ((as.length : Int) + bs.length)
  · simp [g719, ha.len, hb.len, hbig]
    exact hR _ _ rfl
  · obtain ⟨_, h1, e1, w, r, k, c, F, rfl, hc, k1, l1⟩ := drawOutcomeSoFar_ok ha
    obtain ⟨_, h2, e2, o2, G2, rfl, s2, f2, k2, l2⟩ := OutcomeSoFar_ok hc r k
    obtain ⟨_, h3, e3, o3, G3, rfl, s3, f3, k3, l3⟩ := OutcomeSoFarS_ok (hc.keep k2) r k
    have e4 := sameOutcome_same (s2.keep k3) s3
    have k23 := k2.trans k3
    have hc3 := hc.keep k23
    have s23 := s2.keep k3
    obtain ⟨x, y, z, F1, F2, F3, rfl, rfl, hx, hy, hz⟩ := hc
    obtain ⟨a2, b2, d2, _, _, _, rfl, _, ga, gb, gd⟩ := s23
    obtain ⟨a3, b3, d3, _, _, _, rfl, _, ga3, gb3, gd3⟩ := s3
    cases hs : sfB c r k with
    | false =>
      rw [hs] at e2 e3
      obtain ⟨u, x9, y9, z9, r9, no9, t1, g1, g2, ok, t2, t3, m1, m2, m3, m4, m5, m6, u2, x8, y8, z8, no8, t4, t5, t6, fr, ok2, rfl, ⟨q1, q2, q3, q4, q5, q6⟩, rfl, rfl, ⟨p1, p2, p3, p4, p5, p6⟩, ⟨w1, w2, w3, w4, w5, w6⟩, rfl, ⟨v1, v2, v3, v4, v5, v6⟩, f1, f2, f3, f4, f5, f6, f7⟩ := soFar_tail (hb.keeps (k1.trans k23))
      simp [g719, ha.len, hb.len, hbig, fillL, upd, hx.cells, hx.cell, hy.cells, hy.cell, hz.cells, hz.cell, ga.cells, ga.cell, gb.cells, gb.cell, gd.cells, gd.cell, ga3.cells, ga3.cell, gb3.cells, gb3.cell, gd3.cells, gd3.cell, e1, e2, e3, e4, q1, q2, q3, q4, q5, q6, p1, p2, p3, p4, p5, p6, w1, w2, w3, w4, w5, w6, v1, v2, v3, v4, v5, v6, f1, f2, f3, f4, f5, f6, f7]
      exact hR _ _ rfl
    | true =>
      rw [hs] at e2 e3
      obtain ⟨n, kn, rfl, hp, hn1, hn2, ho1, ho2, htk, h8, hall⟩ := soFar_facts hs
      obtain ⟨_, h4, e5, o4, G4, rfl, s4, f4', k4, l4⟩ := OutcomeAt_ok hc3 r
      rw [hp] at e5
      obtain ⟨a4, b4, d4, _, _, _, rfl, _, ga4, gb4, gd4⟩ := s4
      have ga' := ga.keep k4
      have gd' := gd.keep k4
      generalize sfR c r (kn : Int) = A at *
      generalize atR c r = B at *
      obtain ⟨pu, Gp, ep, sp, _⟩ := ga4.pre (i := A.order.length) ho2
      rw [htk] at sp
      have e6 := sameInts_eq sp.sl ga'.sl
      rw [decide_eq_true rfl] at e6
      have n1 : ¬ (kn : Int) < A.order.length := by omega
      have n2 : ¬ (B.order.length : Int) < A.order.length := by omega
      have n3 : (A.seen.length : Int) = B.seen.length := by omega
      have n1' : ¬ kn < A.order.length := by omega
      have n2' : ¬ B.order.length < A.order.length := by omega
      have n3' : A.seen.length = B.seen.length := by omega
      simp [g719, ha.len, hb.len, hbig, fillL, upd, hx.cells, hx.cell, hy.cells, hy.cell, hz.cells, hz.cell, ga.cells, ga.cell, gb.cells, gb.cell, gd.cells, gd.cell, ga3.cells, ga3.cell, gb3.cells, gb3.cell, gd3.cells, gd3.cell, ga4.cells, ga4.cell, gb4.cells, gb4.cell, gd4.cells, gd4.cell, e1, e2, e3, e4, e5, ga.len, ga4.len, gd.len, gd4.len, n1', n2', n3', bounds, takeB, ep, e6]
      refine Wc_upM (M := [4, 14, 15, 111, 112, 113, 114, 115, 116, 117, 118, 119, 120, 121, 122, 123, 124, 125, 126, 127, 128, 129, 130, 131, 132, 133, 134, 135, 136]) rfl B.seen.length (fun i s => i ≤ B.seen.length ∧ s.σ 111 = .v (vi i) ∧ s.L 8 = (1, [a2, b2, d2]) ∧ s.L 12 = (1, [a4, b4, d4]) ∧ s.h = h4) 0
        ⟨by omega, by simp, by simp [upd], by simp [upd], by simp⟩ fun i s ⟨gi, g111, gL8, gL12, gh⟩ hM J hJ => ?_
      by_cases hi : i < B.seen.length
      · have hi1 : i < A.seen.length := by omega
        obtain ⟨hd1, hd2⟩ := hall i hi1 hi
        have i1 := gd'.idx 1 .i64 i hi1
        have i2 := gd4.idx 1 .i64 i hi
        simp only [Nat.mul_one] at i1 i2
        have ld1 := gd'.sl.loadI i hi1
        have ld2 := gd4.sl.loadI i hi
        have f9 := has_eq ga'.sl (i : Int)
        rw [← hd1] at f9
        have st := gd4.step hi
        by_cases hv : 0 ≤ A.seen[i]
        · rw [hd2 hv] at ld2
          rw [decide_eq_true hv] at f9
          generalize A.seen[i] = av at *
          simp [g719_0, hM, g111, gL8, gL12, gh, upd, hi, i1, i2, ld1, ld2, hv, f9, st]
          exact hJ _ hi ⟨hi, by simp, by simp [gL8], by simp [gL12], rfl⟩
        · rw [decide_eq_false hv] at f9
          generalize A.seen[i] = av at *
          simp [g719_0, hM, g111, gL8, gL12, gh, upd, hi, i1, i2, ld1, ld2, hv, f9, st]
          exact hJ _ hi ⟨hi, by simp, by simp [gL8], by simp [gL12], rfl⟩
      · obtain ⟨u, x9, y9, z9, r9, no9, t1, g1, g2, ok, t2, t3, m1, m2, m3, m4, m5, m6, u2, x8, y8, z8, no8, t4, t5, t6, fr, ok2, rfl, ⟨q1, q2, q3, q4, q5, q6⟩, rfl, rfl, ⟨p1, p2, p3, p4, p5, p6⟩, ⟨w1, w2, w3, w4, w5, w6⟩, rfl, ⟨v1, v2, v3, v4, v5, v6⟩, f1, f2, f3, f4, f5, f6, f7⟩ := soFar_tail (hb.keeps ((k1.trans k23).trans k4))
        simp [g719_0, hM, g111, gh, hi, upd, q1, q2, q3, q4, q5, q6, p1, p2, p3, p4, p5, p6, w1, w2, w3, w4, w5, w6, v1, v2, v3, v4, v5, v6, f1, f2, f3, f4, f5, f6, f7]
        exact hR _ _ rfl
end GL

