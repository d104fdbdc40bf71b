import Derived.ChangeArms
import Derived.IntWalk
import Derived.WideShapes
import Derived.Test.YtkmggfhfefaehaaGreatGuFnLosslessB
/- What the functions of the law do, on the machine. -/
set_option linter.unusedSimpArgs false
set_option linter.unusedVariables false
set_option linter.unnecessarySimpa false
namespace GL
open Go

/-! lists of relations -/
instance rlData : Data Rl where
  sz := 2
  pos := by decide
  rep := fun h c cs F => ∃ x y F1 F2, cs = [x, y] ∧ F = F1 ++ F2 ∧ SdF h x c.c F1 ∧ SdF h y c.rows F2
  len := by rintro h a cs F ⟨x, y, F1, F2, rfl, _⟩; rfl
  ok := by rintro h a cs F ⟨x, y, F1, F2, rfl, _, h1, h2⟩; simp [allCell, h1.cell, h2.cell]
  keeps := by
    rintro h h' a cs F ⟨x, y, F1, F2, rfl, rfl, h1, h2⟩ hk
    exact ⟨x, y, F1, F2, rfl, rfl, h1.keeps (hk.mono fun b hb => List.mem_append_left _ hb), h2.keeps (hk.mono fun b hb => List.mem_append_right _ hb)⟩
  lt := by
    rintro h a cs F b ⟨x, y, F1, F2, rfl, rfl, h1, h2⟩ hb
    rcases List.mem_append.1 hb with hb | hb
    · exact h1.lt hb
    · exact h2.lt hb
theorem SdF.loadRl {h : Heap} {v : V} {xs : List Rl} {F : List Nat} (hs : SdF h v xs F) (i : Nat) (hi : i < xs.length) : ∃ x y F1 F2, rdH h (bOf v) (oOf v + i * 2) 2 = some [x, y] ∧ SdF h x xs[i].c F1 ∧ SdF h y xs[i].rows F2 := by
  obtain ⟨cs, G1, G2, G3, e, ⟨x, y, F1, F2, rfl, rfl, h1, h2⟩, rfl⟩ := hs.load i hi
  exact ⟨x, y, F1, F2, e, h1, h2⟩
/-- a call that is shown with a block dead holds with the block az it is -/
theorem call_fill {f : Nat} {args : List V} {h h' : Heap} {v : V} {q : Nat} {blk : Blk} (hx : call p f args h = some (v, h')) (hd : isDead h q = true) : call p f args (h.set q blk) = some (v, h'.set q blk) := by
  obtain ⟨n, hn⟩ := call_iff.1 hx
  exact call_iff.2 ⟨n, (callN_fill ext_fill n f args h v h' q blk hn hd).2⟩
theorem call_far {f : Nat} {args : List V} {h h' : Heap} {v : V} {q : Nat} {blk : Blk} (hb : h[q]? = some blk) (hx : call p f args (h.set q deadBlk) = some (v, h')) : call p f args h = some (v, h'.set q blk) ∧ isDead h' q = true := by
  have hl := get_lt hb
  have hd : isDead (h.set q deadBlk) q = true := by simp [isDead, hl]; rfl
  refine ⟨?_, call_dead hx hd⟩
  have e := call_fill (blk := blk) hx hd
  rw [List.set_set] at e
  have : h.set q blk = h := by
    apply List.ext_getElem
    · simp
    · intro i h1 h2
      by_cases hq : q = i
      · subst hq
        rw [List.getElem_set_self]
        obtain ⟨_, e⟩ := List.getElem?_eq_some_iff.1 hb
        exact e.symm
      · rw [List.getElem_set_ne hq]
  rwa [this] at e
theorem Od.blk {α : Type} [Data α] {lo : Nat} {h : Heap} {v : V} {xs : List α} {F : List Nat} (o : Od lo h v xs F) : (∀ i, ¬ vB v i) ∨ ∃ q blk, h[q]? = some blk ∧ ∀ i, vB v i ↔ i = q := by
  obtain ⟨_, _, ⟨rfl, _, _⟩ | ⟨b, cs, rfl, hb, _⟩ | ⟨b, rfl, _, _, _, hb⟩⟩ := o
  · exact .inl fun i ⟨_, _, _, e⟩ => by cases e
  · exact .inr ⟨b, _, hb, fun i => ⟨fun ⟨_, _, _, e⟩ => by cases e; rfl, fun e => e ▸ ⟨_, _, _, rfl⟩⟩⟩
  · exact .inr ⟨b, h[b], List.getElem?_eq_getElem hb, fun i => ⟨fun ⟨_, _, _, e⟩ => by cases e; rfl, fun e => e ▸ ⟨_, _, _, rfl⟩⟩⟩
/-- what an operation hands on shares nothing with a list that grows beside -/
theorem rel_own {α : Type} [Data α] {lo : Nat} {h : Heap} {v : V} {xs : List α} {F : List Nat} (o : Od lo h v xs F) {f : Nat} {args : List V} {b : Bool} {r : Rl}
    (H : ∀ g : Heap, KeepsP (fun i => ¬ vB v i) h g → ∃ o h', call p f args g = some (o, h') ∧ RelR h' o b r ∧ Keeps g h' ∧ g.length ≤ h'.length) :
    ∃ o h', call p f args h = some (o, h') ∧ Keeps h h' ∧ h.length ≤ h'.length ∧ ∃ x y Fx Fy, o = .tup [.agg [x, y], .bool (b && goodRl r)] ∧ SdF h' x (givR b r).c Fx ∧ SdF h' y (givR b r).rows Fy ∧ CC x y ∧ (∀ i ∈ Fx, ¬ vB v i) ∧ (∀ i ∈ Fy, ¬ vB v i) := by
  rcases o.blk with hv | ⟨q, blk, hb, hv⟩
  · obtain ⟨u, h', e, hR, k, l⟩ := H h (KeepsP.refl _ _)
    obtain ⟨x, y, Fx, Fy, rfl, hx, hy, hc⟩ := hR.get
    exact ⟨_, h', e, k, l, x, y, Fx, Fy, rfl, hx, hy, hc, fun i _ => hv i, fun i _ => hv i⟩
  · have hl := get_lt hb
    obtain ⟨u, h', e, hR, k, l⟩ := H (h.set q deadBlk) fun i bl hi hh _ => by
      rw [List.getElem?_set_ne (fun e => hi ((hv i).2 e.symm))]; exact hh
    obtain ⟨x, y, Fx, Fy, rfl, hx, hy, hc⟩ := hR.get
    obtain ⟨e2, hd⟩ := call_far hb e
    obtain ⟨bq, hq, hqd⟩ := isDead_get hd
    have nin : ∀ {G : List Nat} {β : Type} [Data β] {z : V} {zs : List β}, SdF h' z zs G → ∀ i ∈ G, i ≠ q := fun hs i hi e => by
      obtain ⟨b1, hb1, hb2⟩ := hs.lt hi
      rw [e, hq] at hb1
      injection hb1 with hb1
      subst hb1
      exact hb2 hqd
    have kd := dead_keeps hd blk
    simp only [List.length_set] at l
    refine ⟨_, _, e2, fun i bl hh hst => ?_, by simpa using l, x, y, Fx, Fy, rfl, hx.keep kd, hy.keep kd, hc, fun i hi hvi => nin hx i hi ((hv i).1 hvi), fun i hi hvi => nin hy i hi ((hv i).1 hvi)⟩
    by_cases hiq : q = i
    · subst hiq
      rw [hb] at hh
      injection hh with hh
      subst hh
      rw [List.getElem?_set_self (by omega)]
    · rw [List.getElem?_set_ne hiq]
      exact k i bl (by rw [List.getElem?_set_ne hiq]; exact hh) hst
theorem Od.oneR {lo : Nat} {h : Heap} {v : V} {xs : List Rl} {F : List Nat} (o : Od lo h v xs F) {x y : V} {r : Rl} {F1 F2 : List Nat} (hx : SdF h x r.c F1) (hy : SdF h y r.rows F2) (hG : ∀ b ∈ F1, ¬ vB v b) (hG2 : ∀ b ∈ F2, ¬ vB v b) (hl : xs.length ≤ 2 ^ 20) :
    ∃ v' h', appH 2 48 v 1 [x, y] (h ++ [⟨.own, [x, y]⟩]) = some (v', h') ∧ (∃ F', Od lo h' v' (xs ++ [r]) F') ∧ KeepsP (fun i => ¬ vB v i) h h' ∧ h.length < h'.length := by
  have kl : Keeps h (h ++ [⟨.own, [x, y]⟩]) := Keeps.append _ _
  have o2 := o.keeps (kl.p fun _ => True) (fun _ _ => trivial) (fun _ _ => trivial) (by simp)
  obtain ⟨v', h', e, o3, k3, l3, _⟩ := o2.app (zs := [r]) (ys := [x, y]) (G := F1 ++ F2) (by simp) (.one ⟨x, y, F1, F2, rfl, rfl, hx.keep kl, hy.keep kl⟩) (fun b hb => by
    rcases List.mem_append.1 hb with hb | hb
    · exact hG b hb
    · exact hG2 b hb) (bytes := 48) (by decide) (by simp; omega) (k := 2) (n := 1) rfl rfl
  exact ⟨v', h', e, ⟨_, o3⟩, fun b blk hb hh hst => k3 b blk hb (kl _ _ hh hst) hst, by simp at l3; omega⟩
theorem Od.farR {α : Type} [Data α] {lo : Nat} {h0 h h' : Heap} {v : V} {xs : List α} {F : List Nat} (o : Od lo h v xs F) (hk : Keeps h0 h) (hp : KeepsP (fun i => ¬ vB v i) h h') (hl : h0.length ≤ lo) : Keeps h0 h' := fun b blk hb hst => by
  have := get_lt hb
  exact hp b blk (fun hv => by have := (o.ge hv).1; omega) (hk _ _ hb hst) hst
/-- blocks that stood before the list began are not its own -/
theorem Od.notB {α β : Type} [Data α] [Data β] {lo : Nat} {h0 h : Heap} {v z : V} {xs : List α} {zs : List β} {F G : List Nat} (o : Od lo h v xs F) (hz : SdF h0 z zs G) (hl : h0.length ≤ lo) : ∀ b ∈ G, ¬ vB v b := fun b hb hv => by
  have h1 := (o.ge hv).1
  have h2 := hz.ltF hb
  omega
end GL

namespace GL
open Go

def tkQ (r : Rl) (q : List Int) : Bool := projB r q && goodRl (projL r q)
def tkB (r : Rl) (ps : List (List Int)) : Bool := decide ((1 : Int) ≤ ps.length ∧ (ps.length : Int) ≤ 10) && ps.all (tkQ r)
def tkL (r : Rl) (ps : List (List Int)) : List Rl := ps.map (projL r)
theorem tk_no {r : Rl} {ps : List (List Int)} {i : Nat} (hi : i < ps.length) (h : tkQ r ps[i] = false) : tkB r ps = false := by
  rw [tkB, Bool.and_eq_false_iff]
  exact .inr (List.all_eq_false.2 ⟨_, List.getElem_mem hi, by simp [h]⟩)
theorem tk_take {r : Rl} {ps : List (List Int)} {i : Nat} (hi : i < ps.length) : (ps.take (i + 1)).map (projL r) = (ps.take i).map (projL r) ++ [projL r ps[i]] := by
  rw [List.take_succ_eq_append_getElem hi, List.map_append]; rfl
theorem all_succ {α : Type} {q : α → Bool} {xs : List α} {i : Nat} (hi : i < xs.length) (h1 : (xs.take i).all q = true) (h2 : q xs[i] = true) : (xs.take (i + 1)).all q = true := by
  rw [List.take_succ_eq_append_getElem hi, List.all_append, h1]; simp [h2]

theorem TakeApart_ok {h : Heap} {x y v : V} {r : Rl} {ps : List (List Int)} {F1 F2 F : List Nat} (hx : SdF h x r.c F1) (hy : SdF h y r.rows F2) (hv : SdF h v ps F) : ∃ o h', call p 761 [.agg [x, y], v] h = some (o, h') ∧ ∃ u G, o = .tup [u, .bool (tkB r ps)] ∧ SdF h' u (if tkB r ps = true then tkL r ps else []) G ∧ Keeps h h' ∧ h.length ≤ h'.length := by
  have bad : ∀ h', tkB r ps = false → Keeps h h' → h.length ≤ h'.length → ∀ R : V → Heap → Prop, (∀ r1 h1, (∃ u G, r1 = .tup [u, .bool (tkB r ps)] ∧ SdF h1 u (if tkB r ps = true then tkL r ps else []) G ∧ Keeps h h1 ∧ h.length ≤ h1.length) → R r1 h1) → R (.tup [.nils, .bool false]) h' := fun h' hb k1 l1 R hR => hR _ _ ⟨.nils, [], by rw [hb], by rw [hb]; exact .nil, k1, l1⟩
  refine go (fn := g761) rfl rfl fun R hR => ?_
  by_cases hw : (1 : Int) ≤ ps.length ∧ (ps.length : Int) ≤ 10
  · have kn : Keeps h (h ++ [⟨.own, []⟩]) := Keeps.append _ _
    simp [g761, upd, hx.cells, hx.cell, hy.cells, hy.cell, hv.len, hw, fillL]
    refine Wc_upM (M := [4, 5, 6, 8, 9, 10, 18, 19, 20, 21, 22, 23, 24, 25, 26, 27, 28, 29, 30, 31, 32, 33, 34]) rfl ps.length
      (fun i s => i ≤ ps.length ∧ s.σ 18 = .v (vi i) ∧ s.L 2 = (1, [x, y]) ∧ Keeps h s.h ∧ h.length ≤ s.h.length ∧ (ps.take i).all (tkQ r) = true ∧ ∃ v6 F, s.σ 6 = .v v6 ∧ Od h.length s.h v6 ((ps.take i).map (projL r)) F) 0
      ⟨by omega, by simp, by simp [upd], kn, by simp, by simp, .slice h.length 0 0 (.k 0), [], by simp, by simpa using Od.empty (Nat.le_refl _) (by simp)⟩ fun i s ⟨gi, g18, gL2, hk, hl0, hall, v6, F6, g6, o6⟩ hM J hJ => ?_
    by_cases hi : i < ps.length
    · obtain ⟨z, Fz, ez, hz, _⟩ := hv.loadL i hi
      have ez' := rdH_keep hk ez
      have ix := hv.idx 1 .i64 i hi
      simp only [Nat.mul_one] at ix
      have st := hv.step hi
      obtain ⟨_, h1, e1, k1, l1, a, b, Fa, Fb, rfl, sa, sb, hc, na, nb⟩ := rel_own (f := 739) (args := [.agg [x, y], z]) (b := projB r ps[i]) (r := projL r ps[i]) o6 fun g hg =>
        Project_ok ((hx.keep hk).keeps (hg.mono fun c hc => o6.notB hx (Nat.le_refl _) c hc)) ((hy.keep hk).keeps (hg.mono fun c hc => o6.notB hy (Nat.le_refl _) c hc)) ((hz.keep hk).keeps (hg.mono fun c hc => o6.notB hz (Nat.le_refl _) c hc)).sl
      rw [show (projB r ps[i] && goodRl (projL r ps[i])) = tkQ r ps[i] from rfl] at e1
      cases hq : tkQ r ps[i] with
      | false =>
        rw [hq] at e1
        simp [g761_0, hM, g18, g6, gL2, upd, hi, ix, ez', e1, hc, fillL]
        exact bad _ (tk_no hi hq) (hk.trans k1) (by omega) R hR
      | true =>
        rw [hq] at e1
        have hgv : givR (projB r ps[i]) (projL r ps[i]) = projL r ps[i] := by rw [givR, show (projB r ps[i] && goodRl (projL r ps[i])) = true from hq]; rfl
        rw [hgv] at sa sb
        have o6' := o6.keeps (k1.p fun _ => True) (fun _ _ => trivial) (fun _ _ => trivial) l1
        obtain ⟨v7, h2, e2, ⟨F7, o7⟩, k2, l2⟩ := o6'.oneR sa sb na nb (by simp; omega)
        have kf := o6'.farR (hk.trans k1) k2 (Nat.le_refl _)
        simp [g761_0, hM, g18, g6, gL2, upd, hi, ix, ez', e1, hc, fillL, rdS_last, e2, st]
        exact hJ _ hi ⟨hi, by simp, by simp [upd, gL2], kf, by show h.length ≤ h2.length; omega, all_succ hi hall hq, v7, F7, by simp, by rw [tk_take hi]; exact o7⟩
    · have : i = ps.length := by omega
      subst this
      rw [List.take_length] at o6 hall
      obtain ⟨F8, s8, _⟩ := o6.sd
      have hB : tkB r ps = true := by rw [tkB, hall, decide_eq_true hw]; rfl
      simp [g761_0, hM, g18, g6, resV, mkV]
      exact hR _ _ ⟨v6, F8, by rw [hB], by rw [hB]; exact s8, hk, hl0⟩
  · simp [g761, upd, hx.cells, hx.cell, hy.cells, hy.cell, hv.len, hw, fillL, resV, mkV, -Bool.decide_and]
    exact bad _ (by rw [tkB, decide_eq_false hw]; rfl) (Keeps.refl _) (Nat.le_refl _) R hR
theorem TakeApartS_ok {h : Heap} {x y v : V} {r : Rl} {ps : List (List Int)} {F1 F2 F : List Nat} (hx : SdF h x r.c F1) (hy : SdF h y r.rows F2) (hv : SdF h v ps F) : ∃ o h', call p 762 [.agg [x, y], v] h = some (o, h') ∧ ∃ u G, o = .tup [u, .bool (tkB r ps)] ∧ SdF h' u (if tkB r ps = true then tkL r ps else []) G ∧ Keeps h h' ∧ h.length ≤ h'.length := by
  have bad : ∀ h', tkB r ps = false → Keeps h h' → h.length ≤ h'.length → ∀ R : V → Heap → Prop, (∀ r1 h1, (∃ u G, r1 = .tup [u, .bool (tkB r ps)] ∧ SdF h1 u (if tkB r ps = true then tkL r ps else []) G ∧ Keeps h h1 ∧ h.length ≤ h1.length) → R r1 h1) → R (.tup [.nils, .bool false]) h' := fun h' hb k1 l1 R hR => hR _ _ ⟨.nils, [], by rw [hb], by rw [hb]; exact .nil, k1, l1⟩
  refine go (fn := g762) rfl rfl fun R hR => ?_
  by_cases hw : (1 : Int) ≤ ps.length ∧ (ps.length : Int) ≤ 10
  · simp [g762, upd, hx.cells, hx.cell, hy.cells, hy.cell, hv.len, hw, fillL]
    refine Wc_upM (M := [4, 5, 6, 8, 9, 10, 17, 18, 19, 20, 21, 22, 23, 24, 25, 26, 27, 28, 29, 30, 31, 32, 33]) rfl ps.length
      (fun i s => i ≤ ps.length ∧ s.σ 17 = .v (vi i) ∧ s.L 2 = (1, [x, y]) ∧ Keeps h s.h ∧ h.length ≤ s.h.length ∧ (ps.take i).all (tkQ r) = true ∧ ∃ v6 F, s.σ 6 = .v v6 ∧ Od h.length s.h v6 ((ps.take i).map (projL r)) F) 0
      ⟨by omega, by simp, by simp [upd], Keeps.refl _, Nat.le_refl _, by simp, .nils, [], by simp, by simpa using Od.nil (Nat.le_refl _)⟩ fun i s ⟨gi, g18, gL2, hk, hl0, hall, v6, F6, g6, o6⟩ hM J hJ => ?_
    by_cases hi : i < ps.length
    · obtain ⟨z, Fz, ez, hz, _⟩ := hv.loadL i hi
      have ez' := rdH_keep hk ez
      have ix := hv.idx 1 .i64 i hi
      simp only [Nat.mul_one] at ix
      have st := hv.step hi
      obtain ⟨_, h1, e1, k1, l1, a, b, Fa, Fb, rfl, sa, sb, hc, na, nb⟩ := rel_own (f := 752) (args := [.agg [x, y], z]) (b := projB r ps[i]) (r := projL r ps[i]) o6 fun g hg =>
        ProjectS_ok ((hx.keep hk).keeps (hg.mono fun c hc => o6.notB hx (Nat.le_refl _) c hc)) ((hy.keep hk).keeps (hg.mono fun c hc => o6.notB hy (Nat.le_refl _) c hc)) ((hz.keep hk).keeps (hg.mono fun c hc => o6.notB hz (Nat.le_refl _) c hc)).sl
      rw [show (projB r ps[i] && goodRl (projL r ps[i])) = tkQ r ps[i] from rfl] at e1
      cases hq : tkQ r ps[i] with
      | false =>
        rw [hq] at e1
        simp [g762_0, hM, g18, g6, gL2, upd, hi, ix, ez', e1, hc, fillL]
        exact bad _ (tk_no hi hq) (hk.trans k1) (by omega) R hR
      | true =>
        rw [hq] at e1
        have hgv : givR (projB r ps[i]) (projL r ps[i]) = projL r ps[i] := by rw [givR, show (projB r ps[i] && goodRl (projL r ps[i])) = true from hq]; rfl
        rw [hgv] at sa sb
        have o6' := o6.keeps (k1.p fun _ => True) (fun _ _ => trivial) (fun _ _ => trivial) l1
        obtain ⟨v7, h2, e2, ⟨F7, o7⟩, k2, l2⟩ := o6'.oneR sa sb na nb (by simp; omega)
        have kf := o6'.farR (hk.trans k1) k2 (Nat.le_refl _)
        simp [g762_0, hM, g18, g6, gL2, upd, hi, ix, ez', e1, hc, fillL, rdS_last, e2, st]
        exact hJ _ hi ⟨hi, by simp, by simp [upd, gL2], kf, by show h.length ≤ h2.length; omega, all_succ hi hall hq, v7, F7, by simp, by rw [tk_take hi]; exact o7⟩
    · have : i = ps.length := by omega
      subst this
      rw [List.take_length] at o6 hall
      obtain ⟨F8, s8, _⟩ := o6.sd
      have hB : tkB r ps = true := by rw [tkB, hall, decide_eq_true hw]; rfl
      simp [g762_0, hM, g18, g6, resV, mkV]
      exact hR _ _ ⟨v6, F8, by rw [hB], by rw [hB]; exact s8, hk, hl0⟩
  · simp [g762, upd, hx.cells, hx.cell, hy.cells, hy.cell, hv.len, hw, fillL, resV, mkV, -Bool.decide_and]
    exact bad _ (by rw [tkB, decide_eq_false hw]; rfl) (Keeps.refl _) (Nat.le_refl _) R hR
end GL

namespace GL
open Go

theorem notGood_eq {h : Heap} {x y : V} {r : Rl} {F1 F2 : List Nat} (hx : SdF h x r.c F1) (hy : SdF h y r.rows F2) : call p 787 [.agg [x, y]] h = some (.bool (!goodRl r), h) := by
  have q1 := GoodRelation_eq (v := .agg [x, y]) ⟨x, y, F1, F2, rfl, hx, hy⟩
  refine go_eq (fn := g787) rfl rfl fun R hR => ?_
  cases hg : goodRl r <;> (rw [hg] at q1 hR; simp [g787, upd, hx.cells, hx.cell, hy.cells, hy.cell, q1, fillL, resV, mkV]; exact hR)
theorem anyBad_eq {h : Heap} {v : V} {rs : List Rl} {F : List Nat} (hs : SdF h v rs F) : call p 786 [v, .fn 787 []] h = some (.bool (rs.any fun r => !goodRl r), h) := by
  have e : ∃ k : Int, call p 790 [v, .fn 787 []] h = some (vi k, h) ∧ (decide (0 ≤ k) = rs.any fun r => !goodRl r) := by
    have : ∃ r h', call p 790 [v, .fn 787 []] h = some (r, h') ∧ h' = h ∧ ∃ k : Int, r = vi k ∧ (decide (0 ≤ k) = rs.any fun r => !goodRl r) := by
      refine go (fn := g790) rfl rfl fun R hR => ?_
      simp [g790, hs.len]
      refine Wc_upM (M := [4, 5, 8, 9, 10, 11, 12, 13, 14, 15, 16, 17, 18]) rfl rs.length (fun i s => i ≤ rs.length ∧ s.σ 8 = .v (vi i) ∧ s.h = h ∧ (rs.take i).all goodRl = true) 0 (by simp) fun i s ⟨gi, g8, gh, hall⟩ hM J hJ => ?_
      by_cases hi : i < rs.length
      · obtain ⟨x, y, F1, F2, ex, hx, hy⟩ := hs.loadRl i hi
        have ix := hs.idx 2 .i64 i hi
        have st := hs.step hi
        have q1 := notGood_eq hx hy
        cases hg : goodRl rs[i] with
        | true =>
          rw [hg] at q1
          simp [g790_0, hM, g8, gh, hi, ix, ex, hx.cells, hx.cell, hy.cells, hy.cell, q1, st]
          exact hJ _ hi ⟨hi, by simp, rfl, all_succ hi hall hg⟩
        | false =>
          rw [hg] at q1
          simp [g790_0, hM, g8, gh, hi, ix, ex, hx.cells, hx.cell, hy.cells, hy.cell, q1]
          refine hR _ _ ⟨rfl, i, rfl, ?_⟩
          rw [decide_eq_true (by omega : (0 : Int) ≤ i)]
          exact (List.any_eq_true.2 ⟨_, List.getElem_mem hi, by simp [hg]⟩).symm
      · have : i = rs.length := by omega
        subst this
        rw [List.take_length] at hall
        simp [g790_0, hM, g8, gh]
        refine hR _ _ ⟨rfl, -1, rfl, ?_⟩
        rw [decide_eq_false (by omega)]
        rw [eq_comm, List.any_eq_false]
        intro r hr
        simp [List.all_eq_true.1 hall r hr]
    obtain ⟨_, _, e, rfl, k, rfl, hk⟩ := this
    exact ⟨k, e, hk⟩
  obtain ⟨k, e, hk⟩ := e
  refine go_eq (fn := g786) rfl rfl fun R hR => ?_
  rw [← hk] at hR
  by_cases h0 : 0 ≤ k
  · rw [decide_eq_true h0] at hR; simp [g786, e, h0]; exact hR
  · rw [decide_eq_false h0] at hR; simp [g786, e, h0]; exact hR

/-! parts put together -/
def ptF : Rl → List Rl → Option Rl
  | a, [] => some a
  | a, r :: rs => if goodRl (joinL a r) = true then ptF (joinL a r) rs else none
def ptH : List Rl → Option Rl
  | [] => none
  | a :: rs => ptF a rs
def ptO (rs : List Rl) : Option Rl := if (decide ((1 : Int) ≤ rs.length ∧ (rs.length : Int) ≤ 10) && rs.all goodRl) = true then ptH rs else none
def ptR (h : Heap) (o : V) (q : Option Rl) : Prop := ∃ x y Fx Fy, o = .tup [.agg [x, y], .bool q.isSome] ∧ SdF h x (q.getD ⟨[], []⟩).c Fx ∧ SdF h y (q.getD ⟨[], []⟩).rows Fy ∧ CC x y
theorem ptR.bad {h : Heap} : ptR h (.tup [.agg [.nils, .nils], .bool false]) none := ⟨.nils, .nils, [], [], rfl, .nil, .nil, rfl, rfl, rfl, rfl⟩
theorem good_tell {r : Rl} (hg : goodRl r = true) : tellR r.c r.rows = r := by
  rw [tellR, (goodRl_more hg).2.2.2.2]
theorem ptF_none {a : Rl} {rs : List Rl} {i : Nat} (hi : i < rs.length) (h : goodRl (joinL a rs[i]) = false) : ptF a (rs.drop i) = none := by
  rw [List.drop_eq_getElem_cons hi, ptF, h]; rfl
theorem ptF_next {a : Rl} {rs : List Rl} {i : Nat} (hi : i < rs.length) (h : goodRl (joinL a rs[i]) = true) : ptF a (rs.drop i) = ptF (joinL a rs[i]) (rs.drop (i + 1)) := by
  rw [List.drop_eq_getElem_cons hi, ptF, if_pos h]

theorem PutTogether_ok {h : Heap} {v : V} {rs : List Rl} {F : List Nat} (hs : SdF h v rs F) : ∃ o h', call p 763 [v] h = some (o, h') ∧ ptR h' o (ptO rs) ∧ Keeps h h' ∧ h.length ≤ h'.length := by
  have e1 := anyBad_eq hs
  have bad : ∀ h', ptO rs = none → Keeps h h' → h.length ≤ h'.length → ∀ R : V → Heap → Prop, (∀ r1 h1, (ptR h1 r1 (ptO rs) ∧ Keeps h h1 ∧ h.length ≤ h1.length) → R r1 h1) → R (.tup [.agg [.nils, .nils], .bool false]) h' := fun h' hb k1 l1 R hR => hR _ _ ⟨by rw [hb]; exact ptR.bad, k1, l1⟩
  refine go (fn := g763) rfl rfl fun R hR => ?_
  by_cases hw : (1 : Int) ≤ rs.length ∧ (rs.length : Int) ≤ 10
  · cases hall : rs.all goodRl with
    | false =>
      have ha : (rs.any fun r => !goodRl r) = true := by
        obtain ⟨r, hr, hg⟩ := List.all_eq_false.1 hall
        exact List.any_eq_true.2 ⟨r, hr, by simpa using hg⟩
      rw [ha] at e1
      simp [g763, hs.len, hw, e1, upd, fillL, resV, mkV]
      exact bad _ (by rw [ptO, hall, Bool.and_false]; rfl) (Keeps.refl _) (Nat.le_refl _) R hR
    | true =>
      have ha : (rs.any fun r => !goodRl r) = false := by
        rw [List.any_eq_false]; intro r hr; simp [List.all_eq_true.1 hall r hr]
      rw [ha] at e1
      have hpos : 0 < rs.length := by omega
      obtain ⟨x, y, F1, F2, ex, hx, hy⟩ := hs.loadRl 0 hpos
      have hg0 : goodRl rs[0] = true := List.all_eq_true.1 hall _ (List.getElem_mem hpos)
      have ix : idxV 2 v (.int .i64 0) = some (.ptr (bOf v) (oOf v)) := by have := hs.idx 2 .i64 0 hpos; simpa using this
      have lx : rdH h (bOf v) (oOf v) 1 = some [x] := by have := rdH_sub ex 0 1 (by omega); simpa using this
      have ly : rdH h (bOf v) (oOf v + 1) 1 = some [y] := by have := rdH_sub ex 1 1 (by omega); simpa using this
      obtain ⟨c6, _, r60, hrow⟩ := goodRl_facts hg0
      obtain ⟨_, h1, e2, a0, b0, Fa, Fb, rfl, sa, sb, k1, l1⟩ := related_ok hx.sl hy (goodRl_more hg0).1 (by omega) (by omega)
      have gt := good_tell hg0
      have gta : addAll rs[0].rows = rs[0].rows := (goodRl_more hg0).2.2.2.2
      rw [gt, hg0] at e2 sa sb
      rw [if_pos rfl] at sa sb
      rw [gta] at sb
      obtain ⟨u, G, eu, su, _, _⟩ := hs.sub (lo := some 1) (hi := none) (i := 1) (j := rs.length) rfl rfl (by omega) (Nat.le_refl _) (k := 2) rfl
      rw [List.take_length] at su
      have hpt : ptO rs = ptF rs[0] (rs.drop 1) := by
        rw [ptO, hall, decide_eq_true hw]
        cases rs with
        | nil => simp at hpos
        | cons a rs => rfl
      have hdg : ∀ r ∈ rs.drop 1, goodRl r = true := fun r hr => List.all_eq_true.1 hall r (List.mem_of_mem_drop hr)
      generalize hqs : rs.drop 1 = qs at *
      rw [hpt] at hR bad
      have sul := su.len
      have eb : bounds true false false [T.v (V.int .i64 1)] = some (some 1, none, none) := rfl
      simp [g763, hs.len, hw, e1, upd, fillL, ix, lx, ly, e2, eb, eu, sul, sa.cells, sa.cell, sb.cells, sb.cell]
      refine Wc_upM (M := [3, 5, 7, 32, 33, 34, 35, 36, 37, 38, 39, 40, 41, 42, 43, 44, 45]) rfl qs.length
        (fun i s => i ≤ qs.length ∧ s.σ 32 = .v (vi i) ∧ s.σ 5 = .v (.bool true) ∧ s.L 2 = (1, [.nils, .nils]) ∧ Keeps h1 s.h ∧ h1.length ≤ s.h.length ∧ ∃ a x y Fx Fy, s.L 4 = (1, [x, y]) ∧ SdF s.h x a.c Fx ∧ SdF s.h y a.rows Fy ∧ goodRl a = true ∧ ptF rs[0] qs = ptF a (qs.drop i)) 0
        ⟨by omega, by simp, by simp, by simp [upd], Keeps.refl _, Nat.le_refl _, rs[0], a0, b0, Fa, Fb, by simp [upd], sa, sb, hg0, rfl⟩ fun i s ⟨gi, g32, g5, gL2, hk, hl0, a, x, y, Fx, Fy, gL4, sx, sy, hga, hpf⟩ hM J hJ => ?_
      by_cases hi : i < qs.length
      · have su' := (su.keep k1).keep hk
        obtain ⟨z, w, F3, F4, ez, hz, hw2⟩ := su'.loadRl i hi
        have iz := su'.idx 2 .i64 i hi
        have st := su'.step hi
        obtain ⟨_, h2, e3, hR2, k2, l2⟩ := JoinTwo_ok sx sy hz hw2
        have hjb : joinB a qs[i] = true := by rw [joinB, hga, hdg _ (List.getElem_mem hi)]; rfl
        rw [hjb] at hR2
        cases hgj : goodRl (joinL a qs[i]) with
        | false =>
          obtain ⟨x2, y2, G1, G2, rfl, _, _, c2⟩ := hR2.get
          rw [hgj] at e3
          simp [g763_0, hM, g32, g5, gL2, gL4, upd, hi, iz, ez, hz.cells, hz.cell, hw2.cells, hw2.cell, sx.cells, sx.cell, sy.cells, sy.cell, e3, c2, fillL, resV, mkV]
          exact bad _ (by rw [hpf]; exact ptF_none hi hgj) (k1.trans (hk.trans k2)) (by omega) R hR
        | true =>
          obtain ⟨x2, y2, G1, G2, rfl, sx2, sy2, c2⟩ := hR2.good rfl hgj
          simp [g763_0, hM, g32, g5, gL2, gL4, upd, hi, iz, ez, hz.cells, hz.cell, hw2.cells, hw2.cell, sx.cells, sx.cell, sy.cells, sy.cell, e3, c2, fillL, st]
          exact hJ _ hi ⟨hi, by simp, by simp, by simp [gL2, upd], hk.trans k2, by show h1.length ≤ h2.length; omega, joinL a qs[i], x2, y2, G1, G2, by simp [upd], sx2, sy2, hgj, by rw [hpf]; exact ptF_next hi hgj⟩
      · have : i = qs.length := by omega
        subst this
        rw [List.drop_length, ptF] at hpf
        simp [g763_0, hM, g32, g5, gL2, gL4, upd, sx.cells, sx.cell, sy.cells, sy.cell, fillL, resV, mkV]
        exact hR _ _ ⟨by rw [hpf]; exact ⟨x, y, Fx, Fy, rfl, sx, sy, sx.cells, sx.cell, sy.cells, sy.cell⟩, k1.trans hk, by omega⟩
  · simp [g763, hs.len, hw, upd, fillL, resV, mkV, -Bool.decide_and]
    exact bad _ (by rw [ptO, decide_eq_false hw]; rfl) (Keeps.refl _) (Nat.le_refl _) R hR
end GL

namespace GL
open Go

theorem all_no {α : Type} {q : α → Bool} {xs : List α} {i : Nat} (hi : i < xs.length) (h : q xs[i] = false) : xs.all q = false := List.all_eq_false.2 ⟨_, List.getElem_mem hi, by simp [h]⟩

theorem PutTogetherS_ok {h : Heap} {v : V} {rs : List Rl} {F : List Nat} (hs : SdF h v rs F) (h9 : ∀ r ∈ rs, r.rows.length ≤ 9) : ∃ o h', call p 765 [v] h = some (o, h') ∧ ptR h' o (ptO rs) ∧ Keeps h h' ∧ h.length ≤ h'.length := by
  have bad : ∀ h', ptO rs = none → Keeps h h' → h.length ≤ h'.length → ∀ R : V → Heap → Prop, (∀ r1 h1, (ptR h1 r1 (ptO rs) ∧ Keeps h h1 ∧ h.length ≤ h1.length) → R r1 h1) → R (.tup [.agg [.nils, .nils], .bool false]) h' := fun h' hb k1 l1 R hR => hR _ _ ⟨by rw [hb]; exact ptR.bad, k1, l1⟩
  refine go (fn := g765) rfl rfl fun R hR => ?_
  by_cases hw : (1 : Int) ≤ rs.length ∧ (rs.length : Int) ≤ 10
  · simp [g765, hs.len, hw, upd, fillL]
    refine Wc_upM (M := [3, 5, 19, 20, 21, 22, 23, 24, 25, 26, 27]) rfl rs.length (fun i s => i ≤ rs.length ∧ s.σ 19 = .v (vi i) ∧ s.h = h ∧ s.L 2 = (1, [.nils, .nils]) ∧ s.L 6 = (0, []) ∧ (rs.take i).all goodRl = true) 0 (by simp [upd]) fun i s ⟨gi, g8, gh, gL2, gL6, hall⟩ hM J hJ => ?_
    by_cases hi : i < rs.length
    · obtain ⟨x, y, F1, F2, ex, hx, hy⟩ := hs.loadRl i hi
      have ix := hs.idx 2 .i64 i hi
      have st := hs.step hi
      have q1 := GoodRelationS_eq (v := .agg [x, y]) ⟨x, y, F1, F2, rfl, hx, hy⟩
      cases hg : goodRl rs[i] with
      | true =>
        rw [hg] at q1
        simp [g765_0, hM, g8, gh, gL2, upd, hi, ix, ex, hx.cells, hx.cell, hy.cells, hy.cell, q1, fillL, st]
        exact hJ _ hi ⟨hi, by simp, rfl, by simp [gL2, upd], by simp [gL6, upd], all_succ hi hall hg⟩
      | false =>
        rw [hg] at q1
        simp [g765_0, hM, g8, gh, gL2, upd, hi, ix, ex, hx.cells, hx.cell, hy.cells, hy.cell, q1, fillL, resV, mkV]
        exact bad _ (by rw [ptO, all_no hi hg, Bool.and_false]; rfl) (Keeps.refl _) (Nat.le_refl _) R hR
    · have : i = rs.length := by omega
      subst this
      rw [List.take_length] at hall
      have hpos : 0 < rs.length := by omega
      obtain ⟨x, y, F1, F2, ex, hx, hy⟩ := hs.loadRl 0 hpos
      have hg0 : goodRl rs[0] = true := List.all_eq_true.1 hall _ (List.getElem_mem hpos)
      have ix : idxV 2 v (.int .i64 0) = some (.ptr (bOf v) (oOf v)) := by have := hs.idx 2 .i64 0 hpos; simpa using this
      have lx : rdH h (bOf v) (oOf v) 1 = some [x] := by have := rdH_sub ex 0 1 (by omega); simpa using this
      have ly : rdH h (bOf v) (oOf v + 1) 1 = some [y] := by have := rdH_sub ex 1 1 (by omega); simpa using this
      obtain ⟨c6, _, r60, hrow⟩ := goodRl_facts hg0
      obtain ⟨_, h1, e2, a0, b0, Fa, Fb, rfl, sa, _, sb, _, _, k1, l1⟩ := l3Tell_ok hx.sl hy (goodRl_more hg0).1 (by omega) (by omega)
      have gt := good_tell hg0
      have gta : addAll rs[0].rows = rs[0].rows := (goodRl_more hg0).2.2.2.2
      rw [gt, hg0] at e2 sa sb
      rw [if_pos rfl] at sa sb
      rw [gta] at sb
      obtain ⟨Fb', sb', _⟩ := sb.sd
      obtain ⟨u, G, eu, su, _, _⟩ := hs.sub (lo := some 1) (hi := none) (i := 1) (j := rs.length) rfl rfl (by omega) (Nat.le_refl _) (k := 2) rfl
      rw [List.take_length] at su
      have hpt : ptO rs = ptF rs[0] (rs.drop 1) := by
        rw [ptO, hall, decide_eq_true hw]
        cases rs with
        | nil => simp at hpos
        | cons a rs => rfl
      have hdg : ∀ r ∈ rs.drop 1, goodRl r = true := fun r hr => List.all_eq_true.1 hall r (List.mem_of_mem_drop hr)
      have hd9 : ∀ r ∈ rs.drop 1, r.rows.length ≤ 9 := fun r hr => h9 r (List.mem_of_mem_drop hr)
      generalize hqs : rs.drop 1 = qs at *
      rw [hpt] at hR bad
      have sul := su.len
      have eb : bounds true false false [T.v (V.int .i64 1)] = some (some 1, none, none) := rfl
      simp [g765_0, hM, g8, gh, gL2, gL6, upd, fillL, ix, lx, ly, e2, eb, eu, sul, sa.cells, sa.cell, sb'.cells, sb'.cell]
      refine Wc_upM (M := [3, 9, 10, 11, 43, 44, 45, 46, 47, 48, 49, 50, 51, 52, 53, 54, 55, 56, 57]) rfl qs.length
        (fun i s => i ≤ qs.length ∧ s.σ 43 = .v (vi i) ∧ s.L 2 = (1, [.nils, .nils]) ∧ Keeps h1 s.h ∧ h1.length ≤ s.h.length ∧ ∃ a x y Fx Fy, s.L 6 = (1, [x, y]) ∧ SdF s.h x a.c Fx ∧ SdF s.h y a.rows Fy ∧ goodRl a = true ∧ ptF rs[0] qs = ptF a (qs.drop i)) 0
        ⟨by omega, by simp, by simp [upd, gL2], Keeps.refl _, Nat.le_refl _, rs[0], a0, b0, Fa, Fb', by simp [upd, gL6], sa, sb', hg0, rfl⟩ fun i s ⟨gi, g32, gL2, hk, hl0, a, x, y, Fx, Fy, gL4, sx, sy, hga, hpf⟩ hM1 J hJ => ?_
      by_cases hi : i < qs.length
      · have su' := (su.keep k1).keep hk
        obtain ⟨z, w, F3, F4, ez, hz, hw2⟩ := su'.loadRl i hi
        have iz := su'.idx 2 .i64 i hi
        have st := su'.step hi
        have hr60 := (goodRl_facts hga).2.2.1
        obtain ⟨_, h2, e3, hR2, k2, l2⟩ := JoinTwoS_ok sx sy hz hw2 (Nat.le_trans (Nat.mul_le_mul hr60 (hd9 _ (List.getElem_mem hi))) (by decide))
        have hjb : joinB a qs[i] = true := by rw [joinB, hga, hdg _ (List.getElem_mem hi)]; rfl
        rw [hjb] at hR2
        cases hgj : goodRl (joinL a qs[i]) with
        | false =>
          obtain ⟨x2, y2, G1, G2, rfl, _, _, c2⟩ := hR2.get
          rw [hgj] at e3
          simp [g765_1, hM, hM1, g32, gL2, gL4, gL6, upd, hi, iz, ez, hz.cells, hz.cell, hw2.cells, hw2.cell, sx.cells, sx.cell, sy.cells, sy.cell, e3, c2, fillL, resV, mkV]
          exact bad _ (by rw [hpf]; exact ptF_none hi hgj) (k1.trans (hk.trans k2)) (by omega) R hR
        | true =>
          obtain ⟨x2, y2, G1, G2, rfl, sx2, sy2, c2⟩ := hR2.good rfl hgj
          simp [g765_1, hM, hM1, g32, gL2, gL4, gL6, upd, hi, iz, ez, hz.cells, hz.cell, hw2.cells, hw2.cell, sx.cells, sx.cell, sy.cells, sy.cell, e3, c2, fillL, st]
          exact hJ _ hi ⟨hi, by simp, by simp [gL2, upd], hk.trans k2, by show h1.length ≤ h2.length; omega, joinL a qs[i], x2, y2, G1, G2, by simp [upd], sx2, sy2, hgj, by rw [hpf]; exact ptF_next hi hgj⟩
      · have : i = qs.length := by omega
        subst this
        rw [List.drop_length, ptF] at hpf
        simp [g765_1, hM, hM1, g32, gL2, gL4, gL6, upd, sx.cells, sx.cell, sy.cells, sy.cell, fillL, resV, mkV]
        exact hR _ _ ⟨by rw [hpf]; exact ⟨x, y, Fx, Fy, rfl, sx, sy, sx.cells, sx.cell, sy.cells, sy.cell⟩, k1.trans hk, by omega⟩
  · simp [g765, hs.len, hw, upd, fillL, resV, mkV, -Bool.decide_and]
    exact bad _ (by rw [ptO, decide_eq_false hw]; rfl) (Keeps.refl _) (Nat.le_refl _) R hR
end GL

namespace GL
open Go

def togI (xs ys : List Int) : List Int := srtI (xs ++ ys.filter fun n => !decide (n ∈ xs))
def comI (xs ys : List Int) : List Int := xs.filter fun n => decide (n ∈ ys)
theorem togI_mem {xs ys : List Int} {n : Int} : n ∈ togI xs ys ↔ n ∈ xs ∨ n ∈ ys := by
  rw [togI, (srtI_perm _).mem_iff, List.mem_append, List.mem_filter]
  constructor
  · rintro (h | ⟨h, _⟩)
    · exact .inl h
    · exact .inr h
  · rintro (h | h)
    · exact .inl h
    · by_cases hn : n ∈ xs
      · exact .inl hn
      · exact .inr ⟨h, by simp [hn]⟩
theorem togI_ris {xs ys : List Int} (h1 : xs.Pairwise (· < ·)) (h2 : ys.Pairwise (· < ·)) : (togI xs ys).Pairwise (· < ·) := by
  refine sorted_nodup (srtI_le _) ((srtI_perm _).nodup_iff.2 ?_)
  refine List.nodup_append.2 ⟨h1.imp fun h => Int.ne_of_lt h, (h2.imp fun h => Int.ne_of_lt h : ys.Nodup).filter _, fun x hx y hy e => ?_⟩
  subst e
  have := (List.mem_filter.1 hy).2
  simp [hx] at this
theorem togI_eq {xs ys zs : List Int} (h1 : xs.Pairwise (· < ·)) (h2 : ys.Pairwise (· < ·)) (h3 : zs.Pairwise (· < ·)) (h4 : ∀ x, x ∈ zs ↔ x ∈ xs ∨ x ∈ ys) : zs = togI xs ys :=
  rising_ext h3 (togI_ris h1 h2) fun x => by rw [h4, togI_mem]
def losB (k : Nat) (fs : List Dp) (xs ys : List Int) : Bool := okDps k fs && risB 0 ((k : Int) - 1) xs && risB 0 ((k : Int) - 1) ys && decide (((togI xs ys).length : Int) = k)
noncomputable def losV (k : Nat) (fs : List Dp) (xs ys : List Int) : Bool := (xs.all fun n => decide (n ∈ clos k fs (comI xs ys))) || (ys.all fun n => decide (n ∈ clos k fs (comI xs ys)))
noncomputable def losR (k : Nat) (fs : List Dp) (xs ys : List Int) : V := .tup [.bool (losB k fs xs ys && losV k fs xs ys), .bool (losB k fs xs ys)]

theorem l6Either_ok {h : Heap} {v w : V} {xs ys : List Int} (hx : Sl h v xs) (hy : Sl h w ys) (h1 : xs.Pairwise (· < ·)) (h2 : ys.Pairwise (· < ·)) (hl : xs.length ≤ 2 ^ 10) (hl2 : ys.length ≤ 2 ^ 10) : ∃ r h', call p 668 [v, w] h = some (r, h') ∧ Sl h' r (togI xs ys) ∧ Keeps h h' ∧ h.length ≤ h'.length := by
  obtain ⟨er, v6, g1, e1, G6, s6, f6, k1, l1⟩ := appNew hx (by omega : xs.length ≤ 2 ^ 20) (k := 1) (bytes := 8) rfl (by decide)
  refine go (fn := g668) rfl rfl fun R hR => ?_
  simp [g668, upd, hx.len, er, e1, hy.len]
  refine Wc_upM (M := [5, 7, 13, 14, 15, 16, 17, 18, 19, 20]) rfl ys.length (fun i s => i ≤ ys.length ∧ s.σ 13 = .v (vi i) ∧ Keeps h s.h ∧ h.length ≤ s.h.length ∧ ∃ v5 zs G, s.σ 5 = .v v5 ∧ SdF s.h v5 zs G ∧ zs.Pairwise (· < ·) ∧ (∀ x, x ∈ zs ↔ x ∈ xs ∨ x ∈ ys.take i) ∧ zs.length ≤ xs.length + i) 0
    ⟨by omega, by simp, k1, l1, v6, xs, G6, by simp, s6, h1, by simp, by omega⟩ fun i s ⟨gi, g13, hk, hl0, v5, zs, G, g5, s5, hr, hm, hn⟩ hM J hJ => ?_
  by_cases hi : i < ys.length
  · have hy' := hy.keeps hk
    have ix := hy'.idx 1 .i64 i hi
    have ld := hy'.loadI i hi
    have st := hy'.step hi
    simp only [Nat.mul_one] at ix
    have hm1 : ∀ x, x ∈ ys.take (i + 1) ↔ x ∈ ys.take i ∨ x = ys[i] := fun x => by rw [List.take_succ_eq_append_getElem hi, List.mem_append, List.mem_singleton]
    generalize ys[i] = n at *
    obtain ⟨v6', h3, e3, ys', G3, s3, r3, m3, n3, g3, k3, l3⟩ := l1Put_ok s5 hr (by omega) n
    simp [g668_0, hM, g13, g5, hi, ix, ld, e3, st]
    exact hJ _ hi ⟨hi, by simp, hk.trans k3, by show h.length ≤ h3.length; omega, v6', ys', G3, by simp, s3, r3, fun x => by rw [m3, hm, hm1, or_assoc], by omega⟩
  · have : i = ys.length := by omega
    subst this
    rw [List.take_length] at hm
    have := togI_eq h1 h2 hr hm
    subst this
    simp [g668_0, hM, g13, g5]
    exact hR _ _ ⟨s5.sl, hk, hl0⟩
theorem l6Part_eq {h : Heap} {vf vx : V} {k : Nat} {fs : List Dp} {xs : List Int} {F : List Nat} (hf : SdF h vf fs F) (hx : Sl h vx xs) (hk : k ≤ 2 ^ 20) : call p 669 [vi k, vf, vx] h = some (.bool (okDps k fs && risB 0 ((k : Int) - 1) xs), h) := by
  have e1 := GoodDepsS_eq hf (k : Int)
  have w1 : IntKind.i64.wrap ((k : Int) - 1) = (k : Int) - 1 := by rw [IntWalk.i64_in] <;> omega
  have e2 := l1Rising_eq hx 0 ((k : Int) - 1)
  refine go_eq (fn := g669) rfl rfl fun R hR => ?_
  cases hg : okDps k fs with
  | false => rw [hg] at e1 hR; simp [g669, e1]; exact hR
  | true =>
    rw [hg] at e1 hR
    rw [Bool.true_and] at hR
    generalize risB 0 ((k : Int) - 1) xs = b at *
    simp [g669, e1, w1, e2]; exact hR
theorem IsLossless_ok {h : Heap} {vf vx vy : V} {k : Nat} {fs : List Dp} {xs ys : List Int} {F F1 F2 : List Nat} (hf : SdF h vf fs F) (hx : SdF h vx xs F1) (hy : SdF h vy ys F2) : ∃ o h', call p 758 [vi k, vf, vx, vy] h = some (o, h') ∧ o = losR k fs xs ys ∧ Keeps h h' ∧ h.length ≤ h'.length := by
  obtain ⟨_, h1, e1, rfl, k1, l1⟩ := GoodDeps_ok hf k
  have bad : ∀ h', losB k fs xs ys = false → Keeps h h' → h.length ≤ h'.length → ∀ R : V → Heap → Prop, (∀ r1 h1, (r1 = losR k fs xs ys ∧ Keeps h h1 ∧ h.length ≤ h1.length) → R r1 h1) → R (.tup [.bool false, .bool false]) h' := fun h' hb k1 l1 R hR => hR _ _ ⟨by rw [losR, hb]; rfl, k1, l1⟩
  refine go (fn := g758) rfl rfl fun R hR => ?_
  cases hg : okDps k fs with
  | false =>
    rw [hg] at e1
    simp [g758, e1]
    exact bad _ (by rw [losB, hg]; rfl) k1 l1 R hR
  | true =>
    rw [hg] at e1
    obtain ⟨hk, hfl, hds⟩ := okDps_in hg
    have e2 := areColumns_eq (hx.keep k1).sl (k : Int) (by omega)
    have e3 := areColumns_eq (hy.keep k1).sl (k : Int) (by omega)
    cases hr1 : risB 0 ((k : Int) - 1) xs with
    | false =>
      rw [hr1] at e2
      simp [g758, e1, e2]
      exact bad _ (by rw [losB, hr1, Bool.and_false]; rfl) k1 l1 R hR
    | true =>
      rw [hr1] at e2
      cases hr2 : risB 0 ((k : Int) - 1) ys with
      | false =>
        rw [hr2] at e3
        simp [g758, e1, e2, e3]
        exact bad _ (by rw [losB, hr2, Bool.and_false]; rfl) k1 l1 R hR
      | true =>
        rw [hr2] at e3
        obtain ⟨i1, p1⟩ := ris_in hr1
        obtain ⟨i2, p2⟩ := ris_in hr2
        have n1 := rising_len p1 i1
        have n2 := rising_len p2 i2
        obtain ⟨v4, h4, e4, zs, G4, s4, f4, p4, m4, k4, l4⟩ := together_ok (hx.keep k1) (hy.keep k1) (by omega)
        have hz := togI_eq p1 p2 p4 m4
        subst hz
        have k14 := k1.trans k4
        have tl := s4.len
        by_cases hn : ((togI xs ys).length : Int) = k
        · have hB : losB k fs xs ys = true := by rw [losB, hg, hr1, hr2, decide_eq_true hn]; rfl
          obtain ⟨v5, h5, e5, G5, s5, f5, k5, l5⟩ := both_ok (hx.keep k14).sl (hy.keep k14).sl (by omega)
          have k15 := k14.trans k5
          have ic : InK k (comI xs ys) := fun n hn => i1 n (List.mem_filter.1 hn).1
          obtain ⟨v6, h6, e6, G6, s6, k6, l6⟩ := closure_ok (xs := comI xs ys) (hf.keep k15) s5.sl hds (p1.filter _) ic (by omega)
          have k16 := k15.trans k6
          obtain ⟨_, h7, e7, rfl, k7, l7⟩ := hasAll_ok s6.sl (hx.keep k16).sl
          obtain ⟨_, h8, e8, rfl, k8, l8⟩ := hasAll_ok (s6.keep k7).sl ((hy.keep k16).keep k7).sl
          cases hv : (xs.all fun n => decide (n ∈ clos k fs (comI xs ys))) with
          | true =>
            rw [hv] at e7
            simp [g758, e1, e2, e3, e4, tl, hn, e5, e6, e7]
            exact hR _ _ ⟨by rw [losR, hB, losV, hv]; rfl, k16.trans k7, by omega⟩
          | false =>
            rw [hv] at e7
            have hR' : R (.tup [.bool (ys.all fun n => decide (n ∈ clos k fs (comI xs ys))), .bool true]) h8 := hR _ _ ⟨by rw [losR, hB, losV, hv]; rfl, (k16.trans k7).trans k8, by omega⟩
            generalize (ys.all fun n => decide (n ∈ clos k fs (comI xs ys))) = b at *
            simp [g758, e1, e2, e3, e4, tl, hn, e5, e6, e7, e8]
            exact hR'
        · simp [g758, e1, e2, e3, e4, tl, hn]
          exact bad _ (by rw [losB, decide_eq_false hn, Bool.and_false]) k14 (by omega) R hR
theorem IsLosslessS_ok {h : Heap} {vf vx vy : V} {k : Nat} {fs : List Dp} {xs ys : List Int} {F F1 F2 : List Nat} (hf : SdF h vf fs F) (hx : SdF h vx xs F1) (hy : SdF h vy ys F2) (hkb : k ≤ 2 ^ 20) : ∃ o h', call p 759 [vi k, vf, vx, vy] h = some (o, h') ∧ o = losR k fs xs ys ∧ Keeps h h' ∧ h.length ≤ h'.length := by
  have bad : ∀ h', losB k fs xs ys = false → Keeps h h' → h.length ≤ h'.length → ∀ R : V → Heap → Prop, (∀ r1 h1, (r1 = losR k fs xs ys ∧ Keeps h h1 ∧ h.length ≤ h1.length) → R r1 h1) → R (.tup [.bool false, .bool false]) h' := fun h' hb k1 l1 R hR => hR _ _ ⟨by rw [losR, hb]; rfl, k1, l1⟩
  have e1 := l6Part_eq hf hx.sl hkb
  have e2 := l6Part_eq hf hy.sl hkb
  refine go (fn := g759) rfl rfl fun R hR => ?_
  cases hg1 : (okDps k fs && risB 0 ((k : Int) - 1) xs) with
  | false =>
    rw [hg1] at e1
    simp [g759, e1]
    exact bad _ (by rw [losB, hg1]; rfl) (Keeps.refl _) (Nat.le_refl _) R hR
  | true =>
    rw [hg1] at e1
    simp only [Bool.and_eq_true] at hg1
    obtain ⟨hg, hr1⟩ := hg1
    obtain ⟨hk, hfl, hds⟩ := okDps_in hg
    rw [hg, Bool.true_and] at e2
    cases hr2 : risB 0 ((k : Int) - 1) ys with
    | false =>
      rw [hr2] at e2
      simp [g759, e1, e2]
      exact bad _ (by rw [losB, hr2, Bool.and_false]; rfl) (Keeps.refl _) (Nat.le_refl _) R hR
    | true =>
      rw [hr2] at e2
      obtain ⟨i1, p1⟩ := ris_in hr1
      obtain ⟨i2, p2⟩ := ris_in hr2
      have n1 := rising_len p1 i1
      have n2 := rising_len p2 i2
      obtain ⟨v4, h4, e4, s4, k4, l4⟩ := l6Either_ok hx.sl hy.sl p1 p2 (by omega) (by omega)
      have tl := s4.len
      by_cases hn : ((togI xs ys).length : Int) = k
      · have hB : losB k fs xs ys = true := by rw [losB, hg, hr1, hr2, decide_eq_true hn]; rfl
        obtain ⟨v5, h5, e5, o5, k5, l5⟩ := l6Both_ok (hx.keep k4).sl (hy.keep k4).sl (by omega)
        have k45 := k4.trans k5
        have ic : InK k (comI xs ys) := fun n hn => i1 n (List.mem_filter.1 hn).1
        obtain ⟨v6, h6, e6, G6, s6, k6, l6⟩ := l5Closure_ok (xs := comI xs ys) (hf.keep k45) o5.sl hds (p1.filter _) ic (by omega)
        have k46 := k45.trans k6
        have e7 := l5Sub_eq (hx.keep k46).sl s6.sl
        have e8 := l5Sub_eq (hy.keep k46).sl s6.sl
        cases hv : (xs.all fun n => decide (n ∈ clos k fs (comI xs ys))) with
        | true =>
          rw [hv] at e7
          simp [g759, e1, e2, e4, tl, hn, e5, e6, e7]
          exact hR _ _ ⟨by rw [losR, hB, losV, hv]; rfl, k46, by omega⟩
        | false =>
          rw [hv] at e7
          have hR' : R (.tup [.bool (ys.all fun n => decide (n ∈ clos k fs (comI xs ys))), .bool true]) h6 := hR _ _ ⟨by rw [losR, hB, losV, hv]; rfl, k46, by omega⟩
          generalize (ys.all fun n => decide (n ∈ clos k fs (comI xs ys))) = b at *
          simp [g759, e1, e2, e4, tl, hn, e5, e6, e7, e8]
          exact hR'
      · simp [g759, e1, e2, e4, tl, hn]
        exact bad _ (by rw [losB, decide_eq_false hn, Bool.and_false]) k4 l4 R hR
end GL

namespace GL
open Go

theorem drawLossless_ok {h : Heap} {v : V} {bs : List Byte} (hs : Sl h v bs) : ∃ r h', call p 757 [v] h = some (r, h') ∧ ∃ (k : Nat) (o x y : V) (fs : List Dp) (xs ys : List Int) (F Fx Fy : List Nat), r = .tup [vi k, o, x, y] ∧ k ≤ 7 ∧ SdF h' o fs F ∧ SdF h' x xs Fx ∧ SdF h' y ys Fy ∧ Keeps h h' ∧ h.length ≤ h'.length := by
  have d0 := DC.start hs
  obtain ⟨_, h1, e1, k, rfl, hk, d1, k1, l1⟩ := d0.cols (by decide)
  obtain ⟨o, h2, e2, fs, F, s2, f2, d2, k2, l2⟩ := d1.deps (by decide) k (by omega)
  obtain ⟨x, h3, e3, az, o3, _, d3, k3, l3⟩ := d2.someCols (by decide) k (by omega)
  obtain ⟨Fa, sa, fa⟩ := o3.fr
  have lt1 := d1.lt
  have lt3 := d3.lt
  have nF : ∀ b ∈ F, b ≠ h.length := fun b hb => by have := f2 b hb; omega
  have na : ∀ b ∈ Fa, b ≠ h.length := fun b hb => by have := fa.ge b hb; omega
  have s3 := s2.keeps (k3.P.mono nF)
  simp at l1
  refine go (fn := g757) rfl rfl fun R hR => ?_
  simp [g757, hs.cells, hs.cell, fillL, e1, e2, e3]
  refine Wc_upM (M := [10, 11, 23, 24, 25, 26, 27, 28, 29, 30, 31, 32, 33, 34, 35, 36, 37, 38, 39]) rfl k (fun i s => i ≤ k ∧ s.σ 11 = .v (vi i) ∧ KeepsBut h.length h3 s.h ∧ h3.length ≤ s.h.length ∧ DC h s.h (100000 + 2 * i) ∧ ∃ (v10 : V) (xs : List Int), s.σ 10 = .v v10 ∧ Out h3.length s.h v10 xs ∧ xs.length ≤ i) 0
    ⟨by omega, by simp, KeepsBut.refl _ _, Nat.le_refl _, d3.mono (by decide), .nils, [], by simp, Out.nil (Nat.le_refl _), by simp⟩ fun i s ⟨gi, g11, hk', hl, dc, v10, xs, g10, o10, hxl⟩ hM J hJ => ?_
  by_cases hi : i < k
  · have st : IntKind.i64.wrap ((i : Int) + 1) = (i + 1 : Nat) := by rw [IntWalk.i64_in] <;> omega
    have e4 := l1Has_eq (sa.keeps (hk'.P.mono na)).sl (i : Int)
    by_cases hm : (i : Int) ∈ az
    · rw [decide_eq_true hm] at e4
      obtain ⟨q, h4, e5, d4, k4, l4⟩ := dc.one (by omega) 3 (by decide)
      have o4 := k4.out o10 (by omega) (by omega)
      cases q with
      | false =>
        simp [g757_0, hM, g11, g10, hi, e4, e5, st, -Int.natCast_add]
        exact hJ _ hi ⟨hi, by simp, hk'.trans k4, by show h3.length ≤ h4.length; omega, d4.mono (by omega), v10, xs, by simp [g10], o4, by omega⟩
      | true =>
        obtain ⟨v7, h5, e6, o5, d5, k5, l5⟩ := Out.draw d4 (hk'.trans k4) (ho := o4) (Nat.le_refl _) lt3 (i : Int) (by omega) (k := 1) (bytes := 8) (cs := [vi i]) rfl (by decide) rfl
        simp [g757_0, hM, g11, g10, hi, e4, e5, fillL, rdS_last, e6, st, -Int.natCast_add]
        exact hJ _ hi ⟨hi, by simp, k5, by show h3.length ≤ h5.length; omega, d5.mono (by omega), v7, _, by simp, o5, by simp; omega⟩
    · rw [decide_eq_false hm] at e4
      obtain ⟨v7, h5, e6, o5, d5, k5, l5⟩ := Out.draw dc hk' (ho := o10) (Nat.le_refl _) lt3 (i : Int) (by omega) (k := 1) (bytes := 8) (cs := [vi i]) rfl (by decide) rfl
      simp [g757_0, hM, g11, g10, hi, e4, fillL, rdS_last, e6, st, -Int.natCast_add]
      exact hJ _ hi ⟨hi, by simp, k5, by show h3.length ≤ h5.length; omega, d5.mono (by omega), v7, _, by simp, o5, by simp; omega⟩
  · have : i = k := by omega
    subst this
    obtain ⟨F5, s5, _⟩ := o10.fr
    simp [g757_0, hM, g11, g10]
    exact hR _ _ ⟨i, o, x, v10, fs, az, xs, F, Fa, F5, rfl, hk, s3.keeps (hk'.P.mono nF), sa.keeps (hk'.P.mono na), s5, dc.keep, by omega⟩
end GL

namespace GL
open Go

theorem DC.relation3 {h0 h : Heap} {N : Nat} (d : DC h0 h N) (hN : N < 2 ^ 55) {vc : V} {c : List Int} (hc : Sl h vc c) (hcb : c = [] ∨ bOf vc ≠ h0.length) (hcl : c.length ≤ 10) :
    ∃ v h', call p 657 [.ptr h0.length 0, vc] h = some (v, h') ∧ ∃ (x y : V) (r : Rl) (F1 F2 : List Nat), v = .agg [x, y] ∧ SdF h' x r.c F1 ∧ SdF h' y r.rows F2 ∧ ((r.rows.length ≤ 9 ∧ (r.c = [] ∨ r.c = c)) ∧ ∀ t ∈ r.rows, ∀ n ∈ t, (0 : Int) ≤ n ∧ n < 3) ∧ (∀ b ∈ F1, h.length ≤ b) ∧ (∀ b ∈ F2, h.length ≤ b) ∧ DC h0 h' (N + 1000) ∧ KeepsBut h0.length h h' ∧ h.length ≤ h'.length := by
  have hlt := d.lt
  have hcB : ∀ {h' : Heap}, KeepsBut h0.length h h' → Sl h' vc c := fun k => hc.but hcb k
  refine go (fn := g657) rfl rfl fun R hR => ?_
  obtain ⟨a, h1, e1, ha, d1, k1, l1⟩ := d.pick (by omega) 8 (by decide)
  have loop : ∀ (k : Nat) (s0 : S) (K : Ex → S → Prop), k ≤ 8 → s0.σ 0 = .v (.ptr h0.length 0) → s0.σ 1 = .v vc → s0.σ 5 = .v .nils → s0.σ 6 = .v (vi k) → DC h0 s0.h (N + 2) → KeepsBut h0.length h s0.h → h.length ≤ s0.h.length →
      (∀ s v (xs : List (List Int)) F, (∀ q, q ∉ [5, 6, 7, 12, 13, 14, 15, 16, 17, 18, 19, 20, 21, 22, 23, 24, 25, 26, 27, 28, 29] → s.σ q = s0.σ q) → s.L = s0.L → s.σ 5 = .v v → OdF h.length s.h v xs F → xs.length ≤ 8 → (∀ r ∈ xs, r.length = c.length ∧ ∀ n ∈ r, (0 : Int) ≤ n ∧ n < 3) → DC h0 s.h (N + 300) → KeepsBut h0.length h s.h → h.length ≤ s.h.length → K (.exit 0) s) → Wc p (.loop g657_1) s0 K := by
    intro k s0 K hk g0 g1 g5 g6 dc kb hl hK
    refine Wc_dnM (M := [5, 6, 7, 12, 13, 14, 15, 16, 17, 18, 19, 20, 21, 22, 23, 24, 25, 26, 27, 28, 29]) rfl (fun k s => k ≤ 8 ∧ s.L = s0.L ∧ s.σ 6 = .v (vi k) ∧ ∃ (xs : List (List Int)) (v : V) (G : List Nat), xs.length + k ≤ 8 ∧ s.σ 5 = .v v ∧ OdF h.length s.h v xs G ∧ (∀ r ∈ xs, r.length = c.length ∧ ∀ n ∈ r, (0 : Int) ≤ n ∧ n < 3) ∧ DC h0 s.h (N + 2 + 20 * xs.length) ∧ KeepsBut h0.length h s.h ∧ h.length ≤ s.h.length) k
      ⟨hk, rfl, g6, [], .nils, [], by simpa using hk, g5, OdF.nil hl, by simp, by simpa using dc, kb, hl⟩ fun k s ⟨hk, gL, g6, xs, v, G, hx, g5, ho, hrl, dc, kb, hl⟩ hM J hJ => ?_
    by_cases hk0 : 0 < k
    · have hk0' : (0 : Int) < k := by omega
      have w2 : IntKind.i64.wrap ((k : Int) - 1) = (k - 1 : Nat) := by rw [IntWalk.i64_in] <;> omega
      simp [g657_1, hM, g1, g6, hk0, (hcB kb).len]
      refine Wc_upM (M := [7, 18, 19, 20, 21, 22, 23, 24, 25]) rfl c.length (fun i t => i ≤ c.length ∧ t.L = s0.L ∧ t.σ 18 = .v (vi i) ∧ ∃ (ys : List Int) (v7 : V), (ys.length = i ∧ ∀ n ∈ ys, (0 : Int) ≤ n ∧ n < 3) ∧ t.σ 7 = .v v7 ∧ Out s.h.length t.h v7 ys ∧ DC h0 t.h (N + 2 + 20 * xs.length + 2 * i) ∧ KeepsBut h0.length s.h t.h ∧ s.h.length ≤ t.h.length) 0
        ⟨by omega, gL, by simp, [], .nils, ⟨rfl, by simp⟩, by simp, Out.nil (Nat.le_refl _), by simpa using dc, KeepsBut.refl _ _, Nat.le_refl _⟩ fun i t ⟨gi, tL, g18, ys, v7, ⟨hyl, hys⟩, g7, oy, dt, kt, lt⟩ hM1 J1 hJ1 => ?_
      by_cases hi : i < c.length
      · obtain ⟨q, h2, e2, hq3, d2, k2, l2⟩ := dt.pick (by omega) 3 (by decide)
        have o2 := k2.out oy (by omega) (by omega)
        have st : IntKind.i64.wrap ((i : Int) + 1) = (i + 1 : Nat) := by rw [IntWalk.i64_in] <;> omega
        obtain ⟨v8, h3, e3, o3, d3, k3, l3⟩ := Out.draw d2 (kt.trans k2) (ho := o2) (Nat.le_refl _) (by omega) (q : Int) (by omega) (k := 1) (bytes := 8) (cs := [vi q]) rfl (by decide) rfl
        simp [g657_0, hM1, hM, g0, g18, g7, hi, e2, fillL, rdS_last, e3, st, -Int.natCast_add]
        exact hJ1 _ hi ⟨hi, tL, by simp, _, v8, ⟨by simp; omega, fun n hn => by
          rcases List.mem_append.1 hn with hn | hn
          · exact hys n hn
          · rw [List.mem_singleton] at hn; subst hn; omega⟩, by simp, o3, d3.mono (by omega), k3, by show s.h.length ≤ h3.length; omega⟩
      · have hic : i = c.length := by omega
        obtain ⟨F7, s7, f7⟩ := oy.fr
        obtain ⟨v9, h4, e4, o4, d4, k4, l4⟩ := OdF.draw dt (kb.trans kt) ho kt lt (Nat.le_refl _) (by omega) f7 (x := ys) (cs := [v7]) ⟨v7, rfl, s7⟩ (by omega) (k := 1) rfl (bytes := 24) (by decide)
        simp [g657_0, hM1, hM, g0, g18, g7, hi, g5, g6, s7.cells, s7.cell, fillL, rdS_last, e4, w2, -Int.natCast_add]
        exact hJ (k - 1) _ (by omega) ⟨by omega, tL, by simp, xs ++ [ys], v9, G ++ F7, by simp; omega, by simp, o4, fun r hr => by
          rcases List.mem_append.1 hr with h | h
          · exact hrl r h
          · simp at h; rw [h]; exact ⟨by omega, hys⟩, d4.mono (by simp; omega), k4, by show h.length ≤ h4.length; omega⟩
    · have : k = 0 := by omega
      subst this
      simp [g657_1, hM, g6]
      exact hK _ v xs G (fun q hq => by
        by_cases h12 : q = 12
        · subst h12; simp at hq
        · by_cases h13 : q = 13
          · subst h13; simp at hq
          · simp [h12, h13]; exact hM q hq) gL (by simp [g5]) ho (by omega) hrl (dc.mono (by omega)) kb hl
  simp [g657, e1]
  refine loop a _ _ (by omega) (by simp) (by simp) (by simp) (by simp) d1 k1 (by show h.length ≤ h1.length; omega) fun s v xs F hM gL g5 ho hxl hrl d2 k2 l2 => ?_
  obtain ⟨F3, s3, f3⟩ := ho.fresh
  obtain ⟨_, h4, e4, x, y, Fx, Fy, rfl, sx, fx, oy, gy, nxy, k4, l4⟩ := l3Tell_ok (hcB k2) s3 (fun r hr => (hrl r hr).1) (by omega) (by omega)
  have d4 := d2.keeps k4
  have kb4 := k2.trans (k4.but _)
  have hx1 := hM 1 (by simp)
  have hx0 := hM 0 (by simp)
  have hx4 := hM 4 (by simp)
  simp at hx1 hx0 hx4
  have gL4 : s.L 4 = (1, [.nils, .nils]) := by rw [gL]; simp [upd]
  have hrc10 : (if goodRl (tellR c xs) = true then c else []) = [] ∨ (if goodRl (tellR c xs) = true then c else []) = c := by
    split
    · exact .inr rfl
    · exact .inl rfl
  have hrv : ∀ t ∈ (if goodRl (tellR c xs) = true then addAll xs else []), ∀ n ∈ t, (0 : Int) ≤ n ∧ n < 3 := by
    split
    · intro t ht
      have hl : LenN c.length xs := fun r hr => (hrl r hr).1
      exact (hrl t (((addAll_facts hl).2.2 t).1 ht)).2
    · simp
  generalize hrc : (if goodRl (tellR c xs) = true then c else []) = rc at *
  have hrr : (if goodRl (tellR c xs) = true then addAll xs else []).length ≤ 8 := by
    split
    · have := addAll_len xs []
      simp only [List.length_nil] at this
      unfold addAll; omega
    · simp
  generalize hrows : (if goodRl (tellR c xs) = true then addAll xs else []) = rr at *
  obtain ⟨F5, s5, hF5⟩ := oy.sd
  have hge5 : ∀ b ∈ F5, h.length ≤ b := fun b hb => by
    rcases hF5 with e | ⟨e, hv, _⟩
    · rw [e] at hb; have := gy b hb; omega
    · rw [e] at hb
      rcases List.mem_cons.1 hb with h1 | h1
      · rw [h1]; have := (oy.ge hv).1; omega
      · have := gy b h1; omega
  have hgex : ∀ b ∈ Fx, h.length ≤ b := fun b hb => by have := fx.ge b hb; omega
  generalize goodRl (tellR c xs) = qg at *
  have nb : ∀ {F : List Nat}, (∀ b ∈ F, h.length ≤ b) → ∀ b ∈ F, b ≠ h0.length := fun hF b hb => by have := hF b hb; omega
  by_cases h0r : 0 < rr.length
  · obtain ⟨one, h6, e6, d6, k6, l6⟩ := d4.one (by omega) 30 (by decide)
    have sx6 := sx.keeps (k6.P.mono (nb hgex))
    have s56 := s5.keeps (k6.P.mono (nb hge5))
    have kb6 := kb4.trans k6
    cases one with
    | false =>
      simp [hx1, hx0, hx4, g5, e4, gL4, upd, sx.cells, sx.cell, s5.cells, s5.cell, s5.len, h0r, e6, fillL, resV, mkV]
      exact hR _ _ ⟨x, y, ⟨rc, rr⟩, Fx, F5, rfl, sx6, s56, ⟨⟨by show rr.length ≤ 9; omega, hrc10⟩, hrv⟩, hgex, hge5, d6.mono (by omega), kb6, by omega⟩
    | true =>
      have oy6' := oy.keeps (k6.P) (fun i hi => by have := (oy.ge hi).1; omega) (fun i hi => by have := gy i hi; omega) (by omega)
      obtain ⟨z, Fz, iz, ez, hz, hzF, hzS⟩ := oy6'.loadL (i := 0) h0r
      have hzG : ∀ b ∈ Fz, h.length ≤ b := fun b hb => by
        have := hzS b hb
        have := gy b this; omega
      have k7 : Keeps h6 (h6 ++ [⟨.own, [z]⟩]) := Keeps.append _ _
      have oy7 := oy6'.keeps (k7.p fun _ => True) (fun _ _ => trivial) (fun _ _ => trivial) (by simp)
      obtain ⟨v8, h8, e8, o8, k8, l8, b8⟩ := oy7.app (zs := [rr[0]]) (ys := [z]) (G := Fz) (by simp) (.one ⟨z, rfl, hz.keep k7⟩) hzF (bytes := 24) (by decide) (by simp; omega) (k := 1) (n := 1) rfl rfl
      obtain ⟨F9, s9, hF9⟩ := o8.sd
      have hge8 : ∀ b ∈ Fy ++ Fz, h.length ≤ b := fun b hb => by
        rcases List.mem_append.1 hb with h1 | h1
        · have := gy b h1; omega
        · exact hzG b h1
      have hge9 : ∀ b ∈ F9, h.length ≤ b := fun b hb => by
        rcases hF9 with e | ⟨e, hv, _⟩
        · rw [e] at hb; exact hge8 b hb
        · rw [e] at hb
          rcases List.mem_cons.1 hb with h1 | h1
          · rw [h1]; have := (o8.ge hv).1; omega
          · exact hge8 b h1
      have hno : ∀ i, i ≤ h0.length → ¬ vB y i := fun i hi hv => by have := (oy.ge hv).1; omega
      have d8 := (d6.keeps k7).far k8 fun i hi => hno i hi
      have kb8 := (kb6.trans (k7.but _)).far k8 fun i hi _ hv => by have := (oy.ge hv).1; omega
      have sx8 := (sx6.keep k7).keeps (k8.mono nxy)
      simp at iz ez
      simp at l8
      simp [hx1, hx0, hx4, g5, e4, gL4, upd, sx.cells, sx.cell, s5.cells, s5.cell, s5.len, h0r, e6, iz, ez, hz.cells, hz.cell, fillL, rdS_last, e8, s9.cells, s9.cell, resV, mkV]
      exact hR _ _ ⟨x, v8, ⟨rc, rr ++ [rr[0]]⟩, Fx, F9, rfl, sx8, s9, ⟨⟨by show (rr ++ [rr[0]]).length ≤ 9; simp; omega, hrc10⟩, fun t ht => by
        rcases List.mem_append.1 ht with h9 | h9
        · exact hrv t h9
        · rw [List.mem_singleton] at h9; rw [h9]; exact hrv _ (List.getElem_mem h0r)⟩, hgex, hge9, d8.mono (by omega), kb8, by omega⟩
  · have hr0 : ¬ 0 < rr.length := h0r
    simp [hx1, hx0, hx4, g5, e4, gL4, upd, sx.cells, sx.cell, s5.cells, s5.cell, s5.len, hr0, fillL, resV, mkV]
    exact hR _ _ ⟨x, y, ⟨rc, rr⟩, Fx, F5, rfl, sx, s5, ⟨⟨by show rr.length ≤ 9; omega, hrc10⟩, hrv⟩, hgex, hge5, d4.mono (by omega), kb4, by omega⟩
end GL

namespace GL
open Go

theorem SdF.atB {α : Type} [Data α] {h : Heap} {b : Nat} {xs : List α} {cs : List V} {F : List Nat} (hb : h[b]? = some ⟨.own, cs⟩) (hr : Reps h xs cs F) (n : Nat) (hn : n = xs.length) (hl : xs.length < 2 ^ 63) : SdF h (.slice b 0 n (.k n)) xs (b :: F) := by
  subst hn
  refine ⟨hl, .inr ⟨b, 0, .k xs.length, rfl, Nat.le_refl _, .inr ⟨⟨.own, cs⟩, cs, F, rfl, hb, by simp, ?_, hr⟩⟩⟩
  simp only [cut, hr.len, Nat.zero_add, Nat.le_refl, if_true, List.drop_zero]
  rw [← hr.len, List.take_length]
theorem SdF.atI {h : Heap} {b : Nat} {xs : List Int} {cs : List V} (hb : h[b]? = some ⟨.own, cs⟩) (hc : cs = flats xs) (n : Nat) (hn : n = xs.length) (hl : xs.length < 2 ^ 63) : SdF h (.slice b 0 n (.k n)) xs [b] :=
  SdF.atB hb (Reps.flat.2 ⟨hc, rfl⟩) n hn hl
def partsOf : List (List (List Int)) := [[[0, 1], [1, 2]], [[0, 1], [0, 2]], [[0, 1, 2]], [[0], [1], [2]], [], [[3]]]
def litB (n : Nat) : List Blk := [⟨.own, [vi 0, vi 1]⟩, ⟨.own, [vi 1, vi 2]⟩, ⟨.own, [.slice n 0 2 (.k 2), .slice (n + 1) 0 2 (.k 2)]⟩, ⟨.own, [vi 0, vi 1]⟩, ⟨.own, [vi 0, vi 2]⟩, ⟨.own, [.slice (n + 3) 0 2 (.k 2), .slice (n + 4) 0 2 (.k 2)]⟩, ⟨.own, [vi 0, vi 1, vi 2]⟩, ⟨.own, [.slice (n + 6) 0 3 (.k 3)]⟩,
  ⟨.own, [vi 0]⟩, ⟨.own, [vi 1]⟩, ⟨.own, [vi 2]⟩, ⟨.own, [.slice (n + 8) 0 1 (.k 1), .slice (n + 9) 0 1 (.k 1), .slice (n + 10) 0 1 (.k 1)]⟩, ⟨.own, [vi 3]⟩, ⟨.own, [.slice (n + 12) 0 1 (.k 1)]⟩,
  ⟨.own, [.slice (n + 2) 0 2 (.k 2), .slice (n + 5) 0 2 (.k 2), .slice (n + 7) 0 1 (.k 1), .slice (n + 11) 0 3 (.k 3), .nils, .slice (n + 13) 0 1 (.k 1)]⟩]
theorem lit_at (h : Heap) {i : Nat} {b : Blk} (hb : (litB h.length)[i]? = some b) : (h ++ litB h.length)[h.length + i]? = some b := by
  rw [List.getElem?_append_right (by omega)]
  rw [show h.length + i - h.length = i by omega]; exact hb
theorem lit_parts (h : Heap) : ∃ F, SdF (h ++ litB h.length) (.slice (h.length + 14) 0 6 (.k 6)) partsOf F ∧ ∀ b ∈ F, h.length ≤ b := by
  have one : ∀ {xs : List Int} {v : V} {F : List Nat}, SdF (h ++ litB h.length) v xs F → Reps (h ++ litB h.length) [xs] [v] F := fun s => .one ⟨_, rfl, s⟩
  have oneL : ∀ {xs : List (List Int)} {v : V} {F : List Nat}, SdF (h ++ litB h.length) v xs F → Reps (h ++ litB h.length) [xs] [v] F := fun s => .one ⟨_, rfl, s⟩
  have i0 := SdF.atI (xs := [0, 1]) (lit_at h (i := 0) rfl) rfl 2 rfl (by decide)
  have i1 := SdF.atI (xs := [1, 2]) (lit_at h (i := 1) rfl) rfl 2 rfl (by decide)
  have i3 := SdF.atI (xs := [0, 1]) (lit_at h (i := 3) rfl) rfl 2 rfl (by decide)
  have i4 := SdF.atI (xs := [0, 2]) (lit_at h (i := 4) rfl) rfl 2 rfl (by decide)
  have i6 := SdF.atI (xs := [0, 1, 2]) (lit_at h (i := 6) rfl) rfl 3 rfl (by decide)
  have i8 := SdF.atI (xs := [0]) (lit_at h (i := 8) rfl) rfl 1 rfl (by decide)
  have i9 := SdF.atI (xs := [1]) (lit_at h (i := 9) rfl) rfl 1 rfl (by decide)
  have i10 := SdF.atI (xs := [2]) (lit_at h (i := 10) rfl) rfl 1 rfl (by decide)
  have i12 := SdF.atI (xs := [3]) (lit_at h (i := 12) rfl) rfl 1 rfl (by decide)
  have l2 := SdF.atB (lit_at h (i := 2) rfl) ((one i0).append (one i1)) 2 rfl (by decide)
  have l5 := SdF.atB (lit_at h (i := 5) rfl) ((one i3).append (one i4)) 2 rfl (by decide)
  have l7 := SdF.atB (lit_at h (i := 7) rfl) (one i6) 1 rfl (by decide)
  have l11 := SdF.atB (lit_at h (i := 11) rfl) ((one i8).append ((one i9).append (one i10))) 3 rfl (by decide)
  have l13 := SdF.atB (lit_at h (i := 13) rfl) (one i12) 1 rfl (by decide)
  have nl : SdF (h ++ litB h.length) .nils ([] : List (List Int)) [] := .nil
  exact ⟨_, SdF.atB (lit_at h (i := 14) rfl) ((oneL l2).append ((oneL l5).append ((oneL l7).append ((oneL l11).append ((oneL nl).append (oneL l13)))))) 6 rfl (by decide), fun b hb => by simp at hb; omega⟩

theorem drawTakeApart_ok {h : Heap} {v : V} {bs : List Byte} (hs : Sl h v bs) : ∃ o h', call p 760 [v] h = some (o, h') ∧ ∃ (x y z : V) (r : Rl) (ps : List (List Int)) (F1 F2 F3 : List Nat), o = .tup [.agg [x, y], z] ∧ SdF h' x r.c F1 ∧ SdF h' y r.rows F2 ∧ SdF h' z ps F3 ∧ ps ∈ partsOf ∧ r.rows.length ≤ 9 ∧ (r.c = [] ∨ r.c = [0, 1, 2]) ∧ (∀ t ∈ r.rows, ∀ n ∈ t, (0 : Int) ≤ n ∧ n < 3) ∧ Keeps h h' ∧ h.length ≤ h'.length := by
  have d0 := DC.start hs
  have d1 : DC h (h ++ [⟨.own, [v, vi 0, .int .u64 0]⟩, ⟨.own, [vi 0, vi 1, vi 2]⟩]) 0 := by
    have := d0.lit [⟨.own, [vi 0, vi 1, vi 2]⟩]
    simpa using this
  have sc := SdF.atI (h := h ++ [⟨.own, [v, vi 0, .int .u64 0]⟩, ⟨.own, [vi 0, vi 1, vi 2]⟩]) (b := h.length + 1) (xs := [0, 1, 2]) (cs := [vi 0, vi 1, vi 2]) (by rw [List.getElem?_append_right (by omega)]; simp) rfl 3 rfl (by decide)
  obtain ⟨_, h2, e2, x, y, r, F1, F2, rfl, sx, sy, ⟨⟨hr9, hrc⟩, hrv⟩, g1, g2, d2, k2, l2⟩ := d1.relation3 (by decide) sc.sl (.inr (by simp [bOf])) (by simp)
  have l2' : h.length + 2 ≤ h2.length := by simpa using l2
  have n1 : ∀ b ∈ F1, b ≠ h.length := fun b hb => by have := g1 b hb; simp at this; omega
  have n2 : ∀ b ∈ F2, b ≠ h.length := fun b hb => by have := g2 b hb; simp at this; omega
  obtain ⟨F3, s3, g3⟩ := lit_parts h2
  have k3 : Keeps h2 (h2 ++ litB h2.length) := Keeps.append _ _
  have d3 := d2.lit (litB h2.length)
  obtain ⟨q, h5, e5, hq, d5, k5, l5⟩ := d3.pick (by decide) 6 (by decide)
  have hq6 : q < partsOf.length := by show q < 6; omega
  have n3 : ∀ b ∈ F3, b ≠ h.length := fun b hb => by have := g3 b hb; omega
  have s5 := s3.keeps (k5.P.mono n3)
  obtain ⟨_, _, Fz, _, ez0, ⟨z, rfl, hz⟩, _⟩ := s5.load q hq6
  have ez : rdH h5 (bOf (.slice (h2.length + 14) 0 6 (.k 6))) (oOf (.slice (h2.length + 14) 0 6 (.k 6)) + q) 1 = some [z] := by
    have hsz : Data.sz (List (List Int)) = 1 := rfl
    rw [hsz, Nat.mul_one] at ez0
    exact ez0
  have ix := s5.idx 1 .i64 q hq6
  simp only [Nat.mul_one, bOf, oOf, Nat.zero_add] at ix ez
  have sx5 := (sx.keep k3).keeps (k5.P.mono n1)
  have sy5 := (sy.keep k3).keeps (k5.P.mono n2)
  simp only [litB] at e5
  have sx2 := sx.cells
  refine go (fn := g760) rfl rfl fun R hR => ?_
  simp [g760, upd, hs.cells, hs.cell, fillL, e2, sx.cells, sx.cell, sy.cells, sy.cell, e5, ix, ez, resV, mkV]
  exact hR _ _ ⟨x, y, z, r, _, F1, F2, Fz, rfl, sx5, sy5, hz, List.getElem_mem hq6, hr9, hrc, hrv, d5.keep, by simp at l5; omega⟩
end GL

namespace GL
open Go

theorem drawPut_ok {h : Heap} {v : V} {bs : List Byte} (hs : Sl h v bs) : ∃ o h', call p 764 [v] h = some (o, h') ∧ ∃ (rs : List Rl) (F : List Nat), SdF h' o rs F ∧ (∀ r ∈ rs, r.rows.length ≤ 9) ∧ Keeps h h' ∧ h.length ≤ h'.length := by
  obtain ⟨_, h1, e1, x, y, z, r, ps, F1, F2, F3, rfl, sx, sy, sz, _, r9, _, _, k1, l1⟩ := drawTakeApart_ok hs
  obtain ⟨_, h2, e2, u, G, rfl, su, k2, l2⟩ := TakeApartS_ok sx sy sz
  refine go (fn := g764) rfl rfl fun R hR => ?_
  simp [g764, upd, hs.cells, hs.cell, fillL, e1, sx.cells, sx.cell, sy.cells, sy.cell, e2]
  refine hR _ _ ⟨_, G, su, fun q hq => ?_, k1.trans k2, by omega⟩
  split at hq
  · obtain ⟨p0, _, rfl⟩ := List.mem_map.1 hq
    have := addAll_le (r.rows.map fun t => pickL r.c t p0)
    rw [List.length_map] at this
    exact Nat.le_trans this r9
  · cases hq
end GL

namespace GL
open Go

/-! what a dependency that holds says of two rows -/
theorem holds_rows {r : Rl} {f : Dp} (h : holdsB r f = true) {t u : List Int} (ht : t ∈ r.rows) (hu : u ∈ r.rows) (hl : pickL r.c t f.l = pickL r.c u f.l) : pickL r.c t f.r = pickL r.c u f.r := by
  obtain ⟨i, hi, rfl⟩ := List.mem_iff_getElem.1 ht
  obtain ⟨j, hj, rfl⟩ := List.mem_iff_getElem.1 hu
  have key : ∀ i j (hi : i < r.rows.length) (hj : j < r.rows.length), j < i → pickL r.c r.rows[i] f.l = pickL r.c r.rows[j] f.l → pickL r.c r.rows[i] f.r = pickL r.c r.rows[j] f.r := fun i j hi hj hji e => by
    rw [holdsB, List.all_eq_true] at h
    have h1 := h i (List.mem_range.2 hi)
    rw [List.all_eq_true] at h1
    have h2 := h1 j (List.mem_range.2 hji)
    rw [holdsP, getD_in hi, getD_in hj, decide_eq_true e] at h2
    simpa using h2
  rcases Nat.lt_trichotomy i j with h1 | h1 | h1
  · exact (key j i hj hi h1 hl.symm).symm
  · subst h1; rfl
  · exact key i j hi hj h1 hl
def cube (t : List Int) : Int := 9 * t.getD 0 0 + 3 * t.getD 1 0 + t.getD 2 0
theorem cube_lt {t u : List Int} (ht : t.length = 3) (hu : u.length = 3) (h1 : ∀ n ∈ t, (0 : Int) ≤ n ∧ n < 3) (h2 : ∀ n ∈ u, (0 : Int) ≤ n ∧ n < 3) (h : ltL t u = true) : cube t < cube u := by
  match t, ht, u, hu with
  | [a, b, c], _, [x, y, z], _ =>
    have a1 := h1 a (by simp)
    have b1 := h1 b (by simp)
    have c1 := h1 c (by simp)
    have x1 := h2 x (by simp)
    have y1 := h2 y (by simp)
    have z1 := h2 z (by simp)
    simp only [cube, List.getD_cons_zero, List.getD_cons_succ]
    by_cases q1 : a = x
    · by_cases q2 : b = y
      · by_cases q3 : c = z
        · simp [ltL, q1, q2, q3] at h
        · simp [ltL, q1, q2, q3] at h; omega
      · simp [ltL, q1, q2] at h; omega
    · simp [ltL, q1] at h; omega
/-- few rows of three small numbers -/
theorem cube_len {rows : List (List Int)} (hl : LenN 3 rows) (hv : ∀ t ∈ rows, ∀ n ∈ t, (0 : Int) ≤ n ∧ n < 3) (hr : RisL rows) : rows.length ≤ 27 := by
  have hp : (rows.map cube).Pairwise (· < ·) := by
    rw [List.pairwise_map]
    refine List.Pairwise.imp_of_mem ?_ hr
    intro t u ht hu h
    exact cube_lt (hl t ht) (hl u hu) (hv t ht) (hv u hu) h
  have := rising_len (n := 27) hp fun x hx => by
    obtain ⟨t, ht, rfl⟩ := List.mem_map.1 hx
    have h3 := hl t ht
    have hv3 := hv t ht
    match t, h3 with
    | [a, b, c], _ =>
      have a1 := hv3 a (by simp)
      have b1 := hv3 b (by simp)
      have c1 := hv3 c (by simp)
      simp only [cube, List.getD_cons_zero, List.getD_cons_succ]
      omega
  rwa [List.length_map] at this

/-- two parts of a relation of three columns, put together -/
theorem put_good {r : Rl} {xs ys : List Int} (hc : r.c = [0, 1, 2]) (hall : ∀ n, n ∈ ([0, 1, 2] : List Int) ↔ n ∈ xs ∨ n ∈ ys) (h1 : projB r xs = true) (h2 : projB r ys = true) (hv : ∀ t ∈ r.rows, ∀ n ∈ t, (0 : Int) ≤ n ∧ n < 3) :
    goodRl (projL r xs) = true ∧ goodRl (projL r ys) = true ∧ togN (projL r xs) (projL r ys) = r.c ∧ goodRl (joinL (projL r xs) (projL r ys)) = true := by
  have g1 := proj_good h1
  have g2 := proj_good h2
  have hN : togN (projL r xs) (projL r ys) = r.c := by
    rw [hc]
    refine (togN_eq g1 g2 (by decide) fun n => ?_).symm
    exact hall n
  have val : ∀ zs : List Int, ∀ t ∈ (projL r zs).rows, ∀ n ∈ t, (0 : Int) ≤ n ∧ n < 3 := fun zs t ht n hn => by
    have hlz : LenN zs.length (r.rows.map fun t => pickL r.c t zs) := fun y hy => by
      obtain ⟨y0, _, rfl⟩ := List.mem_map.1 hy; exact pickL_len _ _ _
    have ht' : t ∈ addAll (r.rows.map fun t => pickL r.c t zs) := ht
    rw [(addAll_facts hlz).2.2] at ht'
    obtain ⟨t0, h0, rfl⟩ := List.mem_map.1 ht'
    obtain ⟨m, _, rfl⟩ := List.mem_map.1 hn
    by_cases hi : (placeL r.c m).toNat < t0.length
    · rw [getD_in hi]; exact hv t0 h0 _ (List.getElem_mem hi)
    · rw [show t0.getD (placeL r.c m).toNat 0 = 0 by rw [List.getD_eq_getElem?_getD, List.getElem?_eq_none (by omega)]; rfl]; decide
  have valD : ∀ zs : List Int, ∀ t ∈ (projL r zs).rows, ∀ i, (0 : Int) ≤ t.getD i 0 ∧ t.getD i 0 < 3 := fun zs t ht i => by
    by_cases hi : i < t.length
    · rw [getD_in hi]; exact val zs t ht _ (List.getElem_mem hi)
    · rw [show t.getD i 0 = 0 by rw [List.getD_eq_getElem?_getD, List.getElem?_eq_none (by omega)]; rfl]; decide
  have hl3 : LenN 3 (joinR (projL r xs) (projL r ys) (projL r xs).rows) := fun t ht => by
    rw [joinR_LenN _ _ _ t ht, hN, hc]; rfl
  have hv3 : ∀ t ∈ joinR (projL r xs) (projL r ys) (projL r xs).rows, ∀ n ∈ t, (0 : Int) ≤ n ∧ n < 3 := fun t ht n hn => by
    obtain ⟨a, ha, b, hb, _, rfl⟩ := joinR_mem.1 ht
    obtain ⟨m, _, rfl⟩ := List.mem_map.1 hn
    unfold joinAt
    split
    · exact valD xs a ha _
    · exact valD ys b hb _
  obtain ⟨q1, q2, q3⟩ := addAll_facts hl3
  have h27 := cube_len q2 (fun t ht => hv3 t ((q3 t).1 ht)) q1
  refine ⟨g1, g2, hN, ?_⟩
  rw [joinL, hN, hc]
  refine small_tell (by decide) (by decide) hl3 (fun t ht => ?_) (by omega)
  rw [List.all_eq_true]
  intro n hn
  have := hv3 t ht n hn
  simp only [smallQ, decide_eq_true_eq]; omega
theorem proj_mem {r : Rl} {xs t : List Int} : t ∈ (projL r xs).rows ↔ ∃ t0 ∈ r.rows, pickL r.c t0 xs = t := by
  have hlz : LenN xs.length (r.rows.map fun t => pickL r.c t xs) := fun y hy => by
    obtain ⟨y0, _, rfl⟩ := List.mem_map.1 hy; exact pickL_len _ _ _
  show t ∈ addAll (r.rows.map fun t => pickL r.c t xs) ↔ _
  rw [(addAll_facts hlz).2.2, List.mem_map]
/-- Heath's theorem, one way: if what is common settles a part, the parts put together are the whole -/
theorem heath {r : Rl} {xs ys : List Int} (hc : r.c = [0, 1, 2]) (hall : ∀ n, n ∈ ([0, 1, 2] : List Int) ↔ n ∈ xs ∨ n ∈ ys) (h1 : projB r xs = true) (h2 : projB r ys = true) (hv : ∀ t ∈ r.rows, ∀ n ∈ t, (0 : Int) ≤ n ∧ n < 3)
    (hh : holdsB r ⟨comI xs ys, xs⟩ = true ∨ holdsB r ⟨comI xs ys, ys⟩ = true) : joinL (projL r xs) (projL r ys) = r := by
  obtain ⟨g1, g2, hN, _⟩ := put_good hc hall h1 h2 hv
  have hg : goodRl r = true := by simp only [projB, Bool.and_eq_true] at h1; exact h1.1
  obtain ⟨hl, hr, _, _, _⟩ := goodRl_more hg
  have hnd := (good_ris hg).2
  have hC : comN (projL r xs) (projL r ys) = comI xs ys := rfl
  have pk : ∀ (zs ws t0 : List Int), (∀ n ∈ ws, n ∈ zs) → pickL zs (pickL r.c t0 zs) ws = pickL r.c t0 ws := fun zs ws t0 h => pick_map (N := zs) (fun x => t0.getD (placeL r.c x).toNat 0) h
  have at1 : ∀ (zs t0 : List Int) (n : Int), n ∈ zs → (pickL r.c t0 zs).getD (placeL zs n).toNat 0 = t0.getD (placeL r.c n).toNat 0 := fun zs t0 n hn => by
    have := pk zs [n] t0 (fun m hm => by rw [List.mem_singleton] at hm; subst hm; exact hn)
    exact (List.cons.inj this).1
  -- a row joined of two rows' parts, which is a row t whose parts agree with both
  have whole : ∀ t0 ∈ r.rows, ∀ u0 ∈ r.rows, ∀ w ∈ r.rows, pickL r.c t0 xs = pickL r.c w xs → pickL r.c u0 ys = pickL r.c w ys → joinT (projL r xs) (projL r ys) (pickL r.c t0 xs) (pickL r.c u0 ys) = w := fun t0 _ u0 _ w hw e1 e2 => by
    rw [e1, e2, joinT, hN]
    have : r.c.map (joinAt (projL r xs) (projL r ys) (pickL r.c w xs) (pickL r.c w ys)) = pickL r.c w r.c := by
      unfold pickL
      apply List.map_congr_left
      intro n hn
      have hn' : n ∈ xs ∨ n ∈ ys := (hall n).1 (hc ▸ hn)
      unfold joinAt
      by_cases hx : n ∈ xs
      · rw [if_pos (show n ∈ (projL r xs).c from hx)]; exact at1 xs w n hx
      · rw [if_neg (show ¬ n ∈ (projL r xs).c from hx)]; exact at1 ys w n (hn'.resolve_left hx)
    rw [this]
    exact pick_all hnd (hl w hw)
  have hA : addAll (joinR (projL r xs) (projL r ys) (projL r xs).rows) = r.rows := by
    refine addAll_of (n := r.c.length) (by rw [← hN]; exact joinR_LenN _ _ _) hr fun x => ?_
    rw [joinR_mem, hC]
    constructor
    · intro hx
      refine ⟨_, proj_mem.2 ⟨x, hx, rfl⟩, _, proj_mem.2 ⟨x, hx, rfl⟩, ?_, whole x hx x hx x hx rfl rfl⟩
      show pickL xs (pickL r.c x xs) (comI xs ys) = pickL ys (pickL r.c x ys) (comI xs ys)
      rw [pk xs (comI xs ys) x fun n hn => (List.mem_filter.1 hn).1, pk ys (comI xs ys) x fun n hn => by simpa using (List.mem_filter.1 hn).2]
    · rintro ⟨t, ht, u, hu, hp, rfl⟩
      obtain ⟨t0, h0, rfl⟩ := proj_mem.1 ht
      obtain ⟨u0, k0, rfl⟩ := proj_mem.1 hu
      have hp' : pickL xs (pickL r.c t0 xs) (comI xs ys) = pickL ys (pickL r.c u0 ys) (comI xs ys) := hp
      rw [pk xs (comI xs ys) t0 fun n hn => (List.mem_filter.1 hn).1, pk ys (comI xs ys) u0 fun n hn => by simpa using (List.mem_filter.1 hn).2] at hp'
      rcases hh with hh | hh
      · have := holds_rows hh h0 k0 hp'
        rw [whole t0 h0 u0 k0 u0 k0 this rfl]; exact k0
      · have := holds_rows hh h0 k0 hp'
        rw [whole t0 h0 u0 k0 t0 h0 rfl this.symm]; exact h0
  rw [joinL, hN, tellR, hA]
/-- the drawn lists of two parts -/
theorem parts_two {ps : List (List Int)} (h : ps ∈ partsOf) (h2 : ps.length = 2) : ∃ xs ys, ps = [xs, ys] ∧ ∀ n, n ∈ ([0, 1, 2] : List Int) ↔ n ∈ xs ∨ n ∈ ys := by
  simp only [partsOf, List.mem_cons, List.not_mem_nil, or_false] at h
  rcases h with rfl | rfl | rfl | rfl | rfl | rfl
  · exact ⟨_, _, rfl, fun n => by simp only [List.mem_cons, List.not_mem_nil, or_false]; omega⟩
  · exact ⟨_, _, rfl, fun n => by simp only [List.mem_cons, List.not_mem_nil, or_false]; omega⟩
  all_goals simp at h2
end GL

namespace GL
open Go

theorem lossless_loop {s0 : S} {u1 u2 : V} {rs : List Rl} {F G : List Nat} (su : SdF s0.h u1 rs F) (sw : SdF s0.h u2 rs G) (g15 : s0.σ 15 = .v u1) (g17 : s0.σ 17 = .v u2) (g99 : s0.σ 99 = .v (vi rs.length)) (g100 : s0.σ 100 = .v (vi 0)) {K : Ex → S → Prop}
    (hK : ∀ s, s.h = s0.h → s.L 13 = s0.L 13 → s.σ 1 = s0.σ 1 → s.σ 13 = s0.σ 13 → s.σ 14 = s0.σ 14 → s.σ 15 = s0.σ 15 → s.σ 16 = s0.σ 16 → s.L 27 = s0.L 27 → s.L 30 = s0.L 30 → s.L 32 = s0.L 32 → K (.exit 0) s) : Wc p (.loop g756_0) s0 K := by
  refine Wc_upM (M := [4, 19, 100, 101, 102, 103, 104, 105, 106, 107, 108, 109, 110, 111, 112, 113]) rfl rs.length (fun i s => i ≤ rs.length ∧ s.σ 100 = .v (vi i) ∧ s.h = s0.h ∧ s.L = s0.L) 0 ⟨by omega, by simpa using g100, rfl, rfl⟩ fun i s ⟨gi, g100, gh, gL⟩ hM J hJ => ?_
  by_cases hi : i < rs.length
  · obtain ⟨x, y, F1, F2, ex, hx, hy⟩ := su.loadRl i hi
    obtain ⟨z, w, F3, F4, ez, hz, hw⟩ := sw.loadRl i hi
    have ix := su.idx 2 .i64 i hi
    have iz := sw.idx 2 .i64 i hi
    have st := su.step hi
    have e := alike hx hy hz hw
    simp [g756_0, hM, g15, g17, g99, g100, gh, hi, ix, iz, ex, ez, hx.cells, hx.cell, hy.cells, hy.cell, hz.cells, hz.cell, hw.cells, hw.cell, e, st]
    exact hJ _ hi ⟨hi, by simp, rfl, gL⟩
  · have : i = rs.length := by omega
    subst this
    simp [g756_0, hM, g99, g100]
    exact hK _ gh (by simp [gL]) (by simp [hM]) (by simp [hM]) (by simp [hM]) (by simp [hM]) (by simp [hM]) (by simp [gL]) (by simp [gL]) (by simp [gL])
theorem lossless_tail {h : Heap} {v : V} {bs : List Byte} (hs : Sl h v bs) : ∃ (z x1 y1 x2 y2 : V) (b : Bool) (h1 h2 h3 : Heap), call p 764 [v] h = some (z, h1) ∧ call p 763 [z] h1 = some (.tup [.agg [x1, y1], .bool b], h2) ∧ CC x1 y1 ∧ call p 765 [z] h2 = some (.tup [.agg [x2, y2], .bool b], h3) ∧ CC x2 y2 ∧ call p 640 [.agg [x1, y1], .agg [x2, y2]] h3 = some (.bool true, h3) := by
  obtain ⟨z, h1, e1, rs, F, sz, r9, k1, l1⟩ := drawPut_ok hs
  obtain ⟨_, h2, e2, ⟨x1, y1, F1, F2, rfl, sx1, sy1, c1⟩, k2, l2⟩ := PutTogether_ok sz
  obtain ⟨_, h3, e3, ⟨x2, y2, F3, F4, rfl, sx2, sy2, c2⟩, k3, l3⟩ := PutTogetherS_ok (sz.keep k2) r9
  exact ⟨z, x1, y1, x2, y2, _, h1, h2, h3, e1, e2, c1, e3, c2, alike (sx1.keep k3) (sy1.keep k3) sx2 sy2⟩

set_option maxRecDepth 40000 in
theorem FnLossless_ok {h : Heap} {va vb : V} {az bs : List Byte} (ha : Sl h va az) (hb : Sl h vb bs) : ∃ r h', call p 756 [va, vb] h = some (r, h') ∧ r = .bool true := by
  refine go (fn := g756) rfl rfl fun R hR => ?_
  by_cases hbig : (1048576 : Int) < IntKind.i64.wrap ((az.length : Int) + bs.length)
  · simp [g756, ha.len, hb.len, hbig]
    exact hR _ _ rfl
  · obtain ⟨_, h1, e1, k, o, xl, yl, fs, xs0, ys0, Fo, Fxl, Fyl, rfl, hk7, so, sxl, syl, k1, l1⟩ := drawLossless_ok ha
    obtain ⟨_, h2, e2, rfl, k2, l2⟩ := IsLossless_ok (k := k) so sxl syl
    obtain ⟨_, h3, e3, rfl, k3, l3⟩ := IsLosslessS_ok (k := k) (so.keep k2) (sxl.keep k2) (syl.keep k2) (by omega)
    rw [losR] at e2 e3
    generalize (losB k fs xs0 ys0 && losV k fs xs0 ys0) = bl1 at *
    generalize losB k fs xs0 ys0 = bl2 at *
    have k13 := (k1.trans k2).trans k3
    obtain ⟨_, h4, e4, x, y, z, r, ps, F1, F2, F3, rfl, sx, sy, sz, hps, r9, hrc, hrv, k4, l4⟩ := drawTakeApart_ok (hb.keeps k13)
    have cxy : CC x y := ⟨sx.cells, sx.cell, sy.cells, sy.cell⟩
    obtain ⟨_, h5, e5, u1, G1, rfl, su1, k5, l5⟩ := TakeApart_ok sx sy sz
    obtain ⟨_, h6, e6, u2, G2, rfl, su2, k6, l6⟩ := TakeApartS_ok (sx.keep k5) (sy.keep k5) (sz.keep k5)
    have su1' := su1.keep k6
    have k56 := k5.trans k6
    have k16 := (k13.trans k4).trans k56
    have ul1 := su1'.len
    have ul2 := su2.len
    have zl := (sz.keep k56).len
    cases hT : tkB r ps with
    | false =>
      rw [hT] at e5 e6 su1' su2 ul1 ul2
      obtain ⟨z9, x1, y1, x2, y2, b9, g1, g2, g3, u3, u4, c1, u5, c2, u6⟩ := lossless_tail (hb.keeps k16)
      simp [g756, ha.len, hb.len, hbig, upd, fillL, e1, e2, e3, e4, cxy, e5, e6, ul1, ul2]
      refine lossless_loop su1' su2 (by simp) (by simp) (by simp) (by simp) fun s gh gL g1' g13 g14 g15 g16 gL27 gL30 gL32 => ?_
      simp at gh g1' g13 g14 g15 g16
      simp [upd] at gL gL27 gL30 gL32
      simp [gh, g1', g13, g14, g15, g16, gL, gL27, gL30, gL32, upd, fillL, u3, u4, c1, u5, c2, u6]
      exact hR _ _ rfl
    | true =>
      rw [hT] at e5 e6 su1' su2 ul1 ul2
      rw [if_pos rfl] at su1' su2 ul1 ul2
      by_cases h2p : ps.length = 2
      · obtain ⟨xs, ys, rfl, hall⟩ := parts_two hps h2p
        have hx : tkQ r xs = true ∧ tkQ r ys = true := by
          have := hT
          simp only [tkB, Bool.and_eq_true, List.all_cons, List.all_nil] at this
          exact ⟨this.2.1, this.2.2.1⟩
        obtain ⟨hq1, hq2⟩ := hx
        simp only [tkQ, Bool.and_eq_true] at hq1 hq2
        have hp1 := hq1.1
        have hp2 := hq2.1
        have hgp : goodRl r = true ∧ partB r.c xs = true := by simpa [projB] using hp1
        have hgp2 : partB r.c ys = true := by
          have : goodRl r = true ∧ partB r.c ys = true := by simpa [projB] using hp2
          exact this.2
        have hcc : r.c = [0, 1, 2] := by
          rcases hrc with e | e
          · have hin := (part_facts hgp.2).1
            have hin2 := (part_facts hgp2).1
            rw [e] at hin hin2
            rcases (hall 0).1 (by simp) with q | q
            · exact absurd (hin 0 q) (by simp)
            · exact absurd (hin2 0 q) (by simp)
          · exact e
        obtain ⟨pg1, pg2, _, pg4⟩ := put_good hcc hall hp1 hp2 hrv
        have hpt : ptO (tkL r [xs, ys]) = some (joinL (projL r xs) (projL r ys)) := by
          simp [ptO, tkL, ptH, ptF, pg1, pg2, pg4]
        have pcom : partB r.c (comI xs ys) = true := by
          have hh := hgp.2
          simp only [partB, Bool.and_eq_true, List.all_eq_true, decide_eq_true_eq] at hh ⊢
          exact ⟨fun n hn => hh.1 n (List.mem_filter.1 hn).1, hh.2.filter _⟩
        have kz := k56
        have sz6 := sz.keep k56
        obtain ⟨vx, Fx, ex0, sx0, _⟩ := sz6.loadL 0 (by simp)
        obtain ⟨vy, Fy, ey0, sy0, _⟩ := sz6.loadL 1 (by simp)
        have ix0 : idxV 1 z (.int .i64 0) = some (.ptr (bOf z) (oOf z)) := by have := sz6.idx 1 .i64 0 (by simp); simpa using this
        have ix1 : idxV 1 z (.int .i64 1) = some (.ptr (bOf z) (oOf z + 1)) := by have := sz6.idx 1 .i64 1 (by simp); simpa using this
        simp only [Nat.add_zero, List.getElem_cons_zero, List.getElem_cons_succ] at ex0 ey0 sx0 sy0
        have zl2 : lenV z = some 2 := zl
        simp [g756, ha.len, hb.len, hbig, upd, fillL, e1, e2, e3, e4, cxy, e5, e6, ul1, ul2]
        refine lossless_loop su1' su2 (by simp) (by simp) (by simp) (by simp) fun s gh gL g1' g13 g14 g15 g16 gL27 gL30 gL32 => ?_
        simp at gh g1' g13 g14 g15 g16
        simp [upd] at gL gL27 gL30 gL32
        simp [gh, g1', g13, g14, g15, g16, gL, upd, fillL, zl2, ix0, ex0, sx0.len]
        refine Wc_upM (M := [20, 22, 124, 125, 126, 127, 128, 129, 130, 131, 132, 133, 134, 135, 136, 137]) rfl xs.length (fun i t => i ≤ xs.length ∧ t.σ 124 = .v (vi i) ∧ t.L 13 = (1, [x, y]) ∧ t.L 27 = (0, []) ∧ t.L 30 = (0, []) ∧ t.L 32 = (0, []) ∧ Keeps h6 t.h ∧ h6.length ≤ t.h.length ∧ ∃ v20, t.σ 20 = .v v20 ∧ Out h6.length t.h v20 ((xs.take i).filter fun n => decide (n ∈ ys))) 0
          ⟨by omega, by simp, by simp [gL], by simp [gL27], by simp [gL30], by simp [gL32], by simp [gh, Keeps.refl], by simp [gh], .nils, by simp, by simpa [gh] using Out.nil (Nat.le_refl _)⟩ fun i t ⟨gi, g124, tL, tL27, tL30, tL32, hk, hl0, v20, g20, o20⟩ hM J hJ => ?_
        by_cases hi : i < xs.length
        · have sxx := sx0.keep hk
          have ix := sxx.idx 1 .i64 i hi
          have ld := sxx.sl.loadI i hi
          have st := sxx.step hi
          simp only [Nat.mul_one] at ix
          have eh := has_eq (sy0.keep hk).sl xs[i]
          have ey := rdH_keep hk ey0
          have fl : ((xs.take i).filter fun n => decide (n ∈ ys)).length ≤ 2 ^ 20 := by
            have q1 := List.length_filter_le (fun n => decide (n ∈ ys)) (xs.take i)
            have q2 := (part_facts hgp.2).2
            rw [hcc] at q2
            rw [List.length_take] at q1
            simp at q2
            omega
          have hTk : (xs.take (i + 1)).filter (fun n => decide (n ∈ ys)) = (xs.take i).filter (fun n => decide (n ∈ ys)) ++ if xs[i] ∈ ys then [xs[i]] else [] := by
            rw [List.take_succ_eq_append_getElem hi, List.filter_append]
            congr 1
            by_cases hc : xs[i] ∈ ys <;> simp [hc]
          generalize xs[i] = n at *
          by_cases hc : n ∈ ys
          · rw [decide_eq_true hc] at eh
            rw [if_pos hc] at hTk
            obtain ⟨v', h9, e9, o9, k9, l9⟩ := o20.one n fl
            have kf := o20.far hk k9 (Nat.le_refl _)
            simp [g756_1, hM, g14, g124, g20, hi, ix, ld, ix1, ey, eh, fillL, rdS_last, e9, st]
            exact hJ _ hi ⟨hi, by simp, by simp [tL], by simp [tL27], by simp [tL30], by simp [tL32], kf, by show h6.length ≤ h9.length; omega, v', by simp, by rw [hTk]; exact o9⟩
          · rw [decide_eq_false hc] at eh
            rw [if_neg hc, List.append_nil] at hTk
            simp [g756_1, hM, g14, g124, g20, hi, ix, ld, ix1, ey, eh, st]
            exact hJ _ hi ⟨hi, by simp, by simp [tL], by simp [tL27], by simp [tL30], by simp [tL32], hk, hl0, v20, by simp [g20], by rw [hTk]; exact o20⟩
        · have : i = xs.length := by omega
          subst this
          rw [List.take_length, show (xs.filter fun n => decide (n ∈ ys)) = comI xs ys from rfl] at o20
          obtain ⟨F20, s20, f20⟩ := o20.fr
          have kt := k56.trans hk
          have sxt := sx.keep kt
          have syt := sy.keep kt
          have sx0t := sx0.keep hk
          have sy0t := sy0.keep hk
          have ext := rdH_keep hk ex0
          have eyt := rdH_keep hk ey0
          obtain ⟨_, h7, e7, rfl, k7, l7⟩ := HoldsIn_ok (v := .agg [x, y]) (w := .agg [v20, vx]) (r := r) (f := ⟨comI xs ys, xs⟩) ⟨x, y, F1, F2, rfl, sxt, syt⟩ ⟨v20, vx, F20, Fx, rfl, s20, sx0t⟩
          obtain ⟨_, h8, e8, rfl, k8, l8⟩ := HoldsIn_ok (v := .agg [x, y]) (w := .agg [v20, vy]) (r := r) (f := ⟨comI xs ys, ys⟩) ⟨x, y, F1, F2, rfl, sxt.keep k7, syt.keep k7⟩ ⟨v20, vy, F20, Fy, rfl, s20.keep k7, sy0t.keep k7⟩
          have ok1 : okHold r ⟨comI xs ys, xs⟩ = true := by simp only [okHold, Bool.and_eq_true]; exact ⟨⟨hgp.1, pcom⟩, hgp.2⟩
          have ok2 : okHold r ⟨comI xs ys, ys⟩ = true := by simp only [okHold, Bool.and_eq_true]; exact ⟨⟨hgp.1, pcom⟩, hgp2⟩
          rw [holdsR, if_pos ok1] at e7
          rw [holdsR, if_pos ok2] at e8
          have eyt8 := rdH_keep k7 eyt
          have k78 := hk.trans (k7.trans k8)
          obtain ⟨_, h10, e10, ⟨x3, y3, F3', F4', rfl, sx3, sy3, c3⟩, k10, l10⟩ := PutTogether_ok (su1'.keep k78)
          rw [hpt] at e10 sx3 sy3
          simp only [Option.isSome_some, Option.getD_some] at e10 sx3 sy3
          have same : holdsB r ⟨comI xs ys, xs⟩ = true ∨ holdsB r ⟨comI xs ys, ys⟩ = true → call p 640 [.agg [x3, y3], .agg [x, y]] h10 = some (.bool true, h10) := fun hh => by
            have := heath hcc hall hp1 hp2 hrv hh
            rw [this] at sx3 sy3
            have kx := (k56.trans k78).trans k10
            exact alike sx3 sy3 (sx.keep kx) (sy.keep kx)
          obtain ⟨z9, x1, y1, x2, y2, b9, g1, g2, g3, u3, u4, c1, u5, c2, u6⟩ := lossless_tail (hb.keeps ((k16.trans k78).trans k10))
          have cc20 : CC v20 vx := ⟨s20.cells, s20.cell, sx0t.cells, sx0t.cell⟩
          have ccy : CC v20 vy := ⟨s20.cells, s20.cell, sy0t.cells, sy0t.cell⟩
          have h124 : ¬ xs.length < xs.length := by omega
          cases d1 : holdsB r ⟨comI xs ys, xs⟩ with
          | true =>
            have q := same (.inl d1)
            rw [d1] at e7
            simp [g756_1, hM, g1', g13, g14, g15, g16, g124, g20, tL, tL27, tL30, tL32, upd, fillL, ix0, ix1, ext, eyt8, cxy, cc20, ccy, e7, e8, e10, c3, q, u3, u4, c1, u5, c2, u6]
            exact hR _ _ rfl
          | false =>
            rw [d1] at e7
            cases d2 : holdsB r ⟨comI xs ys, ys⟩ with
            | true =>
              have q := same (.inr d2)
              rw [d2] at e8
              simp [g756_1, hM, g1', g13, g14, g15, g16, g124, g20, tL, tL27, tL30, tL32, upd, fillL, ix0, ix1, ext, eyt8, cxy, cc20, ccy, e7, e8, e10, c3, q, u3, u4, c1, u5, c2, u6]
              exact hR _ _ rfl
            | false =>
              rw [d2] at e8
              simp [g756_1, hM, g1', g13, g14, g15, g16, g124, g20, tL, tL27, tL30, tL32, upd, fillL, ix0, ix1, ext, eyt8, cxy, cc20, ccy, e7, e8, e10, c3, u3, u4, c1, u5, c2, u6]
              exact hR _ _ rfl
      · have h2p' : ¬ (ps.length : Int) = 2 := by omega
        obtain ⟨z9, x1, y1, x2, y2, b9, g1, g2, g3, u3, u4, c1, u5, c2, u6⟩ := lossless_tail (hb.keeps k16)
        simp [g756, ha.len, hb.len, hbig, upd, fillL, e1, e2, e3, e4, cxy, e5, e6, ul1, ul2]
        refine lossless_loop su1' su2 (by simp) (by simp) (by simp) (by simp) fun s gh gL g1' g13 g14 g15 g16 gL27 gL30 gL32 => ?_
        simp at gh g1' g13 g14 g15 g16
        simp [upd] at gL gL27 gL30 gL32
        simp [gh, g1', g13, g14, g15, g16, gL, gL27, gL30, gL32, upd, fillL, zl, h2p', u3, u4, c1, u5, c2, u6]
        exact hR _ _ rfl
end GL

