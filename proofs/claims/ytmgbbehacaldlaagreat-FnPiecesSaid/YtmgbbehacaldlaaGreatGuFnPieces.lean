import Derived.ChangeArms
import Derived.IntWalk
import Derived.WideShapes
import Derived.Test.YtmgbbehacaldlaaGreatGuFnPiecesB
/- What the functions of the law do, on the machine. -/
set_option linter.unusedSimpArgs false
set_option linter.unusedVariables false
set_option linter.unnecessarySimpa false
namespace GL
open Go

theorem OrderByD_ok {h : Heap} {v : V} {l : List (List Int)} {F : List Nat} (hs : SdF h v l F) (hl : linksB l = true) :
    ∃ r h', call p 498 [v] h = some (r, h') ∧ ∃ o G, r = .tup [o, .bool true] ∧ SdF h' o (groupsL l).flatten G ∧ Keeps h h' ∧ h.length ≤ h'.length := by
  obtain ⟨_, h1, e1, rfl, k1, l1⟩ := GoodLinks_ok hs
  refine go (fn := g498) rfl rfl fun R hR => ?_
  rw [hl] at e1
  obtain ⟨l12, _⟩ := linksB_facts hl
  obtain ⟨r, h2, e2, G, s2, k2, l2⟩ := groups_ok (hs.keep k1) hl
  obtain ⟨o, h3, e3, G3, s3, f3, k3, l3⟩ := concat_ok s2 (by rw [groupsL_flat hl]; omega)
  simp [g498, e1, e2, e3]
  exact hR _ _ ⟨o, G3, rfl, s3, (k1.trans k2).trans k3, by omega⟩
theorem OrderByDS_ok {h : Heap} {v : V} {l : List (List Int)} {F : List Nat} (hs : SdF h v l F) (hl : linksB l = true) :
    ∃ r h', call p 499 [v] h = some (r, h') ∧ ∃ o G, r = .tup [o, .bool true] ∧ SdF h' o (groupsL l).flatten G ∧ Keeps h h' ∧ h.length ≤ h'.length := by
  have e1 := GoodLinksS_eq hs
  refine go (fn := g499) rfl rfl fun R hR => ?_
  rw [hl] at e1
  obtain ⟨l12, _⟩ := linksB_facts hl
  obtain ⟨r, h2, e2, G, s2, k2, l2⟩ := l9Groups_ok hs hl
  have hfl := groupsL_flat hl
  simp [g499, e1, e2, s2.len]
  refine Wc_upM (M := [4, 6, 13, 14, 15, 16, 17, 18, 19, 20]) rfl (groupsL l).length (fun i s => s.σ 13 = .v (vi i) ∧ ∃ v4, s.σ 4 = .v v4 ∧ Out h2.length s.h v4 ((groupsL l).take i).flatten ∧ Keeps h2 s.h ∧ h2.length ≤ s.h.length) 0
    ⟨by simp, .nils, by simp, by simpa using Out.nil (Nat.le_refl _), Keeps.refl _, Nat.le_refl _⟩ fun i s ⟨g13, v4, g4, ho, hk, hln⟩ hM J hJ => ?_
  by_cases hn : i < (groupsL l).length
  · obtain ⟨x, F2, ex, hx, _⟩ := (s2.keep hk).loadL i hn
    have hle := flat_le (groupsL l) i
    have hle2 := flat_le (groupsL l) (i + 1)
    have ht := flat_take hn
    rw [ht, List.length_append] at hle2
    obtain ⟨ys, v5, h3, e3, e4, o3, k3, l3⟩ := ho.appS hx.sl (bytes := 8) (by decide) (by omega) (k := 1) rfl (n := (groupsL l)[i].length) rfl
    have ix := s2.idx 1 .i64 i hn
    simp only [Nat.mul_one] at ix
    simp [g499_0, hM, g13, g4, hn, ix, ex, hx.len, e3, e4, s2.step hn]
    exact hJ _ hn ⟨by simp, v5, by simp, by rw [ht]; exact o3, ho.far hk k3 (Nat.le_refl _), by show h2.length ≤ h3.length; omega⟩
  · rw [List.take_of_length_le (by omega)] at ho
    obtain ⟨Fo, so, _⟩ := ho.fr
    simp [g499_0, hM, g13, g4, hn]
    exact hR _ _ ⟨v4, Fo, rfl, so, k2.trans hk, by omega⟩

theorem drawRunPieces_ok {h : Heap} {v : V} {bs : List Byte} (hs : Sl h v bs) : ∃ r h', call p 704 [v] h = some (r, h') ∧ ∃ (a b w : V) (st : List Int) (l : List Sp) (os : List Int) (G : List Nat), r = .tup [a, b, w] ∧ Sl h' a st ∧ Sl h' b l ∧ SdF h' w os G ∧ l.length ≤ 12 ∧ os.length ≤ 100 ∧ Keeps h h' ∧ h.length ≤ h'.length := by
  have d0 := DC.start hs
  obtain ⟨a, h1, e1, st, o1, hst, d1, k1, l1⟩ := d0.cellsOf (by decide)
  obtain ⟨b, h2, e2, l, o2, hl, d2, k2, l2⟩ := d1.steps (by omega)
  obtain ⟨w, h3, e3, os, o3, hos, d3, k3, l3⟩ := d2.shuffled (by omega) 3 (by omega)
  have o1' : Out (h ++ [(⟨.own, [v, vi 0, .int .u64 0]⟩ : Blk)]).length h3 a st := o1.keeps (k2.trans k3).P (fun i hi => by have := (o1.ge hi).1; simp at this; omega) (by omega)
  have o2' : Out h1.length h3 b l := o2.keeps k3.P (fun i hi => by have := (o2.ge hi).1; simp at l1; omega) l3
  obtain ⟨_, h4, e4, o4, F4, rfl, s4, f4, k4, l4⟩ := NeedsOfS_ok o2'.sl (by omega)
  obtain ⟨G, sw, fw⟩ := o3.fr
  have d4 := d3.keeps k4
  simp at e1 e2 e3 l1 l2 l3
  refine go (fn := g704) rfl rfl fun R hR => ?_
  have w3 : (vi 3) = vi ((3 : Nat) : Int) := rfl
  have fin : ∀ (w' : V) (xs : List Int) (G' : List Nat) (h5 : Heap), SdF h5 w' xs G' → xs.length ≤ 100 → (∀ {α : Type} [Flat α] (u : V) (ys : List α), Sl h4 u ys → (ys = [] ∨ bOf u ≠ h.length) → Sl h5 u ys) → Keeps h h5 → h.length ≤ h5.length → R (.tup [a, b, w']) h5 := fun w' xs G' h5 hw hx hsl hk hl5 => by
    have nb : ∀ {α : Type} [Flat α] {lo : Nat} {h9 : Heap} {v9 : V} {xs9 : List α}, h.length < lo → Out lo h9 v9 xs9 → xs9 = [] ∨ bOf v9 ≠ h.length := fun hlo o => by
      obtain ⟨_, _, ⟨rfl, rfl⟩ | ⟨b1, rfl, hb1, _⟩ | ⟨b1, rfl, rfl, _⟩⟩ := o
      · exact .inl rfl
      · right; simp [bOf]; omega
      · exact .inl rfl
    exact hR _ _ ⟨a, b, w', st, l, xs, G', rfl, hsl a st (o1'.sl.keeps k4) (nb (by simp) o1'), hsl b l (o2'.sl.keeps k4) (nb (by omega) o2'), hw, hl, hx, hk, hl5⟩
  cases hg : stepsB l with
  | false =>
    rw [hg] at e4
    simp [g704, hs.cells, hs.cell, fillL, e1, e2, e3, e4]
    exact fin w os G h4 (sw.keep k4) (by omega) (fun u ys h _ => h) d4.keep (by omega)
  | true =>
    rw [hg] at e4 s4
    simp only [if_true] at s4
    obtain ⟨one, h5, e5, d5, k5, l5⟩ := d4.one (by omega) 2 (by decide)
    have nG : ∀ b ∈ G, b ≠ h.length := fun b hb => by have := fw.ge b hb; omega
    cases one with
    | false =>
      simp [g704, hs.cells, hs.cell, fillL, e1, e2, e3, e4, e5]
      exact fin w os G h5 ((sw.keep k4).keeps (k5.P.mono nG)) (by omega) (fun u ys h hu => h.but hu k5) d5.keep (by omega)
    | true =>
      have nF : ∀ b ∈ F4, b ≠ h.length := fun b hb => by have := f4 b hb; omega
      obtain ⟨_, h6, e6, o6, G6, rfl, s6, k6, l6⟩ := OrderByDS_ok (s4.keeps (k5.P.mono nF)) (ndL_links _ _)
      simp [g704, hs.cells, hs.cell, fillL, e1, e2, e3, e4, e5, e6]
      exact fin o6 _ G6 h6 s6 (by rw [groupsL_flat (ndL_links _ _), ndL_len]; omega) (fun u ys h hu => (h.but hu k5).keeps k6) (d5.keep.trans k6) (by omega)

theorem pieceR_run {l : List Sp} {st os : List Int} (h : pieceB l st os = true) : pieceR l st os = runR l st ∧ runB l st = true := by
  have hs := pieces_serial h
  have h' := h
  simp only [pieceB, Bool.and_eq_true] at h'
  have hr : runB l st = true := by simp [runB, h'.1.1.1.1, h'.1.1.1.2]
  exact ⟨by rw [pieceR, if_pos h, runR, if_pos hr, hs], hr⟩
theorem split_piece {l : List Sp} {st : List Int} (h : runB l st = true) : pieceB l st (groupsL (ndL l l.length)).flatten = spB l := by
  simp only [runB, Bool.and_eq_true] at h
  have hg := ndL_links l l.length
  have hfc := groupsL_facts hg
  have hlen : (groupsL (ndL l l.length)).flatten.length = 3 := by rw [groupsL_flat hg, ndL_len]
  have hon : onceB 3 (groupsL (ndL l l.length)).flatten = true := by
    simp only [onceB, decide_eq_true_eq]
    refine ⟨fun x hx => ?_, hfc.1⟩
    have := (hfc.2.1 x).2 hx
    unfold InR at this; rw [ndL_len] at this; omega
  rw [pieceB_facts h.1 h.2 hlen hon, split_order, spB, h.2, Bool.true_and]

theorem pieces_tail {h : Heap} {v : V} {bs : List Byte} (hb : Sl h v bs) : ∃ (u : V) (h1 h2 h3 h4 h5 : Heap) (o4 o5 : V) (x y : Bool), call p 710 [v] h = some (u, h1) ∧ call p 708 [u] h1 = some (.tup [.bool x, .bool y], h2) ∧ call p 711 [u] h2 = some (.tup [.bool x, .bool y], h3) ∧ call p 709 [u] h3 = some (.tup [o4, .bool y], h4) ∧ call p 712 [u] h4 = some (.tup [o5, .bool y], h5) ∧ call p 383 [o4, o5] h5 = some (.bool true, h5) ∧ call p 597 [u] h5 = some (.bool y, h5) ∧ call p 601 [u] h5 = some (.bool y, h5) := by
  obtain ⟨u, h1, e1, l, sl, hl, k1, l1⟩ := drawCanSplit_ok hb
  obtain ⟨_, h2, e2, rfl, k2, l2⟩ := CanSplit_ok sl (by omega)
  obtain ⟨_, h3, e3, rfl, k3, l3⟩ := CanSplitS_ok (sl.keeps k2) (by omega)
  have k23 := k2.trans k3
  obtain ⟨_, h4, e4, o4, F4, rfl, s4, k4, l4⟩ := NeedsOf_ok (sl.keeps k23) (by omega)
  obtain ⟨_, h5, e5, o5, F5, rfl, s5, _, k5, l5⟩ := NeedsOfS_ok (sl.keeps (k23.trans k4)) (by omega)
  have e6 := sameRows_same (s4.keep k5) s5
  have sl5 := sl.keeps ((k23.trans k4).trans k5)
  exact ⟨u, h1, h2, h3, h4, h5, o4, o5, _, _, e1, e2, e3, e4, e5, e6, GoodSteps_eq sl5 (by omega), GoodStepsS_eq sl5 (by omega)⟩

set_option maxRecDepth 20000 in
theorem FnPieces_ok {h : Heap} {va vb : V} {as bs : List Byte} (ha : Sl h va as) (hb : Sl h vb bs) : ∃ r h', call p 703 [va, vb] h = some (r, h') ∧ r = .bool true := by
  refine go (fn := g703) rfl rfl fun R hR => ?_
  by_cases hbig : (1048576 : Int) < IntKind.i64.wrap ((as.length : Int) + bs.length)
  · simp [g703, ha.len, hb.len, hbig]
    exact hR _ _ rfl
  · obtain ⟨_, h1, e1, vst, vl, vo, st, l, os, G, rfl, sst, sl, so, hl, hos, k1, l1⟩ := drawRunPieces_ok ha
    obtain ⟨_, h2, e2, a2, b2, Fa2, Fb2, rfl, sa2, sb2, k2, l2⟩ := RunPieces_ok sst sl so (by omega)
    obtain ⟨_, h3, e3, a3, b3, Fa3, Fb3, rfl, sa3, sb3, k3, l3⟩ := RunPiecesS_ok (sst.keeps k2) (sl.keeps k2) (so.keep k2) (by omega)
    have k23 := k2.trans k3
    obtain ⟨_, h4, e4, a4, b4, Fa4, Fb4, rfl, sa4, sb4, k4, l4⟩ := RunSteps_ok (sst.keeps k23) (sl.keeps k23) (by omega)
    have k24 := k23.trans k4
    obtain ⟨_, h5, e5, a5, b5, Fa5, Fb5, rfl, sa5, sb5, k5, l5⟩ := RunStepsS_ok (sst.keeps k24) (sl.keeps k24) (by omega)
    have k25 := k24.trans k5
    have sa2' := sa2.sl.keeps ((k3.trans k4).trans k5)
    have sb2' := sb2.sl.keeps ((k3.trans k4).trans k5)
    have sa4' := sa4.sl.keeps k5
    have sb4' := sb4.sl.keeps k5
    have f1 := sameInts_eq sa2' (sa3.sl.keeps (k4.trans k5))
    have f2 := sameInts_eq sb2' (sb3.sl.keeps (k4.trans k5))
    have f3 := sameInts_eq sa4' sa5.sl
    have f4 := sameInts_eq sb4' sb5.sl
    rw [decide_eq_true rfl] at f1 f2 f3 f4
    cases hr : runB l st with
    | false =>
      have hp : pieceB l st os = false := by
        cases h : pieceB l st os with
        | false => rfl
        | true => have := (pieceR_run h).2; rw [hr] at this; cases this
      rw [hr] at e4 e5
      rw [hp] at e2 e3
      obtain ⟨u, t1, t2, t3, t4, t5, o4, o5, x, y, q1, q2, q3, q4, q5, q6, q7, q8⟩ := pieces_tail (hb.keeps (k1.trans k25))
      simp [g703, ha.len, hb.len, hbig, e1, e2, e3, e4, e5, f1, f2, f3, f4, q1, q2, q3, q4, q5, q6, q7, q8]
      exact hR _ _ rfl
    | true =>
      have hr' := hr
      simp only [runB, Bool.and_eq_true] at hr'
      rw [hr] at e4 e5
      obtain ⟨_, h6, e6, rfl, k6, l6⟩ := CanSplit_ok (sl.keeps k25) (by omega)
      obtain ⟨_, h7, e7, o7, F7, rfl, s7, k7, l7⟩ := NeedsOf_ok (sl.keeps (k25.trans k6)) (by omega)
      rw [hr'.2] at e6 e7 s7
      simp only [if_true] at s7
      obtain ⟨_, h8, e8, o8, G8, rfl, s8, k8, l8⟩ := OrderByD_ok s7 (ndL_links _ _)
      have k28 := ((k25.trans k6).trans k7).trans k8
      obtain ⟨_, h9, e9, a9, b9, Fa9, Fb9, rfl, sa9, sb9, k9, l9⟩ := RunPieces_ok (sst.keeps k28) (sl.keeps k28) s8 (by omega)
      rw [split_piece hr] at e9
      obtain ⟨u, t1, t2, t3, t4, t5, o4, o5, x, y, q1, q2, q3, q4, q5, q6, q7, q8⟩ := pieces_tail (hb.keeps ((k1.trans k28).trans k9))
      cases hp : pieceB l st os with
      | false =>
        rw [hp] at e2 e3
        cases hsp : spB l <;> rw [hsp] at e6 e9 <;> simp [g703, ha.len, hb.len, hbig, e1, e2, e3, e4, e5, f1, f2, f3, f4, e6, e7, e8, e9, q1, q2, q3, q4, q5, q6, q7, q8] <;> exact hR _ _ rfl
      | true =>
        obtain ⟨hpr, _⟩ := pieceR_run hp
        rw [hp] at e2 e3
        rw [hpr] at sa2' sb2'
        have f5 := sameInts_eq sa2' sa4'
        have f6 := sameInts_eq sb2' sb4'
        rw [decide_eq_true rfl] at f5 f6
        cases hsp : spB l <;> rw [hsp] at e6 e9 <;> simp [g703, ha.len, hb.len, hbig, e1, e2, e3, e4, e5, f1, f2, f3, f4, f5, f6, e6, e7, e8, e9, q1, q2, q3, q4, q5, q6, q7, q8] <;> exact hR _ _ rfl
end GL

