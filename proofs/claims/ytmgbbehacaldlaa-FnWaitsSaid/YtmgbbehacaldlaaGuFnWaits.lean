import Derived.ChangeArms
import Derived.IntWalk
import Derived.WideShapes
import Derived.Test.YtmgbbehacaldlaaGuFnWaitsA
/- What the functions of the law do, on the machine. -/
set_option linter.unusedSimpArgs false
set_option linter.unusedVariables false
set_option linter.unnecessarySimpa false
namespace GL
open Go

/-- a list of lists of one's own, each of which may grow -/
def Pcs (lo : Nat) (h : Heap) (b : Nat) (xs : List (List Int)) : Prop :=
  ∃ rs : List V, h[b]? = some ⟨.own, rs⟩ ∧ rs.length = xs.length ∧ lo ≤ b ∧ (∀ k (hr : k < rs.length) (hx : k < xs.length), Out (b + 1) h rs[k] xs[k]) ∧ ∀ j k (hj : j < rs.length) (hk : k < rs.length), j ≠ k → ∀ i, vB rs[j] i → ¬ vB rs[k] i
theorem Pcs.load {lo : Nat} {h : Heap} {b : Nat} {xs : List (List Int)} (hp : Pcs lo h b xs) {k : Nat} (hk : k < xs.length) : ∃ v, rdH h b k 1 = some [v] ∧ Out (b + 1) h v xs[k] := by
  obtain ⟨rs, hb, hl, h1, h2, h3⟩ := hp
  have hk' : k < rs.length := by omega
  refine ⟨rs[k], ?_, h2 k hk' hk⟩
  rw [rdH_at hb (by simp)]
  simp only [cut]
  rw [if_pos (by show k + 1 ≤ rs.length; omega), List.drop_eq_getElem_cons hk']; rfl
theorem Pcs.push {lo : Nat} {h : Heap} {b : Nat} {xs : List (List Int)} (hp : Pcs lo h b xs) {k : Nat} (hk : k < xs.length) (x : Int) (hx : xs[k].length ≤ 2 ^ 20) {v : V} (hv : rdH h b k 1 = some [v]) :
    ∃ v' h1 h2, appH 1 8 v 1 [vi x] (h ++ [⟨.own, [vi x]⟩]) = some (v', h1) ∧ v'.cells = [v'] ∧ v'.cell = true ∧ wrH h1 b k [v'] = some h2 ∧ Pcs lo h2 b (xs.set k (xs[k] ++ [x])) ∧ KeepsP (fun i => i < lo) h h2 ∧ h.length < h2.length := by
  obtain ⟨rs, hb, hl, h1, h2, h3⟩ := hp
  have hk' : k < rs.length := by omega
  have hv' : v = rs[k] := by
    rw [rdH_at hb (by simp)] at hv
    simp only [cut] at hv
    rw [if_pos (by show k + 1 ≤ rs.length; omega), List.drop_eq_getElem_cons hk'] at hv
    have := Option.some.inj hv
    exact ((List.cons.inj this).1).symm
  subst hv'
  obtain ⟨v', g1, e1, o1, k1, l1, b1⟩ := oneB (h2 k hk' hk) x hx
  have hbl := get_lt hb
  have hb1 : g1[b]? = some ⟨.own, rs⟩ := k1 b _ (fun hv => by have := ((h2 k hk' hk).ge hv).1; omega) hb (by simp)
  refine ⟨v', g1, g1.set b ⟨.own, rs.set k v'⟩, e1, o1.sl.cells, o1.sl.cell, ?_, ?_, fun i blk hi hbi hl2 => ?_, by simp; omega⟩
  · rw [wrH_at hb1 rfl]
    simp only [lay, List.length_singleton]
    have hset : rs.set k v' = rs.take k ++ [v'] ++ rs.drop (k + 1) := by rw [List.set_eq_take_append_cons_drop, if_pos hk']; simp
    rw [if_pos (by show k + 1 ≤ rs.length; omega), hset]; rfl
  · have kb : KeepsP (fun i => i ≠ b) g1 (g1.set b ⟨.own, rs.set k v'⟩) := fun i blk hi hbi _ => by rw [List.getElem?_set_ne (Ne.symm hi)]; exact hbi
    have gb : ∀ j (hj : j < rs.length) i, vB rs[j] i → i ≠ b := fun j hj i hv => by
      have := ((h2 j hj (by omega)).ge hv).1; omega
    refine ⟨rs.set k v', by rw [List.getElem?_set_self (get_lt hb1)], by simp [hl], h1, fun j hj hxj => ?_, fun j j2 hj hj2 hne i hv hv2 => ?_⟩
    · simp only [List.length_set] at hj hxj
      by_cases hjk : k = j
      · subst hjk
        simp only [List.getElem_set_self]
        exact o1.keeps kb (fun i hi => by have := (o1.ge hi).1; omega) (by simp)
      · rw [List.getElem_set_ne hjk, List.getElem_set_ne hjk]
        have hnv : ∀ i, vB rs[j] i → ¬ vB rs[k] i := h3 j k hj hk' (fun e => hjk e.symm)
        exact ((h2 j hj hxj).keeps k1 hnv (by omega)).keeps kb (fun i hi => gb j hj i hi) (by simp)
    · simp only [List.length_set] at hj hj2
      by_cases hjk : k = j
      · subst hjk
        rw [List.getElem_set_self] at hv
        rw [List.getElem_set_ne hne] at hv2
        have := b1 i hv
        have := ((h2 j2 hj2 (by omega)).ge hv2).2
        omega
      · rw [List.getElem_set_ne hjk] at hv
        by_cases hjk2 : k = j2
        · subst hjk2
          rw [List.getElem_set_self] at hv2
          have := b1 i hv2
          have := ((h2 j hj (by omega)).ge hv).2
          omega
        · rw [List.getElem_set_ne hjk2] at hv2
          exact h3 j j2 hj hj2 hne i hv hv2
  · have h5 := k1 i blk (fun hv => by have := ((h2 k hk' hk).ge hv).1; omega) hbi hl2
    rw [List.getElem?_set_ne (by omega)]; exact h5
theorem reps_rows {h : Heap} {lo : Nat} : ∀ {rs : List V} {xs : List (List Int)}, rs.length = xs.length → (∀ k (hr : k < rs.length) (hx : k < xs.length), Out lo h rs[k] xs[k]) → ∃ F, Reps h xs rs F ∧ ∀ b ∈ F, lo ≤ b
  | [], [], _, _ => ⟨[], .nil, by simp⟩
  | [], _ :: _, hl, _ => by simp at hl
  | _ :: _, [], hl, _ => by simp at hl
  | r :: rs, x :: xs, hl, ho => by
    obtain ⟨F1, s1, f1⟩ := (ho 0 (by simp) (by simp)).fr
    obtain ⟨F2, s2, f2⟩ := reps_rows (rs := rs) (xs := xs) (by simpa using hl) fun k hr hx => ho (k + 1) (by simp; omega) (by simp; omega)
    refine ⟨F1 ++ F2, ⟨[r], rs, F1, F2, rfl, rfl, ⟨r, rfl, s1⟩, s2⟩, fun b hb => ?_⟩
    rcases List.mem_append.1 hb with h | h
    · exact f1.ge b h
    · exact f2 b h
theorem Pcs.sdF {lo : Nat} {h : Heap} {b : Nat} {xs : List (List Int)} (hp : Pcs lo h b xs) (hx : xs.length < 2 ^ 63) : ∃ F, SdF h (.slice b 0 xs.length (.k xs.length)) xs F ∧ ∀ i ∈ F, lo ≤ i := by
  obtain ⟨rs, hb, hl, h1, h2, h3⟩ := hp
  obtain ⟨F, hr, hF⟩ := reps_rows hl h2
  have hsz : Data.sz (List Int) = 1 := rfl
  refine ⟨b :: F, ⟨hx, .inr ⟨b, 0, .k xs.length, rfl, Nat.le_refl _, .inr ⟨_, rs, F, rfl, hb, by simp, ?_, hr⟩⟩⟩, fun i hi => ?_⟩
  · rw [hsz, Nat.mul_one, ← hl]; simp [cut]
  · rcases List.mem_cons.1 hi with h | h
    · omega
    · have := hF i h; omega
theorem Pcs.start (h : Heap) (n : Nat) : Pcs h.length (h ++ [⟨.own, List.replicate n V.nils⟩]) h.length (List.replicate n []) :=
  ⟨List.replicate n .nils, by simp, by simp, Nat.le_refl _, fun k hr hx => by rw [List.getElem_replicate, List.getElem_replicate]; exact Out.nil (by simp), fun j k hj hk _ i hv => by rw [List.getElem_replicate] at hv; obtain ⟨_, _, _, e⟩ := hv; cases e⟩

end GL

namespace GL
open Go

end GL

namespace GL
open Go

end GL

namespace GL
open Go

end GL

namespace GL
open Go

/-- a list of one's own of lists that do not change -/
def Rws (lo : Nat) (h : Heap) (b : Nat) (xs : List (List Int)) : Prop :=
  ∃ rs : List V, h[b]? = some ⟨.own, rs⟩ ∧ rs.length = xs.length ∧ lo ≤ b ∧ ∀ k (hr : k < rs.length) (hx : k < xs.length), ∃ F, SdF h rs[k] xs[k] F ∧ ∀ i ∈ F, b < i
theorem Rws.keep {lo : Nat} {h h' : Heap} {b : Nat} {xs : List (List Int)} (hp : Rws lo h b xs) (hk : Keeps h h') : Rws lo h' b xs := by
  obtain ⟨rs, h1, h2, h3, h4⟩ := hp
  exact ⟨rs, hk _ _ h1 (by simp), h2, h3, fun k hr hx => by obtain ⟨F, q1, q2⟩ := h4 k hr hx; exact ⟨F, q1.keep hk, q2⟩⟩
theorem Rws.load {lo : Nat} {h : Heap} {b : Nat} {xs : List (List Int)} (hp : Rws lo h b xs) {k : Nat} (hk : k < xs.length) : ∃ v F, rdH h b k 1 = some [v] ∧ SdF h v xs[k] F ∧ ∀ i ∈ F, b < i := by
  obtain ⟨rs, hb, hl, h1, h2⟩ := hp
  have hk' : k < rs.length := by omega
  obtain ⟨F, q1, q2⟩ := h2 k hk' hk
  refine ⟨rs[k], F, ?_, q1, q2⟩
  rw [rdH_at hb (by simp)]
  simp only [cut]
  rw [if_pos (by show k + 1 ≤ rs.length; omega), List.drop_eq_getElem_cons hk']; rfl
theorem Rws.put {lo : Nat} {h : Heap} {b : Nat} {xs : List (List Int)} (hp : Rws lo h b xs) {k : Nat} (hk : k < xs.length) {w : V} {ys : List Int} {G : List Nat} (hw : SdF h w ys G) (hG : ∀ i ∈ G, b < i) :
    ∃ h2, wrH h b k [w] = some h2 ∧ Rws lo h2 b (xs.set k ys) ∧ KeepsP (fun i => i < lo) h h2 ∧ h2.length = h.length := by
  obtain ⟨rs, hb, hl, h1, h2⟩ := hp
  have hk' : k < rs.length := by omega
  have kb : KeepsP (fun i => i ≠ b) h (h.set b ⟨.own, rs.set k w⟩) := fun i blk hi hbi _ => by rw [List.getElem?_set_ne (Ne.symm hi)]; exact hbi
  refine ⟨h.set b ⟨.own, rs.set k w⟩, ?_, ⟨rs.set k w, by rw [List.getElem?_set_self (get_lt hb)], by simp [hl], h1, fun j hj hxj => ?_⟩, kb.mono fun i hi => by omega, by simp⟩
  · rw [wrH_at hb rfl]
    simp only [lay, List.length_singleton]
    have hset : rs.set k w = rs.take k ++ [w] ++ rs.drop (k + 1) := by rw [List.set_eq_take_append_cons_drop, if_pos hk']; simp
    rw [if_pos (by show k + 1 ≤ rs.length; omega), hset]; rfl
  · simp only [List.length_set] at hj hxj
    by_cases hjk : k = j
    · subst hjk
      simp only [List.getElem_set_self]
      exact ⟨G, hw.keeps (kb.mono fun i hi => by have := hG i hi; omega), hG⟩
    · rw [List.getElem_set_ne hjk, List.getElem_set_ne hjk]
      obtain ⟨F, q1, q2⟩ := h2 j hj hxj
      exact ⟨F, q1.keeps (kb.mono fun i hi => by have := q2 i hi; omega), q2⟩
theorem reps_rws {h : Heap} {b : Nat} : ∀ {rs : List V} {xs : List (List Int)}, rs.length = xs.length → (∀ k (hr : k < rs.length) (hx : k < xs.length), ∃ F, SdF h rs[k] xs[k] F ∧ ∀ i ∈ F, b < i) → ∃ F, Reps h xs rs F ∧ ∀ i ∈ F, b < i
  | [], [], _, _ => ⟨[], .nil, by simp⟩
  | [], _ :: _, hl, _ => by simp at hl
  | _ :: _, [], hl, _ => by simp at hl
  | r :: rs, x :: xs, hl, ho => by
    obtain ⟨F1, s1, f1⟩ := ho 0 (by simp) (by simp)
    obtain ⟨F2, s2, f2⟩ := reps_rws (rs := rs) (xs := xs) (by simpa using hl) fun k hr hx => ho (k + 1) (by simp; omega) (by simp; omega)
    refine ⟨F1 ++ F2, ⟨[r], rs, F1, F2, rfl, rfl, ⟨r, rfl, s1⟩, s2⟩, fun b hb => ?_⟩
    rcases List.mem_append.1 hb with h | h
    · exact f1 b h
    · exact f2 b h
theorem Rws.sdF {lo : Nat} {h : Heap} {b : Nat} {xs : List (List Int)} (hp : Rws lo h b xs) (hx : xs.length < 2 ^ 63) : ∃ F, SdF h (.slice b 0 xs.length (.k xs.length)) xs F ∧ ∀ i ∈ F, lo ≤ i := by
  obtain ⟨rs, hb, hl, h1, h2⟩ := hp
  obtain ⟨F, hr, hF⟩ := reps_rws hl h2
  have hsz : Data.sz (List Int) = 1 := rfl
  refine ⟨b :: F, ⟨hx, .inr ⟨b, 0, .k xs.length, rfl, Nat.le_refl _, .inr ⟨_, rs, F, rfl, hb, by simp, ?_, hr⟩⟩⟩, fun i hi => ?_⟩
  · rw [hsz, Nat.mul_one, ← hl]; simp [cut]
  · rcases List.mem_cons.1 hi with h | h
    · omega
    · have := hF i h; omega
theorem Rws.start (h : Heap) (n : Nat) : Rws h.length (h ++ [⟨.own, List.replicate n V.nils⟩]) h.length (List.replicate n []) :=
  ⟨List.replicate n .nils, by simp, by simp, Nat.le_refl _, fun k hr hx => by rw [List.getElem_replicate, List.getElem_replicate]; exact ⟨[], .nil, by simp⟩⟩

end GL

namespace GL
open Go

end GL

namespace GL
open Go

end GL

namespace GL
open Go

end GL

namespace GL
open Go

end GL

namespace GL
open Go

end GL

namespace GL
open Go

structure Lk where
  rd : List (List Int)
  wr : List Int
  ov : List Int
structure Ak where
  who : Int
  item : Int
  w : Bool
  e : Bool
abbrev av (a : Ak) : V := .agg [vi a.who, vi a.item, .bool a.w, .bool a.e]
def LkV (h : Heap) (v : V) (c : Lk) (F : List Nat) : Prop := ∃ x y z F1 F2 F3, v = .agg [x, y, z] ∧ F = F1 ++ F2 ++ F3 ∧ SdF h x c.rd F1 ∧ SdF h y c.wr F2 ∧ SdF h z c.ov F3
section
variable {h h' : Heap} {v : V} {c : Lk} {F : List Nat}
theorem LkV.keeps (hc : LkV h v c F) (hk : KeepsP (fun b => b ∈ F) h h') : LkV h' v c F := by
  obtain ⟨x, y, z, F1, F2, F3, rfl, rfl, hx, hy, hz⟩ := hc
  exact ⟨x, y, z, F1, F2, F3, rfl, rfl, hx.keeps (hk.mono fun b hb => by simp [hb]), hy.keeps (hk.mono fun b hb => by simp [hb]), hz.keeps (hk.mono fun b hb => by simp [hb])⟩
theorem LkV.keep (hc : LkV h v c F) (hk : Keeps h h') : LkV h' v c F := hc.keeps (hk.p _)
theorem LkV.lt (hc : LkV h v c F) {b : Nat} (hb : b ∈ F) : b < h.length := by
  obtain ⟨x, y, z, F1, F2, F3, rfl, rfl, hx, hy, hz⟩ := hc
  rcases List.mem_append.1 hb with hb | hb
  · rcases List.mem_append.1 hb with hb | hb
    · exact hx.ltF hb
    · exact hy.ltF hb
  · exact hz.ltF hb
end
def rowQ (c : Lk) (i : Nat) : Prop := risB 0 3 (c.rd.getD i []) = true ∧ (-1 ≤ c.wr.getD i 0 ∧ c.wr.getD i 0 ≤ 3) ∧ (0 ≤ c.wr.getD i 0 → c.rd.getD i [] = [] ∨ c.rd.getD i [] = [c.wr.getD i 0])
def goodLk (c : Lk) : Prop := c.rd.length = 4 ∧ c.wr.length = 4 ∧ (∀ x ∈ c.ov, 0 ≤ x ∧ x ≤ 3) ∧ c.ov.Nodup ∧ (∀ i, i < 4 → rowQ c i) ∧ ∀ i, i < 4 → c.wr.getD i 0 ∉ c.ov ∧ ∀ x ∈ c.rd.getD i [], x ∉ c.ov
instance (c : Lk) (i : Nat) : Decidable (rowQ c i) := by unfold rowQ; infer_instance
instance (c : Lk) : Decidable (goodLk c) := by unfold goodLk; infer_instance
def goodK (c : Lk) : Bool := decide (goodLk c)
theorem goodK_no {c : Lk} (h : ¬ goodLk c) : goodK c = false := decide_eq_false h
theorem isDealer_eq (n : Int) (h : Heap) : call p 384 [vi n] h = some (.bool (decide (0 ≤ n ∧ n ≤ 3)), h) := by
  refine go_eq (fn := g384) rfl rfl fun R hR => ?_
  simp [g384, -Bool.decide_and]; exact hR
theorem isItem_eq (n : Int) (h : Heap) : call p 405 [vi n] h = some (.bool (decide (0 ≤ n ∧ n ≤ 3)), h) := by
  refine go_eq (fn := g405) rfl rfl fun R hR => ?_
  simp [g405, -Bool.decide_and]; exact hR
theorem ris4_len {r : List Int} (h : risB 0 3 r = true) : r.length ≤ 4 := by
  obtain ⟨h1, h2⟩ := risB_facts h
  exact rising_len (n := 4) h2 fun x hx => by have := h1 x hx; omega

theorem GoodLocks_ok {h : Heap} {v : V} {c : Lk} {F : List Nat} (hc : LkV h v c F) : ∃ r h', call p 286 [v] h = some (r, h') ∧ r = .bool (goodK c) ∧ Keeps h h' ∧ h.length ≤ h'.length := by
  obtain ⟨x, y, z, F1, F2, F3, rfl, _, hx, hy, hz⟩ := hc
  refine go (fn := g286) rfl rfl fun R hR => ?_
  have bad : ¬ goodLk c → ∀ h', Keeps h h' → h.length ≤ h'.length → R (.bool false) h' := fun hb h' hk hl => hR _ _ ⟨by rw [goodK_no hb], hk, hl⟩
  by_cases c1 : c.rd.length = 4
  · have c1i : (c.rd.length : Int) = 4 := by omega
    by_cases c2 : c.wr.length = 4
    · have c2i : (c.wr.length : Int) = 4 := by omega
      simp [g286, hx.cells, hx.cell, hy.cells, hy.cell, hz.cells, hz.cell, upd, hx.len, hy.len, hz.len, c1i, c2i]
      refine Wc_upM (M := [2, 3, 4, 21, 22, 23, 24, 25, 26, 27, 28, 29, 30, 31, 32, 33, 34, 35, 36, 37]) rfl c.ov.length (fun i s => i ≤ c.ov.length ∧ s.σ 21 = .v (vi i) ∧ s.L 1 = (1, [x, y, z]) ∧ s.h = h ∧ (∀ x ∈ c.ov.take i, 0 ≤ x ∧ x ≤ 3) ∧ (c.ov.take i).Nodup) 0
        ⟨by omega, by simp, by simp [upd], by simp, by simp, by simp⟩ fun i s ⟨gi, g21, gL, gh, ha, hn⟩ hM J hJ => ?_
      by_cases hi : i < c.ov.length
      · have ix := hz.idx 1 .i64 i hi
        simp only [Nat.mul_one] at ix
        have ld := hz.sl.loadI i hi
        have st := hz.step hi
        obtain ⟨pu, Gp, ep, spre, _⟩ := hz.pre (i := i) (by omega)
        have hmem : c.ov[i] ∈ c.ov := List.getElem_mem hi
        have e1 := containsI_eq spre.sl c.ov[i]
        have e2 := isDealer_eq c.ov[i] h
        have htk := List.take_succ_eq_append_getElem hi
        by_cases hd : 0 ≤ c.ov[i] ∧ c.ov[i] ≤ 3
        · simp only [decide_eq_true hd] at e2
          by_cases hdup : c.ov[i] ∈ c.ov.take i
          · simp only [decide_eq_true hdup] at e1
            have hb : ¬ goodLk c := fun hg => by
              have h4 := hg.2.2.2.1
              rw [← List.take_append_drop i c.ov, List.drop_eq_getElem_cons hi, List.nodup_append] at h4
              exact h4.2.2 _ hdup _ (List.mem_cons_self) rfl
            generalize c.ov[i] = w at *
            simp [g286_0, hM, g21, gL, gh, hi, ix, ld, e2, bounds, takeB, ep, e1]
            exact bad hb _ (Keeps.refl _) (Nat.le_refl _)
          · simp only [decide_eq_false hdup] at e1
            have hn2 : (c.ov.take (i + 1)).Nodup := by
              rw [htk, List.nodup_append]
              exact ⟨hn, by simp, fun a ha b hb e => by simp at hb; subst hb; subst e; exact hdup ha⟩
            have ha2 : ∀ x ∈ c.ov.take (i + 1), 0 ≤ x ∧ x ≤ 3 := fun x hx => by
              rcases (mem_take_succ hi).1 hx with h | h
              · exact ha x h
              · rw [h]; exact hd
            generalize c.ov[i] = w at *
            simp [g286_0, hM, g21, gL, gh, hi, ix, ld, e2, bounds, takeB, ep, e1, st]
            exact hJ _ hi ⟨hi, by simp, by simp [gL], rfl, ha2, hn2⟩
        · simp only [decide_eq_false hd] at e2
          have hb : ¬ goodLk c := fun hg => hd (hg.2.2.1 _ hmem)
          generalize c.ov[i] = w at *
          simp [g286_0, hM, g21, gL, gh, hi, ix, ld, e2]
          exact bad hb _ (Keeps.refl _) (Nat.le_refl _)
      · have : i = c.ov.length := by omega
        subst this
        rw [List.take_length] at ha hn
        simp [g286_0, hM, g21, gL, gh, hx.len, c1i]
        refine Wc_upM (M := [2, 5, 6, 7, 41, 42, 43, 44, 45, 46, 47, 48, 49, 50, 51, 52, 53, 54, 55, 56, 57, 58, 59, 60, 61, 62, 63, 64, 65, 66, 67, 68, 69, 70, 71, 72, 73, 74, 75, 76, 77, 78, 79, 80, 81, 82, 83, 84, 85, 86, 87]) rfl 4 (fun i s => i ≤ 4 ∧ s.σ 41 = .v (vi i) ∧ s.L 1 = (1, [x, y, z]) ∧ Keeps h s.h ∧ h.length ≤ s.h.length ∧ (∀ j, j < i → rowQ c j) ∧ ∀ j, j < i → c.wr.getD j 0 ∉ c.ov ∧ ∀ x ∈ c.rd.getD j [], x ∉ c.ov) 0
          ⟨by omega, by simp, by simp [gL], Keeps.refl _, Nat.le_refl _, by omega, by omega⟩ fun i t ⟨gi, g41, gL2, hk, hl, hr, ho⟩ hM2 J2 hJ2 => ?_
        by_cases hi : i < 4
        · have hi' : (i : Int) < 4 := by omega
          have i1 : i < c.rd.length := by omega
          have i2 : i < c.wr.length := by omega
          obtain ⟨zr, Fr, lr, hzr, _⟩ := (hx.keep hk).loadL i i1
          have ir := hx.idx 1 .i64 i i1
          have iw := hy.idx 1 .i64 i i2
          simp only [Nat.mul_one] at ir iw
          have lw := (hy.keep hk).sl.loadI i i2
          have st : IntKind.i64.wrap ((i : Int) + 1) = (i + 1 : Nat) := by rw [IntWalk.i64_in] <;> omega
          have hrQ : rowQ c i ↔ risB 0 3 c.rd[i] = true ∧ (-1 ≤ c.wr[i] ∧ c.wr[i] ≤ 3) ∧ (0 ≤ c.wr[i] → c.rd[i] = [] ∨ c.rd[i] = [c.wr[i]]) := by
            unfold rowQ; rw [getD_in i1, getD_at i2]
          have hoQ : (c.wr.getD i 0 ∉ c.ov ∧ ∀ x ∈ c.rd.getD i [], x ∉ c.ov) ↔ (c.wr[i] ∉ c.ov ∧ ∀ x ∈ c.rd[i], x ∉ c.ov) := by rw [getD_in i1, getD_at i2]
          have hbr : ¬ rowQ c i → ¬ goodLk c := fun hq hg => hq (hg.2.2.2.2.1 i hi)
          have hbo : ¬ (c.wr.getD i 0 ∉ c.ov ∧ ∀ x ∈ c.rd.getD i [], x ∉ c.ov) → ¬ goodLk c := fun hq hg => hq (hg.2.2.2.2.2 i hi)
          rw [hrQ] at hbr
          rw [hoQ] at hbo
          have e1 := isRising_eq hzr.sl 0 3
          have hz2 := hz.keep hk
          have e5 := containsI_eq hz2.sl c.wr[i]
          have ext : ∀ (q : rowQ c i) (q2 : c.wr.getD i 0 ∉ c.ov ∧ ∀ x ∈ c.rd.getD i [], x ∉ c.ov), (∀ j, j < i + 1 → rowQ c j) ∧ ∀ j, j < i + 1 → c.wr.getD j 0 ∉ c.ov ∧ ∀ x ∈ c.rd.getD j [], x ∉ c.ov := fun q q2 =>
            ⟨fun j hj => by
              by_cases e : j = i
              · subst e; exact q
              · exact hr j (by omega), fun j hj => by
              by_cases e : j = i
              · subst e; exact q2
              · exact ho j (by omega)⟩
          rw [hrQ, hoQ] at ext
          generalize hrow : c.rd[i] = row at *
          generalize hwr : c.wr[i] = w at *
          cases hris : risB 0 3 row with
          | false =>
            rw [hris] at e1
            simp [g286_1, hM2, hM, g41, gL2, c1i, hi, hi', ir, iw, lr, lw, e1]
            exact bad (hbr fun q => by rw [hris] at q; cases q.1) _ hk hl
          | true =>
            rw [hris] at e1
            have hrl := ris4_len hris
            by_cases hw : -1 ≤ w ∧ w ≤ 3
            · have last : ∀ (h2 : Heap), Keeps t.h h2 → t.h.length ≤ h2.length → (0 ≤ w → row = [] ∨ row = [w]) → ∃ r3 h3, call p 301 [z, vi w] h2 = some (.bool (decide (w ∈ c.ov)), h2) ∧ call p 336 [zr, z] h2 = some (r3, h3) ∧ lenV r3 = some (row.filter fun n => decide (n ∈ c.ov)).length ∧ Keeps h h3 ∧ h.length ≤ h3.length := fun h2 k2 l2 _ => by
                obtain ⟨r3, h3, e3, F3', s3, _, k3, l3⟩ := both_ok (hzr.keep k2).sl (hz2.keep k2).sl (by omega)
                exact ⟨r3, h3, containsI_eq (hz2.keep k2).sl w, e3, s3.len, (hk.trans k2).trans k3, by omega⟩
              have fin : ∀ (h2 : Heap), Keeps t.h h2 → t.h.length ≤ h2.length → (0 ≤ w → row = [] ∨ row = [w]) →
                  (w ∈ c.ov ∧ call p 301 [z, vi w] h2 = some (.bool true, h2) ∧ R (.bool false) h2) ∨ (w ∉ c.ov ∧ call p 301 [z, vi w] h2 = some (.bool false, h2) ∧ ∃ r3 h3 n, call p 336 [zr, z] h2 = some (r3, h3) ∧ lenV r3 = some n ∧ ((0 < n ∧ R (.bool false) h3) ∨ (n = 0 ∧ Keeps h h3 ∧ h.length ≤ h3.length ∧ (∀ j, j < i + 1 → rowQ c j) ∧ ∀ j, j < i + 1 → c.wr.getD j 0 ∉ c.ov ∧ ∀ x ∈ c.rd.getD j [], x ∉ c.ov))) := fun h2 k2 l2 hq => by
                obtain ⟨r3, h3, q1, q2, q3, q4, q5⟩ := last h2 k2 l2 hq
                by_cases hm : w ∈ c.ov
                · left; rw [decide_eq_true hm] at q1
                  exact ⟨hm, q1, bad (hbo fun q => q.1 hm) _ (hk.trans k2) (by omega)⟩
                · right; rw [decide_eq_false hm] at q1
                  refine ⟨hm, q1, r3, h3, _, q2, q3, ?_⟩
                  by_cases hn0 : (row.filter fun n => decide (n ∈ c.ov)).length = 0
                  · right
                    have hnil := List.length_eq_zero_iff.1 hn0
                    have hno : ∀ x ∈ row, x ∉ c.ov := fun x hx hxo => by
                      have := List.filter_eq_nil_iff.1 hnil x hx
                      simp [hxo] at this
                    exact ⟨hn0, q4, q5, ext ⟨hris, hw, hq⟩ ⟨hm, hno⟩⟩
                  · left
                    refine ⟨by omega, bad (hbo fun q => hn0 ?_) _ q4 q5⟩
                    rw [List.length_eq_zero_iff, List.filter_eq_nil_iff]
                    intro x hx; simp [q.2 x hx]
              by_cases hw0 : 0 ≤ w
              · by_cases hr0 : row.length = 0
                · have hnil : row = [] := List.length_eq_zero_iff.1 hr0
                  have hr0i : ¬ (0 : Int) < row.length := by omega
                  have zl := hzr.len
                  rcases fin t.h (Keeps.refl _) (Nat.le_refl _) (fun _ => .inl hnil) with ⟨hm, q1, q2⟩ | ⟨hm, q1, r3, h3, n, q2, q3, ⟨q4, q5⟩ | ⟨q4, q5, q6, q7⟩⟩
                  · simp [g286_1, hM2, hM, g41, gL2, c1i, hi, hi', ir, iw, lr, lw, e1, hw, hw0, zl, hr0, hr0i, q1, -Bool.decide_and]
                    exact q2
                  · have q4i : (0 : Int) < n := by omega
                    simp [g286_1, hM2, hM, g41, gL2, c1i, hi, hi', ir, iw, lr, lw, e1, hw, hw0, zl, hr0, hr0i, q1, q2, q3, q4, q4i, -Bool.decide_and]
                    exact q5
                  · subst q4
                    simp [g286_1, hM2, hM, g41, gL2, c1i, hi, hi', ir, iw, lr, lw, e1, hw, hw0, zl, hr0, hr0i, q1, q2, q3, st, -Bool.decide_and, -Int.natCast_add]
                    exact hJ2 _ hi ⟨hi, by simp, by simp [gL2], q5, q6, q7⟩
                · have hr0i : (0 : Int) < row.length := by omega
                  have hr0n : 0 < row.length := by omega
                  have zl := hzr.len
                  have kl : Keeps t.h (t.h ++ [⟨.own, [vi w]⟩]) := Keeps.append _ _
                  have sl1 := Sl.lit (h := t.h) [w] 1 rfl [vi w] rfl (.k 1) (by simp)
                  have e6 := Equal_eq (hzr.keep kl).sl sl1
                  by_cases hrw : row = [w]
                  · rw [decide_eq_true hrw] at e6
                    rcases fin _ kl (by simp) (fun _ => .inr hrw) with ⟨hm, q1, q2⟩ | ⟨hm, q1, r3, h3, n, q2, q3, ⟨q4, q5⟩ | ⟨q4, q5, q6, q7⟩⟩
                    · simp [g286_1, hM2, hM, g41, gL2, c1i, hi, hi', ir, iw, lr, lw, e1, hw, hw0, zl, hr0n, hr0i, fillL, e6, q1, -Bool.decide_and]
                      exact q2
                    · have q4i : (0 : Int) < n := by omega
                      simp [g286_1, hM2, hM, g41, gL2, c1i, hi, hi', ir, iw, lr, lw, e1, hw, hw0, zl, hr0n, hr0i, fillL, e6, q1, q2, q3, q4, q4i, -Bool.decide_and]
                      exact q5
                    · subst q4
                      simp [g286_1, hM2, hM, g41, gL2, c1i, hi, hi', ir, iw, lr, lw, e1, hw, hw0, zl, hr0n, hr0i, fillL, e6, q1, q2, q3, st, -Bool.decide_and, -Int.natCast_add]
                      exact hJ2 _ hi ⟨hi, by simp, by simp [gL2], q5, q6, q7⟩
                  · rw [decide_eq_false hrw] at e6
                    simp [g286_1, hM2, hM, g41, gL2, c1i, hi, hi', ir, iw, lr, lw, e1, hw, hw0, zl, hr0n, hr0i, fillL, e6, -Bool.decide_and]
                    exact bad (hbr fun q => by
                      rcases q.2.2 hw0 with h | h
                      · rw [h] at hr0; exact hr0 rfl
                      · exact hrw h) _ (hk.trans kl) (by simp; omega)
              · rcases fin t.h (Keeps.refl _) (Nat.le_refl _) (fun h => absurd h hw0) with ⟨hm, q1, q2⟩ | ⟨hm, q1, r3, h3, n, q2, q3, ⟨q4, q5⟩ | ⟨q4, q5, q6, q7⟩⟩
                · simp [g286_1, hM2, hM, g41, gL2, c1i, hi, hi', ir, iw, lr, lw, e1, hw, hw0, q1, -Bool.decide_and]
                  exact q2
                · have q4i : (0 : Int) < n := by omega
                  simp [g286_1, hM2, hM, g41, gL2, c1i, hi, hi', ir, iw, lr, lw, e1, hw, hw0, q1, q2, q3, q4, q4i, -Bool.decide_and]
                  exact q5
                · subst q4
                  simp [g286_1, hM2, hM, g41, gL2, c1i, hi, hi', ir, iw, lr, lw, e1, hw, hw0, q1, q2, q3, st, -Bool.decide_and, -Int.natCast_add]
                  exact hJ2 _ hi ⟨hi, by simp, by simp [gL2], q5, q6, q7⟩
            · simp [g286_1, hM2, hM, g41, gL2, c1i, hi, hi', ir, iw, lr, lw, e1, hw, -Bool.decide_and]
              exact bad (hbr fun q => hw q.2.1) _ hk hl
        · have : i = 4 := by omega
          subst this
          simp [g286_1, hM2, hM, g41, c1i]
          exact hR _ _ ⟨by rw [goodK, decide_eq_true ⟨c1, c2, ha, hn, hr, ho⟩], hk, hl⟩
    · have c2i : ¬ (c.wr.length : Int) = 4 := by omega
      simp [g286, hx.cells, hx.cell, hy.cells, hy.cell, hz.cells, hz.cell, upd, hx.len, hy.len, hz.len, c1i, c2i]
      exact bad (fun hg => c2 hg.2.1) _ (Keeps.refl _) (Nat.le_refl _)
  · have c1i : ¬ (c.rd.length : Int) = 4 := by omega
    simp [g286, hx.cells, hx.cell, hy.cells, hy.cell, hz.cells, hz.cell, upd, hx.len, hy.len, hz.len, c1i]
    exact bad (fun hg => c1 hg.1) _ (Keeps.refl _) (Nat.le_refl _)
end GL

namespace GL
open Go

theorem upTo_filter (q : Int → Bool) (i : Nat) : (upTo (i + 1)).filter q = if q i = true then (upTo i).filter q ++ [(i : Int)] else (upTo i).filter q := by
  rw [upTo_succ, List.filter_append]
  cases h : q i <;> simp [h]
theorem upTo_flen (q : Int → Bool) (i : Nat) : ((upTo i).filter q).length ≤ i := Nat.le_trans (List.length_filter_le ..) (by rw [upTo_len]; omega)
def heldQ (c : Lk) (who k : Int) : Bool := decide (c.wr.getD k.toNat 0 = who) || decide (who ∈ c.rd.getD k.toNat [])
def heldL (c : Lk) (who : Int) (n : Nat) : List Int := (upTo n).filter (heldQ c who)
def keepQ (c : Lk) (a : Ak) (k : Int) : Bool := decide (k ≠ a.who) && (decide (c.wr.getD a.item.toNat 0 = k) || (a.w && decide (k ∈ c.rd.getD a.item.toNat [])))
def keepL (c : Lk) (a : Ak) (n : Nat) : List Int := (upTo n).filter (keepQ c a)
def askK (c : Lk) (a : Ak) : Bool := decide (0 ≤ a.who ∧ a.who ≤ 3) && !decide (a.who ∈ c.ov) && decide (0 ≤ a.item ∧ a.item ≤ 3) && (!a.e || (decide (a.item = 0) && !a.w))

theorem l8Held_ok {h : Heap} {v : V} {c : Lk} {F : List Nat} (hc : LkV h v c F) (h1 : c.rd.length = 4) (h2 : c.wr.length = 4) (who : Int) :
    ∃ r h', call p 408 [v, vi who] h = some (r, h') ∧ Out h.length h' r (heldL c who 4) ∧ Keeps h h' ∧ h.length ≤ h'.length := by
  obtain ⟨x, y, z, F1, F2, F3, rfl, _, hx, hy, hz⟩ := hc
  have c2i : (c.wr.length : Int) = 4 := by omega
  refine go (fn := g408) rfl rfl fun R hR => ?_
  simp [g408, hx.cells, hx.cell, hy.cells, hy.cell, hz.cells, hz.cell, upd, hy.len, c2i]
  refine Wc_upM (M := [5, 6, 10, 11, 12, 13, 14, 15, 16, 17, 18, 19, 20, 21, 22, 23, 24, 25, 26, 27, 28, 29, 30, 31, 32, 33]) rfl 4 (fun i s => i ≤ 4 ∧ s.σ 10 = .v (vi i) ∧ s.L 2 = (1, [x, y, z]) ∧ (∃ v5, s.σ 5 = .v v5 ∧ Out h.length s.h v5 (heldL c who i)) ∧ Keeps h s.h ∧ h.length ≤ s.h.length) 0
    ⟨by omega, by simp, by simp [upd], ⟨.nils, by simp, Out.nil (Nat.le_refl _)⟩, Keeps.refl _, Nat.le_refl _⟩ fun i s ⟨gi, g10, gL, ⟨v5, g5, ho⟩, hk, hl⟩ hM J hJ => ?_
  by_cases hi : i < 4
  · have hi' : (i : Int) < 4 := by omega
    have i1 : i < c.rd.length := by omega
    have i2 : i < c.wr.length := by omega
    obtain ⟨zr, Fr, lr, hzr, _⟩ := (hx.keep hk).loadL i i1
    have ir := hx.idx 1 .i64 i i1
    have iw := hy.idx 1 .i64 i i2
    simp only [Nat.mul_one] at ir iw
    have lw := (hy.keep hk).sl.loadI i i2
    have st : IntKind.i64.wrap ((i : Int) + 1) = (i + 1 : Nat) := by rw [IntWalk.i64_in] <;> omega
    have e1 := l1Has_eq hzr.sl who
    have hs := upTo_filter (heldQ c who) i
    have hq : heldQ c who i = (decide (c.wr[i] = who) || decide (who ∈ c.rd[i])) := by
      simp [heldQ, List.getElem?_eq_getElem i1, List.getElem?_eq_getElem i2]
    have hln := upTo_flen (heldQ c who) i
    obtain ⟨v', h3, e3, o3, k3, l3⟩ := ho.one (i : Int) (by show ((upTo i).filter _).length ≤ _; omega)
    generalize c.rd[i] = row at *
    generalize c.wr[i] = w at *
    by_cases hw : w = who
    · subst hw
      rw [if_pos (by rw [hq]; simp)] at hs
      simp [g408_0, hM, g10, gL, g5, c2i, hi, hi', ir, iw, lw, fillL, rdS_last, e3, st, -Int.natCast_add]
      exact hJ _ hi ⟨hi, by simp, by simp [gL], ⟨v', by simp, by rw [heldL, hs]; exact o3⟩, ho.far hk k3 (Nat.le_refl _), by show h.length ≤ h3.length; omega⟩
    · by_cases hm : who ∈ row
      · rw [if_pos (by rw [hq]; simp [hm])] at hs
        rw [decide_eq_true hm] at e1
        simp [g408_0, hM, g10, gL, g5, c2i, hi, hi', ir, iw, lr, lw, hw, e1, fillL, rdS_last, e3, st, -Int.natCast_add]
        exact hJ _ hi ⟨hi, by simp, by simp [gL], ⟨v', by simp, by rw [heldL, hs]; exact o3⟩, ho.far hk k3 (Nat.le_refl _), by show h.length ≤ h3.length; omega⟩
      · rw [if_neg (by rw [hq]; simp [hm, hw])] at hs
        rw [decide_eq_false hm] at e1
        simp [g408_0, hM, g10, gL, g5, c2i, hi, hi', ir, iw, lr, lw, hw, e1, st, -Int.natCast_add]
        exact hJ _ hi ⟨hi, by simp, by simp [gL], ⟨v5, by simp [g5], by rw [heldL, hs]; exact ho⟩, hk, hl⟩
  · have : i = 4 := by omega
    subst this
    simp [g408_0, hM, g10, g5, c2i]
    exact hR _ _ ⟨ho, hk, hl⟩

theorem held_nil {c : Lk} {who : Int} : heldL c who 4 = [] ↔ ∀ i, i < 4 → c.wr.getD i 0 ≠ who ∧ who ∉ c.rd.getD i [] := by
  rw [heldL, List.filter_eq_nil_iff]
  constructor
  · intro h i hi
    have := h (i : Int) (mem_upTo.2 (by omega))
    simpa [heldQ] using this
  · intro h k hk
    have hk' := mem_upTo.1 hk
    have := h k.toNat (by omega)
    simp only [heldQ, Bool.or_eq_true, decide_eq_true_eq]
    rintro (h1 | h1)
    · exact this.1 h1
    · exact this.2 h1
theorem one_or {r : List Int} {w : Int} : (r = [] ∨ r = [w]) ↔ ¬ (1 < r.length) ∧ ∀ (h : 0 < r.length), r[0] = w := by
  match r with
  | [] => simp
  | [x] => simp
  | _ :: _ :: _ => simp
theorem GoodLocksS_ok {h : Heap} {v : V} {c : Lk} {F : List Nat} (hc : LkV h v c F) : ∃ r h', call p 368 [v] h = some (r, h') ∧ r = .bool (goodK c) ∧ Keeps h h' ∧ h.length ≤ h'.length := by
  have hcc := hc
  obtain ⟨x, y, z, F1, F2, F3, rfl, _, hx, hy, hz⟩ := hc
  refine go (fn := g368) rfl rfl fun R hR => ?_
  have bad : ¬ goodLk c → ∀ h', Keeps h h' → h.length ≤ h'.length → R (.bool false) h' := fun hb h' hk hl => hR _ _ ⟨by rw [goodK_no hb], hk, hl⟩
  have e1 := l1All_eq hy.sl (-1) 3
  have e2 := l1All_eq hz.sl 0 3
  by_cases c1 : c.rd.length = 4
  · have c1i : (c.rd.length : Int) = 4 := by omega
    by_cases c2 : c.wr.length = 4
    · have c2i : (c.wr.length : Int) = 4 := by omega
      have wfact : goodLk c → (c.wr.all fun n => decide (-1 ≤ n ∧ n ≤ 3)) = true := fun hg => by
        rw [List.all_eq_true]; intro w hw
        obtain ⟨i, hi, rfl⟩ := List.getElem_of_mem hw
        have := (hg.2.2.2.2.1 i (by omega)).2.1
        rw [getD_at hi] at this
        simpa using this
      cases c3 : (c.wr.all fun n => decide (-1 ≤ n ∧ n ≤ 3)) with
      | false =>
        rw [c3] at e1
        simp [g368, hx.cells, hx.cell, hy.cells, hy.cell, hz.cells, hz.cell, upd, hx.len, hy.len, hz.len, c1i, c2i, e1]
        exact bad (fun hg => by rw [wfact hg] at c3; cases c3) _ (Keeps.refl _) (Nat.le_refl _)
      | true =>
        rw [c3] at e1
        cases c4 : (c.ov.all fun n => decide (0 ≤ n ∧ n ≤ 3)) with
        | false =>
          rw [c4] at e2
          simp [g368, hx.cells, hx.cell, hy.cells, hy.cell, hz.cells, hz.cell, upd, hx.len, hy.len, hz.len, c1i, c2i, e1, e2]
          exact bad (fun hg => by
            rw [List.all_eq_false] at c4
            obtain ⟨w, hw, hq⟩ := c4
            exact hq (by simpa using hg.2.2.1 w hw)) _ (Keeps.refl _) (Nat.le_refl _)
        | true =>
          rw [c4] at e2
          have hwin : ∀ i (hi : i < c.wr.length), -1 ≤ c.wr[i] ∧ c.wr[i] ≤ 3 := fun i hi => by simpa using List.all_eq_true.1 c3 _ (List.getElem_mem hi)
          have hoin : ∀ w ∈ c.ov, 0 ≤ w ∧ w ≤ 3 := fun w hw => by simpa using List.all_eq_true.1 c4 w hw
          simp [g368, hx.cells, hx.cell, hy.cells, hy.cell, hz.cells, hz.cell, upd, hx.len, hy.len, hz.len, c1i, c2i, e1, e2]
          refine Wc_upM (M := [2, 3, 4, 5, 33, 34, 35, 36, 37, 38, 39, 40, 41, 42, 43, 44, 45, 46, 47, 48, 49, 50, 51, 52, 53, 54, 55, 56, 57, 58, 59, 60, 61, 62, 63, 64, 65, 66, 67]) rfl 4 (fun i s => i ≤ 4 ∧ s.σ 33 = .v (vi i) ∧ s.L 1 = (1, [x, y, z]) ∧ s.h = h ∧ ∀ j, j < i → rowQ c j) 0
            ⟨by omega, by simp, by simp [upd], by simp, by omega⟩ fun i s ⟨gi, g33, gL, gh, hr⟩ hM J hJ => ?_
          by_cases hi : i < 4
          · have hi' : (i : Int) < 4 := by omega
            have i1 : i < c.rd.length := by omega
            have i2 : i < c.wr.length := by omega
            obtain ⟨zr, Fr, lr, hzr, _⟩ := hx.loadL i i1
            have ir := hx.idx 1 .i64 i i1
            have iw := hy.idx 1 .i64 i i2
            simp only [Nat.mul_one] at ir iw
            have lw := hy.sl.loadI i i2
            have st : IntKind.i64.wrap ((i : Int) + 1) = (i + 1 : Nat) := by rw [IntWalk.i64_in] <;> omega
            have hrQ : rowQ c i ↔ risB 0 3 c.rd[i] = true ∧ (-1 ≤ c.wr[i] ∧ c.wr[i] ≤ 3) ∧ (0 ≤ c.wr[i] → c.rd[i] = [] ∨ c.rd[i] = [c.wr[i]]) := by
              unfold rowQ; rw [getD_in i1, getD_at i2]
            have hbr : ¬ rowQ c i → ¬ goodLk c := fun hq hg => hq (hg.2.2.2.2.1 i hi)
            rw [hrQ] at hbr
            have e5 := l1Rising_eq hzr.sl 0 3
            have ext : ∀ (q : rowQ c i), (∀ j, j < i + 1 → rowQ c j) := fun q j hj => by
                by_cases e : j = i
                · subst e; exact q
                · exact hr j (by omega)
            rw [hrQ] at ext
            have hwi := hwin i i2
            have zl := hzr.len
            generalize hrow : c.rd[i] = row at *
            generalize hwr : c.wr[i] = w at *
            rw [one_or] at hbr ext
            cases hris : risB 0 3 row with
            | false =>
              rw [hris] at e5
              simp [g368_0, hM, g33, gL, gh, c1i, hi, hi', ir, iw, lr, lw, e5]
              exact bad (hbr fun q => by rw [hris] at q; cases q.1) _ (Keeps.refl _) (Nat.le_refl _)
            | true =>
              rw [hris] at e5
              by_cases hw0 : 0 ≤ w
              · by_cases hl1 : 1 < row.length
                · have hl1i : (1 : Int) < row.length := by omega
                  simp [g368_0, hM, g33, gL, gh, c1i, hi, hi', ir, iw, lr, lw, e5, hw0, zl, hl1, hl1i]
                  exact bad (hbr fun q => (q.2.2 hw0).1 hl1) _ (Keeps.refl _) (Nat.le_refl _)
                · have hl1i : ¬ (1 : Int) < row.length := by omega
                  by_cases hl0 : row.length = 1
                  · have hl0i : (row.length : Int) = 1 := by omega
                    have ix0 := hzr.idx 1 .i64 0 (by omega)
                    have ld0 := hzr.sl.loadI 0 (by omega)
                    simp only [Nat.mul_one, Nat.add_zero, Int.natCast_zero] at ix0 ld0
                    by_cases hr0 : row[0] = w
                    · rw [hr0] at ld0
                      simp [g368_0, hM, g33, gL, gh, c1i, hi, hi', ir, iw, lr, lw, e5, hw0, zl, hl1, hl1i, hl0, hl0i, ix0, ld0, st, -Int.natCast_add]
                      exact hJ _ hi ⟨hi, by simp, by simp [gL], rfl, ext ⟨hris, hwi, fun _ => ⟨hl1, fun _ => hr0⟩⟩⟩
                    · have hbr2 := bad (hbr fun q => hr0 ((q.2.2 hw0).2 (by omega)))
                      generalize row[0] = r0 at *
                      simp [g368_0, hM, g33, gL, gh, c1i, hi, hi', ir, iw, lr, lw, e5, hw0, zl, hl1, hl1i, hl0, hl0i, ix0, ld0, hr0]
                      exact hbr2 _ (Keeps.refl _) (Nat.le_refl _)
                  · have hl0i : ¬ (row.length : Int) = 1 := by omega
                    simp [g368_0, hM, g33, gL, gh, c1i, hi, hi', ir, iw, lr, lw, e5, hw0, zl, hl1, hl1i, hl0, hl0i, st, -Int.natCast_add]
                    exact hJ _ hi ⟨hi, by simp, by simp [gL], rfl, ext ⟨hris, hwi, fun _ => ⟨hl1, fun h => by omega⟩⟩⟩
              · simp [g368_0, hM, g33, gL, gh, c1i, hi, hi', ir, iw, lr, lw, e5, hw0, st, -Int.natCast_add]
                exact hJ _ hi ⟨hi, by simp, by simp [gL], rfl, ext ⟨hris, hwi, fun h => absurd h hw0⟩⟩
          · have : i = 4 := by omega
            subst this
            simp [g368_0, hM, g33, gL, gh, c1i, hz.len]
            refine Wc_upM (M := [2, 6, 7, 71, 72, 73, 74, 75, 76, 77, 78, 79, 80, 81, 82, 83, 84, 85, 86, 87, 88, 89]) rfl c.ov.length (fun i s => i ≤ c.ov.length ∧ s.σ 71 = .v (vi i) ∧ s.L 1 = (1, [x, y, z]) ∧ Keeps h s.h ∧ h.length ≤ s.h.length ∧ (c.ov.take i).Nodup ∧ ∀ w ∈ c.ov.take i, heldL c w 4 = []) 0
              ⟨by omega, by simp, by simp [gL], Keeps.refl _, Nat.le_refl _, by simp, by simp⟩ fun i t ⟨gi, g71, gL2, hk, hl, hn, hh⟩ hM2 J2 hJ2 => ?_
            by_cases hi : i < c.ov.length
            · have hz2 := hz.keep hk
              have ix := hz2.idx 1 .i64 i hi
              simp only [Nat.mul_one] at ix
              have ld := hz2.sl.loadI i hi
              have st := hz2.step hi
              obtain ⟨pu, Gp, ep, spre, _⟩ := hz2.pre (i := i) (by omega)
              have hmem : c.ov[i] ∈ c.ov := List.getElem_mem hi
              have e5 := l1Has_eq spre.sl c.ov[i]
              obtain ⟨rh, h3, e6, o3, k3, l3⟩ := l8Held_ok (hcc.keep hk) c1 c2 c.ov[i]
              have htk := List.take_succ_eq_append_getElem hi
              have ol := o3.sl.len
              have hbh : heldL c c.ov[i] 4 ≠ [] → ¬ goodLk c := fun hne hg => hne (held_nil.2 fun j hj => ⟨fun e => (hg.2.2.2.2.2 j hj).1 (e ▸ hmem), fun hm => (hg.2.2.2.2.2 j hj).2 _ hm hmem⟩)
              by_cases hdup : c.ov[i] ∈ c.ov.take i
              · simp only [decide_eq_true hdup] at e5
                have hb : ¬ goodLk c := fun hg => by
                  have h4 := hg.2.2.2.1
                  rw [← List.take_append_drop i c.ov, List.drop_eq_getElem_cons hi, List.nodup_append] at h4
                  exact h4.2.2 _ hdup _ (List.mem_cons_self) rfl
                generalize c.ov[i] = w at *
                simp [g368_1, hM2, hM, g71, gL2, hi, ix, ld, bounds, takeB, ep, e5]
                exact bad hb _ hk hl
              · simp only [decide_eq_false hdup] at e5
                have hn2 : (c.ov.take (i + 1)).Nodup := by
                  rw [htk, List.nodup_append]
                  exact ⟨hn, by simp, fun a ha b hb e => by simp at hb; subst hb; subst e; exact hdup ha⟩
                have hh2 : heldL c c.ov[i] 4 = [] → ∀ w ∈ c.ov.take (i + 1), heldL c w 4 = [] := fun h0 w hw => by
                  rcases (mem_take_succ hi).1 hw with h | h
                  · exact hh w h
                  · rw [h]; exact h0
                by_cases hnil : heldL c c.ov[i] 4 = []
                · have hh3 := hh2 hnil
                  rw [hnil] at ol
                  generalize c.ov[i] = w at *
                  simp [g368_1, hM2, hM, g71, gL2, hi, ix, ld, bounds, takeB, ep, e5, e6, ol, st]
                  exact hJ2 _ hi ⟨hi, by simp, by simp [gL2], hk.trans k3, by show h.length ≤ h3.length; omega, hn2, hh3⟩
                · have hb := hbh hnil
                  have hpos : 0 < (heldL c c.ov[i] 4).length := by
                    rcases Nat.eq_zero_or_pos (heldL c c.ov[i] 4).length with h | h
                    · exact absurd (List.length_eq_zero_iff.1 h) hnil
                    · exact h
                  have hposi : (0 : Int) < (heldL c c.ov[i] 4).length := by omega
                  generalize c.ov[i] = w at *
                  simp [g368_1, hM2, hM, g71, gL2, hi, ix, ld, bounds, takeB, ep, e5, e6, ol, hpos, hposi]
                  exact bad hb _ (hk.trans k3) (by omega)
            · have : i = c.ov.length := by omega
              subst this
              rw [List.take_length] at hn hh
              simp [g368_1, hM2, hM, g71]
              refine hR _ _ ⟨by rw [goodK, decide_eq_true ⟨c1, c2, hoin, hn, hr, fun i hi => ⟨fun hm => ?_, fun x hx hxo => ?_⟩⟩], hk, hl⟩
              · exact (held_nil.1 (hh _ hm) i hi).1 rfl
              · exact (held_nil.1 (hh _ hxo) i hi).2 hx
    · have c2i : ¬ (c.wr.length : Int) = 4 := by omega
      simp [g368, hx.cells, hx.cell, hy.cells, hy.cell, hz.cells, hz.cell, upd, hx.len, hy.len, hz.len, c1i, c2i]
      exact bad (fun hg => c2 hg.2.1) _ (Keeps.refl _) (Nat.le_refl _)
  · have c1i : ¬ (c.rd.length : Int) = 4 := by omega
    simp [g368, hx.cells, hx.cell, hy.cells, hy.cell, hz.cells, hz.cell, upd, hx.len, hy.len, hz.len, c1i]
    exact bad (fun hg => c1 hg.1) _ (Keeps.refl _) (Nat.le_refl _)
end GL

namespace GL
open Go

theorem isAsk_eq {h : Heap} {v : V} {c : Lk} {F : List Nat} (hc : LkV h v c F) (a : Ak) : call p 379 [v, av a] h = some (.bool (askK c a), h) := by
  obtain ⟨x, y, z, F1, F2, F3, rfl, _, hx, hy, hz⟩ := hc
  obtain ⟨who, item, w, e⟩ := a
  have e1 := containsI_eq hz.sl who
  refine go_eq (fn := g379) rfl rfl fun R hR => ?_
  simp only [askK] at hR
  by_cases h1 : 0 ≤ who ∧ who ≤ 3
  · by_cases h2 : who ∈ c.ov
    · simp only [decide_eq_true h1, decide_eq_true h2] at hR
      rw [decide_eq_true h2] at e1
      simp [g379, hx.cells, hx.cell, hy.cells, hy.cell, hz.cells, hz.cell, upd, isDealer_eq, isItem_eq, h1, e1, -Bool.decide_and]
      simpa using hR
    · simp only [decide_eq_true h1, decide_eq_false h2] at hR
      rw [decide_eq_false h2] at e1
      by_cases h3 : 0 ≤ item ∧ item ≤ 3
      · simp only [decide_eq_true h3] at hR
        by_cases h4 : item = 0
        · subst h4
          cases w <;> cases e <;> simp [g379, hx.cells, hx.cell, hy.cells, hy.cell, hz.cells, hz.cell, upd, isDealer_eq, isItem_eq, h1, e1, -Bool.decide_and] <;> simpa using hR
        · cases w <;> cases e <;> simp [g379, hx.cells, hx.cell, hy.cells, hy.cell, hz.cells, hz.cell, upd, isDealer_eq, isItem_eq, h1, e1, h3, h4, -Bool.decide_and] <;> simpa [h4] using hR
      · simp only [decide_eq_false h3] at hR
        simp [g379, hx.cells, hx.cell, hy.cells, hy.cell, hz.cells, hz.cell, upd, isDealer_eq, isItem_eq, h1, e1, h3, -Bool.decide_and]
        simpa using hR
  · simp only [decide_eq_false h1] at hR
    simp [g379, hx.cells, hx.cell, hy.cells, hy.cell, hz.cells, hz.cell, upd, isDealer_eq, isItem_eq, h1, -Bool.decide_and]
    simpa using hR
theorem l8Ask_eq {h : Heap} {v : V} {c : Lk} {F : List Nat} (hc : LkV h v c F) (a : Ak) : call p 381 [v, av a] h = some (.bool (askK c a), h) := by
  obtain ⟨x, y, z, F1, F2, F3, rfl, _, hx, hy, hz⟩ := hc
  obtain ⟨who, item, w, e⟩ := a
  have e1 := l1Has_eq hz.sl who
  refine go_eq (fn := g381) rfl rfl fun R hR => ?_
  simp only [askK] at hR
  by_cases h1 : 0 ≤ who ∧ who ≤ 3
  · by_cases h2 : who ∈ c.ov
    · simp only [decide_eq_true h1, decide_eq_true h2] at hR
      rw [decide_eq_true h2] at e1
      simp [g381, hx.cells, hx.cell, hy.cells, hy.cell, hz.cells, hz.cell, upd, h1, e1, -Bool.decide_and]
      simpa using hR
    · simp only [decide_eq_true h1, decide_eq_false h2] at hR
      rw [decide_eq_false h2] at e1
      by_cases h3 : 0 ≤ item ∧ item ≤ 3
      · simp only [decide_eq_true h3] at hR
        by_cases h4 : item = 0
        · subst h4
          cases w <;> cases e <;> simp [g381, hx.cells, hx.cell, hy.cells, hy.cell, hz.cells, hz.cell, upd, h1, e1, -Bool.decide_and] <;> simpa using hR
        · cases w <;> cases e <;> simp [g381, hx.cells, hx.cell, hy.cells, hy.cell, hz.cells, hz.cell, upd, h1, e1, h3, h4, -Bool.decide_and] <;> simpa [h4] using hR
      · simp only [decide_eq_false h3] at hR
        simp [g381, hx.cells, hx.cell, hy.cells, hy.cell, hz.cells, hz.cell, upd, h1, e1, h3, -Bool.decide_and]
        simpa using hR
  · simp only [decide_eq_false h1] at hR
    simp [g381, hx.cells, hx.cell, hy.cells, hy.cell, hz.cells, hz.cell, upd, h1, -Bool.decide_and]
    simpa using hR

theorem keepers_ok {h : Heap} {v : V} {c : Lk} {F : List Nat} (hc : LkV h v c F) (h1 : c.rd.length = 4) (h2 : c.wr.length = 4) {a : Ak} (ha : 0 ≤ a.item ∧ a.item ≤ 3) :
    ∃ r h', call p 380 [v, av a] h = some (r, h') ∧ Out h.length h' r (keepL c a 4) ∧ Keeps h h' ∧ h.length ≤ h'.length := by
  obtain ⟨x, y, z, F1, F2, F3, rfl, _, hx, hy, hz⟩ := hc
  obtain ⟨who, item, w, e⟩ := a
  simp only at ha
  obtain ⟨m, rfl⟩ : ∃ m : Nat, item = m := ⟨item.toNat, by omega⟩
  refine go (fn := g380) rfl rfl fun R hR => ?_
  simp [g380, hx.cells, hx.cell, hy.cells, hy.cell, hz.cells, hz.cell, upd]
  refine Wc_upM (M := [5, 6, 8, 9, 10, 11, 12, 13, 14, 15, 16, 17, 18, 19, 20, 21, 22, 23, 24, 25, 26, 27, 28, 29, 30, 31, 32, 33, 34, 35, 36, 37, 38, 39, 40, 41, 42, 43]) rfl 4 (fun i s => i ≤ 4 ∧ s.σ 8 = .v (vi i) ∧ s.L 2 = (1, [x, y, z]) ∧ s.L 3 = (1, [vi who, vi m, .bool w, .bool e]) ∧ (∃ v5, s.σ 5 = .v v5 ∧ Out h.length s.h v5 (keepL c ⟨who, m, w, e⟩ i)) ∧ Keeps h s.h ∧ h.length ≤ s.h.length) 0
    ⟨by omega, by simp, by simp [upd], by simp [upd], ⟨.slice h.length 0 0 (.k 0), by simp, Out.empty (Nat.le_refl _) (by simp)⟩, Keeps.append _ _, by simp⟩ fun i s ⟨gi, g8, gL, gL3, ⟨v5, g5, ho⟩, hk, hl⟩ hM J hJ => ?_
  by_cases hi : i < 4
  · have hi' : (i : Int) < 4 := by omega
    have i1 : m < c.rd.length := by omega
    have i2 : m < c.wr.length := by omega
    obtain ⟨zr, Fr, lr, hzr, _⟩ := (hx.keep hk).loadL m i1
    have ir := hx.idx 1 .i64 m i1
    have iw := hy.idx 1 .i64 m i2
    simp only [Nat.mul_one] at ir iw
    have lw := (hy.keep hk).sl.loadI m i2
    have st : IntKind.i64.wrap ((i : Int) + 1) = (i + 1 : Nat) := by rw [IntWalk.i64_in] <;> omega
    have e1 := containsI_eq hzr.sl (i : Int)
    have hs := upTo_filter (keepQ c ⟨who, m, w, e⟩) i
    have hq : keepQ c ⟨who, m, w, e⟩ i = (decide ((i : Int) ≠ who) && (decide (c.wr[m] = (i : Int)) || (w && decide ((i : Int) ∈ c.rd[m])))) := by
      simp [keepQ, List.getElem?_eq_getElem i1, List.getElem?_eq_getElem i2]
    have hln := upTo_flen (keepQ c ⟨who, m, w, e⟩) i
    obtain ⟨v', h3, e3, o3, k3, l3⟩ := ho.one (i : Int) (by show ((upTo i).filter _).length ≤ _; omega)
    have yes : keepQ c ⟨who, m, w, e⟩ i = true → ∀ s' : S, s'.h = h3 → s'.σ 8 = .v (vi (i + 1 : Nat)) → s'.σ 5 = .v v' → s'.L 2 = (1, [x, y, z]) → s'.L 3 = (1, [vi who, vi m, .bool w, .bool e]) → J s' := fun hq s' q1 q2 q3 q4 q5 => by
      rw [if_pos hq] at hs
      exact hJ s' hi ⟨hi, q2, q4, q5, ⟨v', q3, by rw [q1, keepL, hs]; exact o3⟩, by rw [q1]; exact ho.far hk k3 (Nat.le_refl _), by rw [q1]; omega⟩
    have no : keepQ c ⟨who, m, w, e⟩ i = false → ∀ s' : S, s'.h = s.h → s'.σ 8 = .v (vi (i + 1 : Nat)) → s'.σ 5 = .v v5 → s'.L 2 = (1, [x, y, z]) → s'.L 3 = (1, [vi who, vi m, .bool w, .bool e]) → J s' := fun hq s' q1 q2 q3 q4 q5 => by
      rw [if_neg (by rw [hq]; simp)] at hs
      exact hJ s' hi ⟨hi, q2, q4, q5, ⟨v5, q3, by rw [q1, keepL, hs]; exact ho⟩, by rw [q1]; exact hk, by rw [q1]; exact hl⟩
    rw [hq] at yes no
    have hm4 : m < 4 := by omega
    generalize c.rd[m] = row at *
    generalize c.wr[m] = wv at *
    by_cases hw : (i : Int) = who
    · subst hw
      simp [g380_0, hM, g8, gL, gL3, g5, hi, hi', st, -Int.natCast_add]
      refine no (by simp) _ ?_ ?_ ?_ ?_ ?_ <;> simp [g5, gL, gL3]
    · by_cases hv : wv = (i : Int)
      · subst hv
        simp [g380_0, hM, g8, gL, gL3, g5, hi, hi', hw, iw, lw, fillL, rdS_last, e3, st, -Int.natCast_add]
        refine yes (by simp [hw]) _ ?_ ?_ ?_ ?_ ?_ <;> simp [gL, gL3]
      · cases w with
        | false =>
          simp [g380_0, hM, g8, gL, gL3, g5, hi, hi', hw, iw, lw, hv, st, -Int.natCast_add]
          refine no (by simp [hw, hv]) _ ?_ ?_ ?_ ?_ ?_ <;> simp [g5, gL, gL3]
        | true =>
          by_cases hm : (i : Int) ∈ row
          · rw [decide_eq_true hm] at e1
            simp [g380_0, hM, g8, gL, gL3, g5, hi, hi', hw, iw, lw, hv, ir, lr, e1, fillL, rdS_last, e3, st, -Int.natCast_add]
            refine yes (by simp [hw, hm]) _ ?_ ?_ ?_ ?_ ?_ <;> simp [gL, gL3]
          · rw [decide_eq_false hm] at e1
            simp [g380_0, hM, g8, gL, gL3, g5, hi, hi', hw, iw, lw, hv, ir, lr, e1, st, -Int.natCast_add]
            refine no (by simp [hw, hv, hm]) _ ?_ ?_ ?_ ?_ ?_ <;> simp [g5, gL, gL3]
  · have : i = 4 := by omega
    subst this
    simp [g380_0, hM, g8, g5]
    exact hR _ _ ⟨ho, hk, hl⟩
theorem l8Waits_ok {h : Heap} {v : V} {c : Lk} {F : List Nat} (hc : LkV h v c F) (h1 : c.rd.length = 4) (h2 : c.wr.length = 4) {a : Ak} (ha : 0 ≤ a.item ∧ a.item ≤ 3) :
    ∃ r h', call p 382 [v, av a] h = some (r, h') ∧ Out h.length h' r (keepL c a 4) ∧ Keeps h h' ∧ h.length ≤ h'.length := by
  obtain ⟨x, y, z, F1, F2, F3, rfl, _, hx, hy, hz⟩ := hc
  obtain ⟨who, item, w, e⟩ := a
  simp only at ha
  obtain ⟨m, rfl⟩ : ∃ m : Nat, item = m := ⟨item.toNat, by omega⟩
  refine go (fn := g382) rfl rfl fun R hR => ?_
  simp [g382, hx.cells, hx.cell, hy.cells, hy.cell, hz.cells, hz.cell, upd]
  refine Wc_upM (M := [5, 6, 7, 8, 9, 10, 11, 12, 13, 14, 15, 16, 17, 18, 19, 20, 21, 22, 23, 24, 25, 26, 27, 28, 29, 30, 31, 32, 33, 34, 35, 36, 37, 38, 39, 40, 41, 42]) rfl 4 (fun i s => i ≤ 4 ∧ s.σ 6 = .v (vi i) ∧ s.L 2 = (1, [x, y, z]) ∧ s.L 3 = (1, [vi who, vi m, .bool w, .bool e]) ∧ (∃ v5, s.σ 5 = .v v5 ∧ Out h.length s.h v5 (keepL c ⟨who, m, w, e⟩ i)) ∧ Keeps h s.h ∧ h.length ≤ s.h.length) 0
    ⟨by omega, by simp, by simp [upd], by simp [upd], ⟨.nils, by simp, Out.nil (Nat.le_refl _)⟩, Keeps.refl _, Nat.le_refl _⟩ fun i s ⟨gi, g8, gL, gL3, ⟨v5, g5, ho⟩, hk, hl⟩ hM J hJ => ?_
  by_cases hi : i < 4
  · have hi' : (i : Int) < 4 := by omega
    have i1 : m < c.rd.length := by omega
    have i2 : m < c.wr.length := by omega
    obtain ⟨zr, Fr, lr, hzr, _⟩ := (hx.keep hk).loadL m i1
    have ir := hx.idx 1 .i64 m i1
    have iw := hy.idx 1 .i64 m i2
    simp only [Nat.mul_one] at ir iw
    have lw := (hy.keep hk).sl.loadI m i2
    have st : IntKind.i64.wrap ((i : Int) + 1) = (i + 1 : Nat) := by rw [IntWalk.i64_in] <;> omega
    have e1 := l1Has_eq hzr.sl (i : Int)
    have hs := upTo_filter (keepQ c ⟨who, m, w, e⟩) i
    have hq : keepQ c ⟨who, m, w, e⟩ i = (decide ((i : Int) ≠ who) && (decide (c.wr[m] = (i : Int)) || (w && decide ((i : Int) ∈ c.rd[m])))) := by
      simp [keepQ, List.getElem?_eq_getElem i1, List.getElem?_eq_getElem i2]
    have hln := upTo_flen (keepQ c ⟨who, m, w, e⟩) i
    obtain ⟨v', h3, e3, o3, k3, l3⟩ := ho.one (i : Int) (by show ((upTo i).filter _).length ≤ _; omega)
    have yes : keepQ c ⟨who, m, w, e⟩ i = true → ∀ s' : S, s'.h = h3 → s'.σ 6 = .v (vi (i + 1 : Nat)) → s'.σ 5 = .v v' → s'.L 2 = (1, [x, y, z]) → s'.L 3 = (1, [vi who, vi m, .bool w, .bool e]) → J s' := fun hq s' q1 q2 q3 q4 q5 => by
      rw [if_pos hq] at hs
      exact hJ s' hi ⟨hi, q2, q4, q5, ⟨v', q3, by rw [q1, keepL, hs]; exact o3⟩, by rw [q1]; exact ho.far hk k3 (Nat.le_refl _), by rw [q1]; omega⟩
    have no : keepQ c ⟨who, m, w, e⟩ i = false → ∀ s' : S, s'.h = s.h → s'.σ 6 = .v (vi (i + 1 : Nat)) → s'.σ 5 = .v v5 → s'.L 2 = (1, [x, y, z]) → s'.L 3 = (1, [vi who, vi m, .bool w, .bool e]) → J s' := fun hq s' q1 q2 q3 q4 q5 => by
      rw [if_neg (by rw [hq]; simp)] at hs
      exact hJ s' hi ⟨hi, q2, q4, q5, ⟨v5, q3, by rw [q1, keepL, hs]; exact ho⟩, by rw [q1]; exact hk, by rw [q1]; exact hl⟩
    rw [hq] at yes no
    have hm4 : m < 4 := by omega
    generalize c.rd[m] = row at *
    generalize c.wr[m] = wv at *
    by_cases hw : (i : Int) = who
    · subst hw
      simp [g382_0, hM, g8, gL, gL3, g5, hi, hi', st, -Int.natCast_add]
      refine no (by simp) _ ?_ ?_ ?_ ?_ ?_ <;> simp [g5, gL, gL3]
    · by_cases hv : wv = (i : Int)
      · subst hv
        simp [g382_0, hM, g8, gL, gL3, g5, hi, hi', hw, iw, lw, fillL, rdS_last, e3, st, -Int.natCast_add]
        refine yes (by simp [hw]) _ ?_ ?_ ?_ ?_ ?_ <;> simp [gL, gL3]
      · cases w with
        | false =>
          simp [g382_0, hM, g8, gL, gL3, g5, hi, hi', hw, iw, lw, hv, st, -Int.natCast_add]
          refine no (by simp [hw, hv]) _ ?_ ?_ ?_ ?_ ?_ <;> simp [g5, gL, gL3]
        | true =>
          by_cases hm : (i : Int) ∈ row
          · rw [decide_eq_true hm] at e1
            simp [g382_0, hM, g8, gL, gL3, g5, hi, hi', hw, iw, lw, hv, ir, lr, e1, fillL, rdS_last, e3, st, -Int.natCast_add]
            refine yes (by simp [hw, hm]) _ ?_ ?_ ?_ ?_ ?_ <;> simp [gL, gL3]
          · rw [decide_eq_false hm] at e1
            simp [g382_0, hM, g8, gL, gL3, g5, hi, hi', hw, iw, lw, hv, ir, lr, e1, st, -Int.natCast_add]
            refine no (by simp [hw, hv, hm]) _ ?_ ?_ ?_ ?_ ?_ <;> simp [g5, gL, gL3]
  · have : i = 4 := by omega
    subst this
    simp [g382_0, hM, g8, g5]
    exact hR _ _ ⟨ho, hk, hl⟩
end GL

namespace GL
open Go

theorem cloneO {h : Heap} {v : V} {xs : List Int} (hs : Sl h v xs) (hl : xs.length ≤ 2 ^ 20) : ∃ r h', call p 389 [v] h = some (r, h') ∧ Out h.length h' r xs ∧ Keeps h h' ∧ h.length ≤ h'.length := by
  refine go (fn := g389) rfl rfl fun R hR => ?_
  have hs' := hs.keeps (Keeps.append h [⟨.own, []⟩])
  have e1 := hs'.rdS xs.length (Nat.le_refl _)
  rw [List.take_length] at e1
  change rdS _ 1 _ _ = _ at e1
  have hlen := hs.len
  rcases hs with ⟨_, ⟨rfl, rfl⟩ | ⟨b, off, cap, rfl, _⟩⟩
  · simp [g389]
    exact hR _ _ ⟨Out.nil (Nat.le_refl _), Keeps.refl _, Nat.le_refl _⟩
  · by_cases h0 : xs = []
    · subst h0
      have ap : ∀ b H, appH 1 8 (.slice b 0 0 (.k 0)) 0 [] H = some (.slice b 0 0 (.k 0), H) := fun _ _ => rfl
      have e1' : rdS (h ++ [⟨.own, []⟩]) 1 (.slice b off 0 cap) 0 = some [] := e1
      simp [g389, fillL, e1', ap]
      exact hR _ _ ⟨Out.empty (Nat.le_refl _) (by simp), Keeps.append _ _, by simp⟩
    · have n0 : 0 < xs.length := List.length_pos_iff.2 h0
      have ho : Out h.length (h ++ [⟨.own, []⟩]) (.slice h.length 0 0 (.k 0)) ([] : List Int) := Out.empty (Nat.le_refl _) (by simp)
      obtain ⟨r, h', e, o', k', l', b'⟩ := ho.app xs n0 (bytes := 8) (by decide) (by simp; omega) (k := 1) rfl rfl rfl
      simp only [List.nil_append] at o'
      simp [g389, fillL, e1, e]
      exact hR _ _ ⟨o', ho.far (Keeps.append _ _) k' (Nat.le_refl _), by simp at l'; omega⟩

/-- locks of one's own, in memory -/
def LkO (lo : Nat) (h : Heap) (x y z : V) (c : Lk) (F1 F2 : List Nat) : Prop := SdF h x c.rd F1 ∧ SdF h y c.wr F2 ∧ Out lo h z c.ov ∧ Fresh lo h (F1 ++ F2) ∧ ∀ i, vB z i → i ∉ F1 ++ F2
section
variable {lo : Nat} {h h' : Heap} {x y z : V} {c : Lk} {F1 F2 : List Nat}
theorem LkO.keeps {P : Nat → Prop} (o : LkO lo h x y z c F1 F2) (hk : KeepsP P h h') (hp : ∀ i ∈ F1 ++ F2, P i) (hz : ∀ i, vB z i → P i) (hl : h.length ≤ h'.length) : LkO lo h' x y z c F1 F2 := by
  obtain ⟨h1, h2, h3, h4, h5⟩ := o
  exact ⟨h1.keeps (hk.mono fun i hi => hp i (by simp [hi])), h2.keeps (hk.mono fun i hi => hp i (by simp [hi])), h3.keeps hk hz hl, h4.keeps (hk.mono hp), h5⟩
theorem LkO.keep (o : LkO lo h x y z c F1 F2) (hk : Keeps h h') (hl : h.length ≤ h'.length) : LkO lo h' x y z c F1 F2 := o.keeps (hk.p fun _ => True) (fun _ _ => trivial) (fun _ _ => trivial) hl
theorem LkO.v (o : LkO lo h x y z c F1 F2) : ∃ F, LkV h (.agg [x, y, z]) c F ∧ Fresh lo h F ∧ ∀ i ∈ F, i ∈ F1 ++ F2 ∨ vB z i := by
  obtain ⟨h1, h2, h3, h4, h5⟩ := o
  have h3' := h3
  obtain ⟨_, _, ⟨rfl, hov⟩ | ⟨b1, rfl, hb1, _⟩ | ⟨b1, rfl, hov, _⟩⟩ := h3
  · exact ⟨F1 ++ F2 ++ [], ⟨x, y, .nils, F1, F2, [], rfl, rfl, h1, h2, by rw [hov]; exact .nil⟩, by simpa using h4, fun i hi => .inl (by simpa using hi)⟩
  · obtain ⟨F, hF, hF2, hF3⟩ := h3'.sl.sdF h3'.cap
    refine ⟨F1 ++ F2 ++ F, ⟨x, y, _, F1, F2, F, rfl, rfl, h1, h2, hF⟩, ⟨List.nodup_append.2 ⟨h4.nodup, hF.flatF.2.1, fun a ha b hb e => ?_⟩, fun i hi => ?_, fun i hi => ?_⟩, fun i hi => ?_⟩
    · subst e; exact h5 a (hF2 a hb).2 ha
    · rcases List.mem_append.1 hi with hi | hi
      · exact h4.ge i hi
      · exact (h3'.ge (hF2 i hi).2).1
    · rcases List.mem_append.1 hi with hi | hi
      · exact h4.own i hi
      · have := (hF2 i hi).1; simp [bOf] at this; subst this; exact ⟨_, hb1⟩
    · rcases List.mem_append.1 hi with hi | hi
      · exact .inl hi
      · exact .inr (hF2 i hi).2
  · exact ⟨F1 ++ F2 ++ [], ⟨x, y, _, F1, F2, [], rfl, rfl, h1, h2, by rw [hov]; exact ⟨by simp, .inr ⟨b1, 0, .k 0, rfl, Nat.le_refl _, .inl ⟨rfl, rfl⟩⟩⟩⟩, by simpa using h4, fun i hi => .inl (by simpa using hi)⟩
theorem LkO.setW (o : LkO lo h x y z c F1 F2) {k : Nat} (hk : k < c.wr.length) (n : Int) : ∃ h', wrH h (bOf y) (oOf y + k) [vi n] = some h' ∧ LkO lo h' x y z ⟨c.rd, c.wr.set k n, c.ov⟩ F1 F2 ∧ KeepsP (fun i => i ∉ F1 ++ F2) h h' ∧ h'.length = h.length ∧ ∀ i, OwnB h i → OwnB h' i := by
  obtain ⟨h1, h2, h3, h4, h5⟩ := o
  have hb : bOf y ∈ F2 := h2.bIn hk
  obtain ⟨h', e, q1, q2, q3, q4⟩ := h2.putI (fun i hi => h4.own i (by simp [hi])) hk n
  have hd : ∀ i ∈ F1, i ≠ bOf y := fun i hi e => (List.nodup_append.1 h4.nodup).2.2 i hi _ hb e
  refine ⟨h', e, ⟨h1.keeps (q2.mono hd), q1, h3.keeps q2 (fun i hi e => h5 i hi (by rw [e]; simp [hb])) (by omega), ⟨h4.nodup, h4.ge, fun i hi => q4 i (h4.own i hi)⟩, h5⟩, q2.mono fun i hi e => hi (by rw [e]; simp [hb]), q3, q4⟩
end
/-- a list of lists of one's own: one of them anew -/
theorem SdF.putL {h : Heap} {v : V} {xs : List (List Int)} {F : List Nat} (hs : SdF h v xs F) (hn : F.Nodup) (ho : ∀ b ∈ F, OwnB h b) {i : Nat} (hi : i < xs.length) {w : V} {ys : List Int} {G : List Nat} (hw : SdF h w ys G) (hg : G.Nodup) (hd : ∀ b ∈ G, b ∉ F) :
    ∃ h' F', wrH h (bOf v) (oOf v + i) [w] = some h' ∧ SdF h' v (xs.set i ys) F' ∧ F'.Nodup ∧ (∀ b ∈ F', b ∈ F ∨ b ∈ G) ∧ KeepsP (fun b => b ≠ bOf v) h h' ∧ h'.length = h.length ∧ ∀ b, OwnB h b → OwnB h' b := by
  have hbv := hs.bIn hi
  obtain ⟨hlen0, hs⟩ := hs
  have hsz : Data.sz (List Int) = 1 := rfl
  rcases hs with ⟨rfl, rfl, _⟩ | ⟨b, off, cap, rfl, hcap, hs⟩
  · simp at hi
  · rcases hs with ⟨rfl, _⟩ | ⟨blk, cs, G0, rfl, h1, h2, h3, h4⟩
    · simp at hi
    · obtain ⟨ds, hds⟩ := ho b (by simp)
      rw [hds] at h1; cases h1
      obtain ⟨F1, F2, F3, rfl, r2, r1, r3⟩ := h4.get i hi
      have hcl := h4.len
      rw [hsz, Nat.mul_one] at hcl h3
      simp only [hsz, Nat.mul_one] at r1 r2 r3
      have hn' := List.nodup_cons.1 hn
      have hbG : b ∉ G := fun h => hd b h (by simp)
      have hcut := h3
      simp only [cut] at hcut
      by_cases hle : off + xs.length ≤ ds.length
      · rw [if_pos hle] at hcut
        have hcs : (ds.drop off).take xs.length = cs := Option.some.inj hcut
        have hlay : lay ds (off + i) [w] = some (ds.set (off + i) w) := by
          simp only [lay, List.length_singleton]
          rw [if_pos (by omega)]
          congr 1
          rw [List.set_eq_take_append_cons_drop, if_pos (by omega)]; simp
        have kb : KeepsP (fun c => c ≠ b) h (h.set b ⟨.own, ds.set (off + i) w⟩) := fun c blk hc hb _ => by rw [List.getElem?_set_ne (Ne.symm hc)]; exact hb
        have hnF : b ∉ F1 ∧ b ∉ F2 ∧ b ∉ F3 := by
          have := hn'.1; simp only [List.mem_append, not_or] at this; exact ⟨this.1.1, this.1.2, this.2⟩
        have hw' : SdF (h.set b ⟨.own, ds.set (off + i) w⟩) w ys G := hw.keeps (kb.mono fun c hc e => hbG (e ▸ hc))
        refine ⟨h.set b ⟨.own, ds.set (off + i) w⟩, b :: (F1 ++ G ++ F3), ?_, ⟨by simpa using hlen0, .inr ⟨b, off, cap, by simp, by simpa using hcap, .inr ⟨⟨.own, ds.set (off + i) w⟩, cs.set i w, _, rfl, by simp [get_lt hds], by simp, ?_, ?_⟩⟩⟩, ?_, fun c hc => ?_, kb, by simp, fun c hc => ?_⟩
        · simp only [bOf, oOf]; rw [wrH_at hds rfl, hlay]; rfl
        · rw [hsz, Nat.mul_one]
          simp only [cut, List.length_set]
          rw [if_pos hle, List.drop_set, if_neg (by omega), show off + i - off = i by omega, List.take_set, hcs]
        · have hcsl : i < cs.length := by omega
          have hset : cs.set i w = cs.take i ++ [w] ++ cs.drop (i + 1) := by rw [List.set_eq_take_append_cons_drop, if_pos hcsl]; simp
          have hset2 : xs.set i ys = xs.take i ++ [ys] ++ xs.drop (i + 1) := by rw [List.set_eq_take_append_cons_drop, if_pos hi]; simp
          rw [hset, hset2]
          exact ((r1.keeps (kb.mono fun c hc e => hnF.1 (e ▸ hc))).append (.one ⟨w, rfl, hw'⟩)).append (r3.keeps (kb.mono fun c hc e => hnF.2.2 (e ▸ hc)))
        · have n2 := hn'.2
          rw [List.nodup_append, List.nodup_append] at n2
          obtain ⟨⟨a1, a2, a3⟩, a4, a5⟩ := n2
          refine List.nodup_cons.2 ⟨by simp only [List.mem_append, not_or]; exact ⟨⟨hnF.1, hbG⟩, hnF.2.2⟩, ?_⟩
          rw [List.nodup_append, List.nodup_append]
          refine ⟨⟨a1, hg, fun u hu w hw e => ?_⟩, a4, fun u hu w hw e => ?_⟩
          · subst e; exact hd u hw (by simp [hu])
          · subst e
            rcases List.mem_append.1 hu with hu | hu
            · exact a5 u (by simp [hu]) u hw rfl
            · exact hd u hu (by simp [hw])
        · simp only [List.mem_cons, List.mem_append] at hc ⊢
          rcases hc with h | (h | h) | h <;> simp [h]
        · exact hc.set (get_lt hds)
      · rw [if_neg hle] at hcut; cases hcut
section
variable {lo : Nat} {h h' : Heap} {x y z : V} {c : Lk} {F1 F2 : List Nat}
theorem LkO.setR (o : LkO lo h x y z c F1 F2) {k : Nat} (hk : k < c.rd.length) {w : V} {ys : List Int} {G : List Nat} (hw : SdF h w ys G) (hg : Fresh lo h G) (hd : ∀ b ∈ G, b ∉ F1 ++ F2 ∧ ¬ vB z b) :
    ∃ h' F1', wrH h (bOf x) (oOf x + k) [w] = some h' ∧ LkO lo h' x y z ⟨c.rd.set k ys, c.wr, c.ov⟩ F1' F2 ∧ (∀ i ∈ F1', i ∈ F1 ∨ i ∈ G) ∧ KeepsP (fun i => i ∉ F1 ++ F2) h h' ∧ h'.length = h.length ∧ ∀ i, OwnB h i → OwnB h' i := by
  obtain ⟨h1, h2, h3, h4, h5⟩ := o
  have hb : bOf x ∈ F1 := h1.bIn hk
  have n4 := List.nodup_append.1 h4.nodup
  obtain ⟨h', F1', e, q1, q2, q3, q4, q5, q6⟩ := h1.putL n4.1 (fun i hi => h4.own i (by simp [hi])) hk hw hg.nodup (fun i hi => fun hm => (hd i hi).1 (by simp [hm]))
  refine ⟨h', F1', e, ⟨q1, h2.keeps (q4.mono fun i hi e => n4.2.2 _ hb i hi e.symm), h3.keeps q4 (fun i hi e => h5 i hi (by rw [e]; simp [hb])) (by omega), ⟨List.nodup_append.2 ⟨q2, n4.2.1, fun u hu w hw e => ?_⟩, fun i hi => ?_, fun i hi => ?_⟩, fun i hi hm => ?_⟩, q3, q4.mono fun i hi e => hi (by rw [e]; simp [hb]), q5, q6⟩
  · subst e
    rcases q3 u hu with h | h
    · exact n4.2.2 u h u hw rfl
    · exact (hd u h).1 (by simp [hw])
  · rcases List.mem_append.1 hi with hi | hi
    · rcases q3 i hi with h | h
      · exact h4.ge i (by simp [h])
      · exact hg.ge i h
    · exact h4.ge i (by simp [hi])
  · rcases List.mem_append.1 hi with hi | hi
    · rcases q3 i hi with h | h
      · exact q6 i (h4.own i (by simp [h]))
      · exact q6 i (hg.own i h)
    · exact q6 i (h4.own i (by simp [hi]))
  · rcases List.mem_append.1 hm with hm | hm
    · rcases q3 i hm with h | h
      · exact h5 i hi (by simp [h])
      · exact (hd i h).2 hi
    · exact h5 i hi (by simp [hm])
theorem LkO.push (o : LkO lo h x y z c F1 F2) (n : Int) (hl : c.ov.length ≤ 2 ^ 20) :
    ∃ z' h', appH 1 8 z 1 [vi n] (h ++ [⟨.own, [vi n]⟩]) = some (z', h') ∧ LkO lo h' x y z' ⟨c.rd, c.wr, c.ov ++ [n]⟩ F1 F2 ∧ KeepsP (fun i => ¬ vB z i) h h' ∧ h.length < h'.length ∧ z'.cells = [z'] ∧ z'.cell = true ∧ ∀ i, vB z' i → h.length ≤ i := by
  obtain ⟨h1, h2, h3, h4, h5⟩ := o
  obtain ⟨z', h', e, q1, q2, q3, q4⟩ := oneB h3 n hl
  have hz : ∀ i ∈ F1 ++ F2, ¬ vB z i := fun i hi hv => h5 i hv hi
  refine ⟨z', h', e, ⟨h1.keeps (q2.mono fun i hi => hz i (by simp [hi])), h2.keeps (q2.mono fun i hi => hz i (by simp [hi])), q1, h4.keeps (q2.mono hz), fun i hi hm => ?_⟩, q2, q3, q1.sl.cells, q1.sl.cell, q4⟩
  have := q4 i hi
  have := (h4.own i hm).lt
  omega
end
end GL

namespace GL
open Go

def putS (row : List Int) (n : Int) : List Int := (upTo 4).filter fun x => decide (x ∈ row) || decide (x = n)
theorem putS_ris (row : List Int) (n : Int) : (putS row n).Pairwise (· < ·) := (range_rising 4).filter _
theorem putS_ext {row : List Int} {n : Int} (hr : ∀ x ∈ row, 0 ≤ x ∧ x ≤ 3) (hn : 0 ≤ n ∧ n ≤ 3) {ys : List Int} (hy : ys.Pairwise (· < ·)) (hm : ∀ x, x ∈ ys ↔ x ∈ row ∨ x = n) : ys = putS row n := by
  refine rising_ext hy (putS_ris _ _) fun x => ?_
  rw [hm, putS, List.mem_filter, mem_upTo]
  simp only [Bool.or_eq_true, decide_eq_true_eq]
  constructor
  · intro h
    refine ⟨?_, h⟩
    rcases h with h | h
    · have := hr x h; omega
    · omega
  · exact fun h => h.2
def dropS (n : Int) (row : List Int) : List Int := row.filter fun x => !decide (x = n)
def endW (n : Int) (w : Int) : Int := if w = n then -1 else w
def endC (c : Lk) (n : Int) (i : Nat) : Lk := ⟨(c.rd.take i).map (dropS n) ++ c.rd.drop i, (c.wr.take i).map (endW n) ++ c.wr.drop i, c.ov⟩
def lkStep (c : Lk) (a : Ak) : Lk :=
  if a.e = true then ⟨c.rd.map (dropS a.who), c.wr.map (endW a.who), c.ov ++ [a.who]⟩
  else if a.w = true then ⟨c.rd, c.wr.set a.item.toNat a.who, c.ov⟩
  else ⟨c.rd.set a.item.toNat (putS (c.rd.getD a.item.toNat []) a.who), c.wr, c.ov⟩
def lkCan (c : Lk) (a : Ak) : Bool := askK c a && (a.e || decide (keepL c a 4 = []))
/-- the form of locks -/
def shapeK (c : Lk) : Prop := c.rd.length = 4 ∧ c.wr.length = 4 ∧ c.ov.length ≤ 2 ^ 19 ∧ ∀ r ∈ c.rd, risB 0 3 r = true
theorem shape_row {c : Lk} (h : shapeK c) {i : Nat} (hi : i < c.rd.length) : risB 0 3 c.rd[i] = true := h.2.2.2 _ (List.getElem_mem hi)
theorem map_step {α : Type} {f : α → α} {xs : List α} {i : Nat} (hi : i < xs.length) : (xs.take (i + 1)).map f ++ xs.drop (i + 1) = ((xs.take i).map f ++ xs.drop i).set i (f xs[i]) := by
  apply List.ext_getElem
  · simp; omega
  · intro k h1 h2
    rw [List.getElem_set]
    by_cases hk : i = k
    · subst hk
      rw [if_pos rfl, List.getElem_append_left (by simp; omega)]
      simp
    · rw [if_neg hk]
      by_cases hlt : k < i
      · rw [List.getElem_append_left (by simp; omega), List.getElem_append_left (by simp; omega)]; simp
      · rw [List.getElem_append_right (by simp; omega), List.getElem_append_right (by simp; omega)]
        simp only [List.length_map, List.length_take, List.getElem_drop]
        congr 1
        simp at h1; omega
theorem map_at {α : Type} {f : α → α} {xs : List α} {i : Nat} (hi : i < xs.length) (h2 : i < ((xs.take i).map f ++ xs.drop i).length) : ((xs.take i).map f ++ xs.drop i)[i] = xs[i] := by
  rw [List.getElem_append_right (by simp; omega)]
  simp only [List.length_map, List.length_take, List.getElem_drop]
  congr 1
  omega
theorem map_len {α : Type} {f : α → α} (xs : List α) (i : Nat) : ((xs.take i).map f ++ xs.drop i).length = xs.length := by simp; omega

theorem end_ok {h : Heap} {x y z : V} {c : Lk} {F1 F2 : List Nat} {bb lo : Nat} (hb : h[bb]? = some ⟨.own, [x, y, z]⟩) (o : LkO lo h x y z c F1 F2) (hs : shapeK c) (hbF : bb ∉ F1 ++ F2) (hbz : ¬ vB z bb) (hlo : lo ≤ bb) (n : Int) :
    ∃ r h', call p 411 [.ptr bb 0, vi n] h = some (r, h') ∧ ∃ z' F1', r = .tup [] ∧ h'[bb]? = some ⟨.own, [x, y, z']⟩ ∧ LkO lo h' x y z' ⟨c.rd.map (dropS n), c.wr.map (endW n), c.ov ++ [n]⟩ F1' F2 ∧ bb ∉ F1' ++ F2 ∧ ¬ vB z' bb ∧ KeepsP (fun i => i < lo) h h' ∧ h.length ≤ h'.length := by
  obtain ⟨s1, s2, s3, s4⟩ := hs
  refine go (fn := g411) rfl rfl fun R hR => ?_
  simp [g411]
  have e0 : endC c n 0 = c := by simp [endC]
  have hbl := get_lt hb
  refine Wc_upM (M := [4, 5, 6, 7, 8, 9, 10, 11, 12, 13, 14, 15, 16, 17, 18, 19, 20, 21, 22, 23, 24, 25, 26, 27, 28, 29, 30, 31, 32, 33, 34, 35, 36, 37, 38, 39]) rfl 4 (fun i s => i ≤ 4 ∧ s.σ 5 = .v (vi i) ∧ s.h[bb]? = some ⟨.own, [x, y, z]⟩ ∧ (∃ G1, LkO lo s.h x y z (endC c n i) G1 F2 ∧ bb ∉ G1 ++ F2) ∧ KeepsP (fun i => i < lo) h s.h ∧ h.length ≤ s.h.length) 0
    ⟨by omega, by simp, hb, ⟨F1, by rw [e0]; exact o, hbF⟩, KeepsP.refl _ _, Nat.le_refl _⟩ fun i s ⟨gi, g5, gb, ⟨G1, go', gbF⟩, hk, hl⟩ hM J hJ => ?_
  have r0 := rdH_at (off := 0) (n := 1) gb (by simp)
  have r1 := rdH_at (off := 1) (n := 1) gb (by simp)
  have r2 := rdH_at (off := 2) (n := 1) gb (by simp)
  by_cases hi : i < 4
  · have hi' : (i : Int) < 4 := by omega
    have i1 : i < c.rd.length := by omega
    have i2 : i < c.wr.length := by omega
    have j1 : i < (endC c n i).rd.length := by simp only [endC]; rw [map_len]; exact i1
    have j2 : i < (endC c n i).wr.length := by simp only [endC]; rw [map_len]; exact i2
    have st : IntKind.i64.wrap ((i : Int) + 1) = (i + 1 : Nat) := by rw [IntWalk.i64_in] <;> omega
    obtain ⟨zr, Fr, lr, hzr, _⟩ := go'.1.loadL i j1
    have hrow : (endC c n i).rd[i] = c.rd[i] := map_at i1 j1
    have hwv : (endC c n i).wr[i] = c.wr[i] := map_at i2 j2
    rw [hrow] at hzr
    have ir := go'.1.idx 1 .i64 i j1
    have iw := go'.2.1.idx 1 .i64 i j2
    simp only [Nat.mul_one] at ir iw
    have hris := s4 _ (List.getElem_mem i1)
    have hrl := ris4_len hris
    have kl : Keeps s.h (s.h ++ [⟨.own, [vi n]⟩]) := Keeps.append _ _
    have sl1 := Sl.lit (h := s.h) [n] 1 rfl [vi n] rfl (.k 1) (by simp)
    obtain ⟨w2, h2, e2, G2, t2, f2, k2, l2⟩ := without_ok (hzr.keep kl).sl sl1 (by omega)
    have hflt : (c.rd[i].filter fun m => !decide (m ∈ [n])) = dropS n c.rd[i] := by simp [dropS]
    rw [hflt] at t2
    simp at l2
    have k12 := kl.trans k2
    have go2 := go'.keep k12 (by omega)
    have gb2 := k12 _ _ gb (by simp)
    have hlG : ∀ b ∈ G1 ++ F2, b < s.h.length := fun b hb => (go'.2.2.2.1.own b hb).lt
    obtain ⟨h3, G3, e3, o3, q3, k3, l3, w3⟩ := go2.setR j1 t2 (f2.mono (by have := go'.2.2.1.2.1; rw [List.length_append]; omega)) (fun b hb => ⟨fun hm => by have := hlG b hm; have := f2.ge b hb; simp at this; omega, fun hv => by have := (go'.2.2.1.ge hv).2; have := f2.ge b hb; simp at this; omega⟩)
    have hbl2 : bb < s.h.length := get_lt gb
    have gb3 : h3[bb]? = some ⟨.own, [x, y, z]⟩ := k3 _ _ gbF gb2 (by simp)
    have gbF3 : bb ∉ G3 ++ F2 := fun hm => by
      rcases List.mem_append.1 hm with hm | hm
      · rcases q3 bb hm with h | h
        · exact gbF (by simp [h])
        · have := f2.ge bb h; simp at this; omega
      · exact gbF (by simp [hm])
    have hk3 : KeepsP (fun i => i < lo) h h3 := (hk.trans (k12.p _)).trans (k3.mono fun j hj hm => by have := go'.2.2.2.1.ge j hm; omega)
    have r12 := rdH_at (off := 1) (n := 1) gb3 (by simp)
    have lw := o3.2.1.sl.loadI i j2
    rw [hwv] at lw
    have hms := map_step (f := dropS n) i1
    have hmw := map_step (f := endW n) i2
    have cr0 := rdH_keep kl r0
    have crr := rdH_keep kl lr
    have cr02 := rdH_keep k12 r0
    have t2c := t2.cells
    have t2l := t2.cell
    by_cases hw : c.wr[i] = n
    · have ew : endW n c.wr[i] = -1 := by simp [endW, hw]
      obtain ⟨h4, e4, o4, k4, l4, w4⟩ := o3.setW j2 (-1)
      have gb4 : h4[bb]? = some ⟨.own, [x, y, z]⟩ := k4 _ _ gbF3 gb3 (by simp)
      have hc : endC c n (i + 1) = ⟨(endC c n i).rd.set i (dropS n c.rd[i]), (endC c n i).wr.set i (-1), c.ov⟩ := by
        simp only [endC]; rw [hms, hmw, ew]
      rw [hw] at lw
      generalize c.rd[i] = row at *
      simp [g411_0, hM, g5, hi, hi', r0, ir, lr, fillL, stable, stab1, cr0, crr, e2, cr02, t2c, t2l, e3, r12, iw, lw, e4, st, -Int.natCast_add]
      exact hJ _ hi ⟨hi, by simp, gb4, ⟨G3, by rw [hc]; exact o4, gbF3⟩, hk3.trans (k4.mono fun j hj hm => by have := o3.2.2.2.1.ge j hm; omega), by show h.length ≤ h4.length; omega⟩
    · have ew : endW n c.wr[i] = c.wr[i] := by simp [endW, hw]
      have hc : endC c n (i + 1) = ⟨(endC c n i).rd.set i (dropS n c.rd[i]), (endC c n i).wr, c.ov⟩ := by
        simp only [endC]; rw [hms, hmw, ew]
        congr 1
        have := List.set_getElem_self (as := (c.wr.take i).map (endW n) ++ c.wr.drop i) (i := i) j2
        rw [map_at i2 j2] at this; exact this
      generalize c.rd[i] = row at *
      generalize c.wr[i] = wv at *
      simp [g411_0, hM, g5, hi, hi', r0, ir, lr, fillL, stable, stab1, cr0, crr, e2, cr02, t2c, t2l, e3, r12, iw, lw, hw, st, -Int.natCast_add]
      exact hJ _ hi ⟨hi, by simp, gb3, ⟨G3, by rw [hc]; exact o3, gbF3⟩, hk3, by show h.length ≤ h3.length; omega⟩
  · have : i = 4 := by omega
    subst this
    have e4 : endC c n 4 = ⟨c.rd.map (dropS n), c.wr.map (endW n), c.ov⟩ := by
      simp only [endC]
      rw [List.take_of_length_le (by omega), List.take_of_length_le (by omega), List.drop_of_length_le (by omega), List.drop_of_length_le (by omega), List.append_nil, List.append_nil]
    rw [e4] at go'
    obtain ⟨z', h3, e3, o3, k3, l3, zc, zl, zb⟩ := go'.push n (show c.ov.length ≤ 2 ^ 20 by omega)
    have gb3 : h3[bb]? = some ⟨.own, [x, y, z]⟩ := k3 _ _ hbz gb (by simp)
    have hw4 := wrH_at (off := 2) (xs := [z']) gb3 rfl
    have hlay : lay [x, y, z] 2 [z'] = some [x, y, z'] := by simp [lay]
    rw [hlay] at hw4
    simp only [Option.bind_some] at hw4
    have kb : KeepsP (fun i => i ≠ bb) h3 (h3.set bb ⟨.own, [x, y, z']⟩) := fun c hc hb h1 _ => by rw [List.getElem?_set_ne (Ne.symm hb)]; exact h1
    have hbl2 : bb < s.h.length := get_lt gb
    have hnz : ¬ vB z' bb := fun hv => by have := zb bb hv; omega
    simp [g411_0, hM, g5, r2, fillL, rdS_last, e3, zc, zl, hw4, resVs]
    exact hR _ _ ⟨z', G1, rfl, by rw [List.getElem?_set_self (by omega)], o3.keeps kb (fun i hi e => gbF (e ▸ hi)) (fun i hi e => hnz (e ▸ hi)) (by simp), gbF, hnz, (hk.trans (k3.mono fun j hj hv => by have := (go'.2.2.1.ge hv).1; omega)).trans (kb.mono fun j hj => by omega), by simp; omega⟩
end GL

namespace GL
open Go

/-- no list is too long -/
def smK (c : Lk) : Prop := c.rd.length ≤ 2 ^ 20 ∧ (∀ r ∈ c.rd, r.length ≤ 2 ^ 20) ∧ c.wr.length ≤ 2 ^ 20 ∧ c.ov.length ≤ 2 ^ 20
theorem mkOwn {h0 h1 h2 h3 : Heap} {x y z : V} {c : Lk} {F1 F2 : List Nat} (hy : SdF h1 y c.wr F2) (fy : Fresh h0.length h1 F2) (l1 : h0.length ≤ h1.length) (k2 : Keeps h1 h2) (l2 : h1.length ≤ h2.length) (hz : Out h1.length h2 z c.ov) (k3 : Keeps h2 h3) (l3 : h2.length ≤ h3.length) (hx : SdF h3 x c.rd F1) (fx : Fresh h2.length h3 F1) :
    LkO h0.length h3 x y z c F1 F2 := by
  have hz3 : Out h0.length h3 z c.ov := (hz.keeps (k3.p fun _ => True) (fun _ _ => trivial) l3).mono l1
  refine ⟨hx, hy.keep (k2.trans k3), hz3, ⟨List.nodup_append.2 ⟨fx.nodup, fy.nodup, fun a ha b hb e => ?_⟩, fun i hi => ?_, fun i hi => ?_⟩, fun i hi hm => ?_⟩
  · subst e; have := fx.ge a ha; have := (fy.own a hb).lt; omega
  · rcases List.mem_append.1 hi with h | h
    · have := fx.ge i h; omega
    · exact fy.ge i h
  · rcases List.mem_append.1 hi with h | h
    · exact fx.own i h
    · exact (fy.own i h).keep (k2.trans k3)
  · rcases List.mem_append.1 hm with h | h
    · have := fx.ge i h; have := (hz.ge hi).2; omega
    · have := (fy.own i h).lt; have := (hz.ge hi).1; omega

theorem clonedK_ok {h : Heap} {v : V} {c : Lk} {F : List Nat} (hc : LkV h v c F) (hs : smK c) :
    ∃ r h', call p 372 [v] h = some (r, h') ∧ ∃ x y z F1 F2, r = .agg [x, y, z] ∧ LkO h.length h' x y z c F1 F2 ∧ Keeps h h' ∧ h.length ≤ h'.length := by
  obtain ⟨x, y, z, F1, F2, F3, rfl, _, hx, hy, hz⟩ := hc
  obtain ⟨s1, s2, s3, s4⟩ := hs
  obtain ⟨y1, h1, e1, o1, k1, l1⟩ := cloneO hy.sl s3
  obtain ⟨z1, h2, e2, o2, k2, l2⟩ := cloneO (hz.keep k1).sl s4
  obtain ⟨G2, q2, f2⟩ := o1.fr
  have k12 := k1.trans k2
  refine go (fn := g372) rfl rfl fun R hR => ?_
  simp [g372, hx.cells, hx.cell, hy.cells, hy.cell, hz.cells, hz.cell, upd, e1, e2, fillL, o1.sl.cells, o1.sl.cell, o2.sl.cells, o2.sl.cell, hx.len]
  refine Wc_upM (M := [5, 16, 17, 18, 19, 20, 21, 22, 23, 24, 25, 26, 27]) rfl c.rd.length (fun i s => i ≤ c.rd.length ∧ s.σ 16 = .v (vi i) ∧ (∃ r G, s.L 3 = (1, [r, y1, z1]) ∧ OdF h2.length s.h r (c.rd.take i) G) ∧ s.L 2 = (1, [.nils, .nils, .nils]) ∧ Keeps h2 s.h ∧ h2.length ≤ s.h.length) 0
    ⟨by omega, by simp, ⟨.nils, [], by simp [upd], OdF.nil (Nat.le_refl _)⟩, by simp [upd], Keeps.refl _, Nat.le_refl _⟩ fun i s ⟨gi, g16, ⟨r, G, gL, ho⟩, gL2, hk, hl⟩ hM J hJ => ?_
  obtain ⟨Fr, sr, fr⟩ := ho.fresh
  by_cases hi : i < c.rd.length
  · obtain ⟨zr, Fz, lr, hzr, _⟩ := (hx.keep (k12.trans hk)).loadL i hi
    have ir := hx.idx 1 .i64 i hi
    simp only [Nat.mul_one] at ir
    have st := hx.step hi
    obtain ⟨w, h3, e3, G3, w3, f3, k3, l3⟩ := cloneI_ok hzr.sl (s2 _ (List.getElem_mem hi))
    obtain ⟨v', h4, e4, o4, kk4, l4⟩ := ho.one k3 l3 f3 (x := c.rd[i]) (cs := [w]) ⟨w, rfl, w3⟩ (by rw [List.length_take]; omega) (k := 1) (bytes := 24) rfl (by decide)
    rw [← List.take_succ_eq_append_getElem hi] at o4
    obtain ⟨F4, s4', _⟩ := o4.fresh
    simp [g372_0, hM, g16, gL, hi, ir, lr, e3, fillL, w3.cells, w3.cell, rdS_last, e4, s4'.cells, s4'.cell, upd, st]
    exact hJ _ hi ⟨hi, by simp, ⟨v', _, by simp [upd, gL], o4⟩, by simp [upd, gL2], kk4 h2 hk (Nat.le_refl _), by show h2.length ≤ h4.length; omega⟩
  · have : i = c.rd.length := by omega
    subst this
    rw [List.take_length] at sr
    simp [g372_0, hM, g16, gL, gL2, upd, sr.cells, sr.cell, o1.sl.cells, o1.sl.cell, o2.sl.cells, o2.sl.cell, resV, mkV]
    exact hR _ _ ⟨r, y1, z1, Fr, G2, rfl, mkOwn q2 f2 l1 k2 l2 o2 hk hl sr fr, k12.trans hk, by omega⟩

theorem ask_ok {h : Heap} {x y z : V} {c : Lk} {F1 F2 : List Nat} {bb lo : Nat} (hb : h[bb]? = some ⟨.own, [x, y, z]⟩) (o : LkO lo h x y z c F1 F2) (hs : shapeK c) (hbF : bb ∉ F1 ++ F2) (hbz : ¬ vB z bb) (hlo : lo ≤ bb) (a : Ak) :
    ∃ r h', call p 373 [.ptr bb 0, av a] h = some (r, h') ∧ r = .bool (lkCan c a) ∧ (lkCan c a = true → ∃ z' F1', h'[bb]? = some ⟨.own, [x, y, z']⟩ ∧ LkO lo h' x y z' (lkStep c a) F1' F2) ∧ KeepsP (fun i => i < lo) h h' ∧ h.length ≤ h'.length := by
  obtain ⟨F, hv, _, _⟩ := o.v
  have hx := o.1
  have hy := o.2.1
  have hz := o.2.2.1
  have r3 := rdH_at (off := 0) (n := 3) hb (by simp)
  have e1 := isAsk_eq hv a
  obtain ⟨who, item, w, e⟩ := a
  refine go (fn := g373) rfl rfl fun R hR => ?_
  cases ha : askK c ⟨who, item, w, e⟩ with
  | false =>
    rw [ha] at e1
    have hk : lkCan c ⟨who, item, w, e⟩ = false := by simp [lkCan, ha]
    rw [hk] at hR
    simp [g373, upd, r3, e1]
    exact hR _ _ ⟨rfl, by simp, KeepsP.refl _ _, Nat.le_refl _⟩
  | true =>
    rw [ha] at e1
    have ha' := ha
    simp only [askK, Bool.and_eq_true, decide_eq_true_eq, Bool.not_eq_true'] at ha'
    obtain ⟨⟨⟨hw, hov⟩, hit⟩, hend⟩ := ha'
    cases e with
    | true =>
      have hk : lkCan c ⟨who, item, w, true⟩ = true := by simp [lkCan, ha]
      rw [hk] at hR
      obtain ⟨_, h1, e2, z', F1', rfl, q1, q2, _, _, q5, q6⟩ := end_ok hb o hs hbF hbz hlo who
      simp [g373, upd, r3, e1, e2]
      exact hR _ _ ⟨rfl, fun _ => ⟨z', F1', q1, by simpa [lkStep] using q2⟩, q5, q6⟩
    | false =>
      obtain ⟨s1, s2, s3, s4⟩ := hs
      obtain ⟨r, h1, e2, o1, k1, l1⟩ := keepers_ok hv s1 s2 (a := ⟨who, item, w, false⟩) hit
      have ol := o1.sl.len
      have hKk : lkCan c ⟨who, item, w, false⟩ = decide (keepL c ⟨who, item, w, false⟩ 4 = []) := by simp [lkCan, ha]
      rw [hKk] at hR
      by_cases hnil : keepL c ⟨who, item, w, false⟩ 4 = []
      · rw [decide_eq_true hnil] at hR
        rw [hnil] at ol
        have hb1 := k1 _ _ hb (by simp)
        have o1' := o.keep k1 l1
        have t0 := rdH_at (off := 0) (n := 1) hb1 (by simp)
        have t1 := rdH_at (off := 1) (n := 1) hb1 (by simp)
        obtain ⟨m, rfl⟩ : ∃ m : Nat, item = m := ⟨item.toNat, by omega⟩
        have m1 : m < c.rd.length := by omega
        have m2 : m < c.wr.length := by omega
        have iw := hy.idx 1 .i64 m m2
        have ir := hx.idx 1 .i64 m m1
        simp only [Nat.mul_one] at iw ir
        have hm : (0 : Int) ≤ (m : Int) ∧ (m : Int) < 4 := by omega
        cases w with
        | true =>
          obtain ⟨h2, e3, o2, k2, l2, _⟩ := o1'.setW m2 who
          simp [g373, upd, r3, e1, e2, ol, t1, iw, e3]
          exact hR _ _ ⟨rfl, fun _ => ⟨z, F1, k2 _ _ hbF hb1 (by simp), by simpa [lkStep] using o2⟩, (k1.p _).trans (k2.mono fun j hj hm => by have := o1'.2.2.2.1.ge j hm; omega), by omega⟩
        | false =>
          obtain ⟨zr, Fz, lr, hzr, _⟩ := o1'.1.loadL m m1
          have hrl := ris4_len (shape_row ⟨s1, s2, s3, s4⟩ m1)
          have hrf := risB_facts (shape_row ⟨s1, s2, s3, s4⟩ m1)
          have kl : Keeps h1 (h1 ++ [⟨.own, [vi who]⟩]) := Keeps.append _ _
          have sl1 := Sl.lit (h := h1) [who] 1 rfl [vi who] rfl (.k 1) (by simp)
          obtain ⟨G1, sd1, _⟩ := Sl.sdF sl1 (Nat.le_refl 1)
          obtain ⟨w2, h2, e3, zs, G2, t2, f2, rr2, mm2, k2, l2⟩ := together_ok (hzr.keep kl) sd1 (by simp; omega)
          have hzs : zs = putS c.rd[m] who := putS_ext hrf.1 (by omega) rr2 (fun u => by rw [mm2]; simp)
          simp at l2
          have k12 := kl.trans k2
          have o2 := o1'.keep k12 (by omega)
          obtain ⟨h3, G3, e4, o3, _, k3, l3, _⟩ := o2.setR m1 t2 (f2.mono (by have := o1'.2.2.1.2.1; rw [List.length_append]; omega)) (fun b hb => ⟨fun hm => by have := (o1'.2.2.2.1.own b hm).lt; have := f2.ge b hb; simp at this; omega, fun hv => by have := (o1'.2.2.1.ge hv).2; have := f2.ge b hb; simp at this; omega⟩)
          rw [hzs] at o3
          have cr0 := rdH_keep kl t0
          have crr := rdH_keep kl lr
          have cr02 := rdH_keep k12 t0
          simp [g373, upd, r3, e1, e2, ol, t0, ir, lr, fillL, stable, stab1, cr0, crr, e3, cr02, t2.cells, t2.cell, e4]
          have hgd : c.rd.getD m [] = c.rd[m] := getD_in m1 []
          exact hR _ _ ⟨rfl, fun _ => ⟨z, G3, k3 _ _ hbF (k12 _ _ hb1 (by simp)) (by simp), by simpa [lkStep, List.getElem?_eq_getElem m1] using o3⟩, ((k1.trans k12).p _).trans (k3.mono fun j hj hm => by have := o1'.2.2.2.1.ge j hm; omega), by omega⟩
      · rw [decide_eq_false hnil] at hR
        have hpos : 0 < (keepL c ⟨who, item, w, false⟩ 4).length := List.length_pos_iff.2 hnil
        have hposi : (0 : Int) < (keepL c ⟨who, item, w, false⟩ 4).length := by omega
        simp [g373, upd, r3, e1, e2, ol, hpos, hposi]
        exact hR _ _ ⟨rfl, by simp, k1.p _, l1⟩
end GL

namespace GL
open Go

theorem own_tail {h H : Heap} {x z1 y1 : V} {c : Lk} {F1 G2 : List Nat} (hx : SdF h x c.rd F1) (hs : smK c) (kH : Keeps h H) (lH : h.length ≤ H.length) (s0 : S) (K : Ex → S → Prop) (hH : s0.h = H) (gL : s0.L 3 = (1, [.nils, y1, z1])) (gL2 : s0.L 2 = (1, [.nils, .nils, .nils])) (g3 : s0.σ 3 = .lp 3 1 0) (g2 : s0.σ 2 = .lp 2 1 0) (g16 : s0.σ 16 = .v x) (g17 : s0.σ 17 = .v (vi c.rd.length)) (g18 : s0.σ 18 = .v (vi 0))
    (hK : ∀ s r F, SdF s.h r c.rd F → Fresh H.length s.h F → Keeps H s.h → H.length ≤ s.h.length → s.L 3 = (1, [r, y1, z1]) → s.L 2 = (1, [.nils, .nils, .nils]) → s.σ 3 = .lp 3 1 0 → s.σ 2 = .lp 2 1 0 → K (.exit 0) s) : Wc p (.loop g369_0) s0 K := by
  obtain ⟨s1, s2, _, _⟩ := hs
  refine Wc_upM (M := [5, 18, 19, 20, 21, 22, 23, 24, 25, 26, 27, 28, 29, 30]) rfl c.rd.length (fun i s => i ≤ c.rd.length ∧ s.σ 18 = .v (vi i) ∧ (∃ r G, s.L 3 = (1, [r, y1, z1]) ∧ OdF H.length s.h r (c.rd.take i) G) ∧ s.L 2 = (1, [.nils, .nils, .nils]) ∧ Keeps H s.h ∧ H.length ≤ s.h.length) 0
    ⟨by omega, by simpa using g18, ⟨.nils, [], gL, by rw [hH]; exact OdF.nil (Nat.le_refl _)⟩, gL2, by rw [hH]; exact Keeps.refl _, by rw [hH]; exact Nat.le_refl _⟩ fun i s ⟨gi, g18, ⟨r, G, gL, ho⟩, gL2, hk, hl⟩ hM J hJ => ?_
  obtain ⟨Fr, sr, fr⟩ := ho.fresh
  by_cases hi : i < c.rd.length
  · obtain ⟨zr, Fz, lr, hzr, _⟩ := (hx.keep (kH.trans hk)).loadL i hi
    have ir := hx.idx 1 .i64 i hi
    simp only [Nat.mul_one] at ir
    have st := hx.step hi
    obtain ⟨e3, w, h3, e4, G3, w3, f3, k3, l3⟩ := appNew hzr.sl (s2 _ (List.getElem_mem hi)) (k := 1) (bytes := 8) rfl (by decide)
    obtain ⟨v', h4, e5, o4, kk4, l4⟩ := ho.one k3 l3 f3 (x := c.rd[i]) (cs := [w]) ⟨w, rfl, w3⟩ (by rw [List.length_take]; omega) (k := 1) (bytes := 24) rfl (by decide)
    rw [← List.take_succ_eq_append_getElem hi] at o4
    obtain ⟨F4, s4', _⟩ := o4.fresh
    simp [g369_0, hM, g16, g17, g18, gL, g3, hi, ir, lr, hzr.len, e3, e4, fillL, w3.cells, w3.cell, rdS_last, e5, s4'.cells, s4'.cell, upd, st]
    exact hJ _ hi ⟨hi, by simp, ⟨v', _, by simp [upd, gL], o4⟩, by simp [upd, gL2], kk4 H hk (Nat.le_refl _), by show H.length ≤ h4.length; omega⟩
  · have : i = c.rd.length := by omega
    subst this
    rw [List.take_length] at sr
    simp [g369_0, hM, g17, g18]
    exact hK _ r Fr sr fr hk hl gL gL2 (by simp [hM, g3]) (by simp [hM, g2])

theorem l8Own_ok {h : Heap} {v : V} {c : Lk} {F : List Nat} (hc : LkV h v c F) (hs : smK c) (n1 : 0 < c.wr.length) :
    ∃ r h', call p 369 [v] h = some (r, h') ∧ ∃ x y z F1 F2, r = .agg [x, y, z] ∧ LkO h.length h' x y z c F1 F2 ∧ Keeps h h' ∧ h.length ≤ h'.length := by
  obtain ⟨x, y, z, F1, F2, F3, rfl, _, hx, hy, hz⟩ := hc
  have hs' := hs
  obtain ⟨s1, s2, s3, s4⟩ := hs
  have k1 : Keeps h (h ++ [⟨.own, []⟩, deadBlk]) := Keeps.append h _
  have k2 : Keeps h (h ++ [⟨.own, []⟩, ⟨.own, []⟩, ⟨.own, flats c.wr⟩]) := Keeps.append h _
  have e1 := (hy.keep k1).sl.rdS _ (Nat.le_refl _)
  have e2 := (hz.keep k2).sl.rdS _ (Nat.le_refl _)
  rw [List.take_length] at e1 e2
  have e1' : rdS (h ++ [⟨.own, []⟩, deadBlk]) 1 y c.wr.length = some (flats c.wr) := e1
  have e2' : rdS (h ++ [⟨.own, []⟩, ⟨.own, []⟩, ⟨.own, flats c.wr⟩]) 1 z c.ov.length = some (flats c.ov) := e2
  refine go (fn := g369) rfl rfl fun R hR => ?_
  have iD : isDead [⟨.own, []⟩, deadBlk, ⟨.own, flats c.wr⟩] 1 = true := rfl
  have iD0 : isDead [deadBlk, deadBlk] 0 = true := rfl
  have a0 := isDeadA h [deadBlk, deadBlk] 0
  have s0 := setA h [deadBlk, deadBlk] 0 ⟨.own, []⟩
  have a1 := isDeadA h [⟨.own, []⟩, deadBlk, ⟨.own, flats c.wr⟩] 1
  have s1' := setA h [⟨.own, []⟩, deadBlk, ⟨.own, flats c.wr⟩] 1 ⟨.own, []⟩
  simp only [Nat.add_zero, List.set_cons_zero, List.set_cons_succ] at a0 s0 a1 s1'
  have ad : allDead (h ++ [⟨.own, []⟩, deadBlk]) h.length (upd (fun _ => false) 0 true) [1] = true := by simp only [allDead, List.all_cons, List.all_nil, isDeadA]; rfl
  have ad2 : allDead (h ++ [⟨.own, []⟩, deadBlk, ⟨.own, flats c.wr⟩]) h.length (upd (fun _ => false) 0 true) [1] = true := by simp only [allDead, List.all_cons, List.all_nil, isDeadA]; rfl
  by_cases h0 : c.ov = []
  · have hk3 : Keeps h (h ++ [⟨.own, []⟩, ⟨.own, []⟩, ⟨.own, flats c.wr⟩]) := Keeps.append h _
    have f1 : SdF (h ++ [⟨.own, []⟩, ⟨.own, []⟩, ⟨.own, flats c.wr⟩]) (.slice (h.length + 2) 0 c.wr.length (.o 1)) c.wr [h.length + 2] := sdF_new (by simp) (by omega) rfl
    have fr1 : Fresh h.length (h ++ [⟨.own, []⟩, ⟨.own, []⟩, ⟨.own, flats c.wr⟩]) [h.length + 2] := ⟨by simp, by simp, fun b hb => by simp at hb; subst hb; exact ⟨flats c.wr, by simp⟩⟩
    have oz : Out h.length (h ++ [⟨.own, []⟩, ⟨.own, []⟩, ⟨.own, flats c.wr⟩]) (.slice (h.length + 1) 0 0 (.k 0)) c.ov := by rw [h0]; exact Out.empty (by omega) (by simp)
    have zl : lenV z = some 0 := by have := hz.len; rw [h0] at this; exact this
    rw [h0] at e2'
    have ap : ∀ b H, appH 1 8 (.slice b 0 0 (.k 0)) 0 (flats ([] : List Int)) H = some (.slice b 0 0 (.k 0), H) := fun _ _ => rfl
    have e2'' : rdS (h ++ [⟨.own, []⟩, ⟨.own, []⟩, ⟨.own, flats c.wr⟩]) 1 z 0 = some (flats ([] : List Int)) := e2'
    simp [ad, ad2, g369, fillL, upd, begin_two, xop_m, a0, s0, a1, s1', iD, iD0, hx.cells, hx.cell, hy.cells, hy.cell, hz.cells, hz.cell, hy.len, zl, hx.len, e1', e2'', appH_first n1 s3, ap]
    refine own_tail (y1 := .slice (h.length + 2) 0 c.wr.length (.o 1)) (z1 := .slice (h.length + 1) 0 0 (.k 0)) (G2 := [h.length + 2]) (H := h ++ [⟨.own, []⟩, ⟨.own, []⟩, ⟨.own, flats c.wr⟩]) hx hs' hk3 (by simp) _ _ rfl (by simp [upd]) (by simp [upd]) (by simp) (by simp) (by simp) (by simp) (by simp) fun s r Fr q1 q2 q3 q4 q5 q6 q7 q8 => ?_
    simp [q5, q6, q7, q8, q1.cells, q1.cell, upd, resV, mkV]
    refine hR _ _ ⟨r, _, _, Fr, [h.length + 2], rfl, ?_, hk3.trans q3, by simp at q4; omega⟩
    have oz3 : Out h.length s.h (.slice (h.length + 1) 0 0 (.k 0)) c.ov := oz.keeps (q3.p fun _ => True) (fun _ _ => trivial) q4
    refine ⟨q1, f1.keep q3, oz3, ⟨List.nodup_append.2 ⟨q2.nodup, by simp, fun a ha b hb e => ?_⟩, fun i hi => ?_, fun i hi => ?_⟩, fun i hi hm => ?_⟩
    · simp at hb; subst hb; subst e; have := q2.ge _ ha; simp at this
    · rcases List.mem_append.1 hi with h | h
      · have := q2.ge i h; simp at this; omega
      · simp at h; omega
    · rcases List.mem_append.1 hi with h | h
      · exact q2.own i h
      · exact (fr1.own i h).keep q3
    · obtain ⟨_, _, _, e⟩ := hi
      cases e
      rcases List.mem_append.1 hm with h | h
      · have := q2.ge _ h; simp at this
      · simp at h
  · have n2 : 0 < c.ov.length := List.length_pos_iff.2 h0
    have hk3 : Keeps h (h ++ [⟨.own, []⟩, ⟨.own, []⟩, ⟨.own, flats c.wr⟩, ⟨.own, flats c.ov⟩]) := Keeps.append h _
    have f1 : SdF (h ++ [⟨.own, []⟩, ⟨.own, []⟩, ⟨.own, flats c.wr⟩, ⟨.own, flats c.ov⟩]) (.slice (h.length + 2) 0 c.wr.length (.o 1)) c.wr [h.length + 2] := sdF_new (by simp) (by omega) rfl
    have fr1 : Fresh h.length (h ++ [⟨.own, []⟩, ⟨.own, []⟩, ⟨.own, flats c.wr⟩, ⟨.own, flats c.ov⟩]) [h.length + 2] := ⟨by simp, by simp, fun b hb => by simp at hb; subst hb; exact ⟨flats c.wr, by simp⟩⟩
    have oz : Out h.length (h ++ [⟨.own, []⟩, ⟨.own, []⟩, ⟨.own, flats c.wr⟩, ⟨.own, flats c.ov⟩]) (.slice (h.length + 3) 0 c.ov.length (.o 1)) c.ov := ⟨by omega, by simp, .inr (.inl ⟨h.length + 3, rfl, by simp, by omega⟩)⟩
    simp [ad, ad2, g369, fillL, upd, begin_two, xop_m, a0, s0, a1, s1', iD, iD0, hx.cells, hx.cell, hy.cells, hy.cell, hz.cells, hz.cell, hy.len, hz.len, hx.len, e1', e2', appH_first n1 s3, appH_first n2 s4]
    refine own_tail (y1 := .slice (h.length + 2) 0 c.wr.length (.o 1)) (z1 := .slice (h.length + 3) 0 c.ov.length (.o 1)) (G2 := [h.length + 2]) (H := h ++ [⟨.own, []⟩, ⟨.own, []⟩, ⟨.own, flats c.wr⟩, ⟨.own, flats c.ov⟩]) hx hs' hk3 (by simp) _ _ rfl (by simp [upd]) (by simp [upd]) (by simp) (by simp) (by simp) (by simp) (by simp) fun s r Fr q1 q2 q3 q4 q5 q6 q7 q8 => ?_
    simp [q5, q6, q7, q8, q1.cells, q1.cell, upd, resV, mkV]
    refine hR _ _ ⟨r, _, _, Fr, [h.length + 2], rfl, ?_, hk3.trans q3, by simp at q4; omega⟩
    have oz3 : Out h.length s.h (.slice (h.length + 3) 0 c.ov.length (.o 1)) c.ov := oz.keeps (q3.p fun _ => True) (fun _ _ => trivial) q4
    refine ⟨q1, f1.keep q3, oz3, ⟨List.nodup_append.2 ⟨q2.nodup, by simp, fun a ha b hb e => ?_⟩, fun i hi => ?_, fun i hi => ?_⟩, fun i hi hm => ?_⟩
    · simp at hb; subst hb; subst e; have := q2.ge _ ha; simp at this
    · rcases List.mem_append.1 hi with h | h
      · have := q2.ge i h; simp at this; omega
      · simp at h; omega
    · rcases List.mem_append.1 hi with h | h
      · exact q2.own i h
      · exact (fr1.own i h).keep q3
    · obtain ⟨_, _, _, e⟩ := hi
      cases e
      rcases List.mem_append.1 hm with h | h
      · have := q2.ge _ h; simp at this
      · simp at h
end GL

namespace GL
open Go

theorem l1Put2_ok {h : Heap} {v : V} {xs : List Int} {F : List Nat} (hs : SdF h v xs F) (hr : xs.Pairwise (· < ·)) (hl : xs.length ≤ 2 ^ 20) (n : Int) :
    ∃ r h', call p 410 [v, vi n] h = some (r, h') ∧ ∃ ys, ys.Pairwise (· < ·) ∧ (∀ x, x ∈ ys ↔ x ∈ xs ∨ x = n) ∧ ((r = v ∧ h' = h ∧ ys = xs) ∨ ∃ G, SdF h' r ys G ∧ Fresh h.length h' G) ∧ Keeps h h' ∧ h.length ≤ h'.length := by
  refine go (fn := g410) rfl rfl fun R hR => ?_
  have hsl := hs.sl
  simp only [g410]
  simp
  refine Wc_upM (M := [5, 7, 8, 9, 10, 11, 12, 13, 14, 15, 16, 17, 18, 19, 20]) rfl xs.length (fun i s => i ≤ xs.length ∧ s.σ 5 = .v (vi i) ∧ s.h = h ∧ ∀ y ∈ xs.take i, y < n) 0 (by simp) fun i s ⟨gi, g5, gh, hall⟩ hM J hJ => ?_
  by_cases hc : ∃ hn : i < xs.length, xs[i] < n
  · obtain ⟨hn, hlt⟩ := hc
    simp [g410_0, hM, g5, gh, hsl.len, hn, hsl.idx, hsl.loadI, hlt, hsl.step hn]
    exact hJ _ hn ⟨hn, by simp, rfl, (all_take_succ hn).2 ⟨hall, hlt⟩⟩
  · -- all behind are greater, or equal
    have hge : ∀ y ∈ xs.drop i, n ≤ y := fun y hy => by
      obtain ⟨q, hq, rfl⟩ := List.getElem_of_mem hy
      rw [List.length_drop] at hq
      rw [List.getElem_drop]
      have hi : i < xs.length := by omega
      have a : ¬ xs[i] < n := fun h => hc ⟨hi, h⟩
      by_cases e : q = 0
      · subst e; simp only [Nat.add_zero]; omega
      · have := (List.pairwise_iff_getElem.1 hr) i (i + q) hi (by omega) (by omega); omega
    have new : (∀ hi : i < xs.length, xs[i] ≠ n) → (xs.take i ++ [n] ++ xs.drop i).Pairwise (· < ·) := fun hne => by
      rw [List.append_assoc, List.pairwise_append]
      refine ⟨hr.sublist (List.take_sublist ..), ?_, fun a ha b hb => ?_⟩
      · rw [List.singleton_append, List.pairwise_cons]
        refine ⟨fun y hy => ?_, hr.sublist (List.drop_sublist ..)⟩
        have h1 := hge y hy
        obtain ⟨q, hq, rfl⟩ := List.getElem_of_mem hy
        rw [List.length_drop] at hq
        rw [List.getElem_drop] at h1 ⊢
        by_cases e : q = 0
        · subst e
          have := hne (by omega)
          simp only [Nat.add_zero] at h1 ⊢; omega
        · have hi : i < xs.length := by omega
          have := (List.pairwise_iff_getElem.1 hr) i (i + q) hi (by omega) (by omega)
          have a : ¬ xs[i] < n := fun h => hc ⟨hi, h⟩
          omega
      · have h1 := hall a ha
        rcases List.mem_append.1 hb with hb | hb
        · simp at hb; omega
        · have := hge b hb; omega
    have mem : ∀ x, x ∈ xs.take i ++ [n] ++ xs.drop i ↔ x ∈ xs ∨ x = n := fun x => by
      conv => rhs; rw [← List.take_append_drop i xs]
      simp only [List.mem_append, List.mem_singleton]
      constructor
      · rintro ((h | h) | h)
        · exact .inl (.inl h)
        · exact .inr h
        · exact .inl (.inr h)
      · rintro ((h | h) | h)
        · exact .inl (.inl h)
        · exact .inr h
        · exact .inl (.inr h)
    -- the three parts
    obtain ⟨v1, F1, s1, t1, m1, b1⟩ := hs.sub (lo := none) (hi := some i) (i := 0) (j := i) rfl rfl (Nat.zero_le _) gi (k := 1) rfl
    obtain ⟨v2, F2, s2, t2, m2, b2⟩ := hs.sub (lo := some i) (hi := none) (i := i) (j := xs.length) rfl rfl gi (Nat.le_refl _) (k := 1) rfl
    rw [List.drop_zero] at t1
    rw [List.take_length] at t2
    have ka : Keeps h (h ++ [⟨.own, []⟩]) := Keeps.append _ _
    have o0 : Out h.length (h ++ [⟨.own, []⟩]) (.slice h.length 0 0 (.k 0)) ([] : List Int) := Out.empty (Nat.le_refl _) (by simp)
    have hl1 : (xs.take i).length = i := by simp; omega
    obtain ⟨ys1, w1, h2, e3, e4, o1, k2, l2⟩ := o0.appS (t1.keep ka).sl (bytes := 8) (by decide) (by simp; omega) (k := 1) rfl (n := i) hl1.symm
    have k02 : Keeps h h2 := Keeps.far (n := h.length) ka k2 (Nat.le_refl _) fun i hi hv => by have := (o0.ge hv).1; omega
    simp only [List.nil_append] at o1
    obtain ⟨w2, h3, e5, o2, k3, l3⟩ := o1.one n (by simp; omega)
    have k03 := o1.far k02 k3 (Nat.le_refl _)
    have hl2 : (xs.drop i).length = xs.length - i := by simp
    obtain ⟨ys2, w3, h4, e6, e7, o3, k4, l4⟩ := o2.appS (t2.keep k03).sl (bytes := 8) (by decide) (by simp; omega) (k := 1) rfl (n := xs.length - i) hl2.symm
    have k04 := o2.far k03 k4 (Nat.le_refl _)
    obtain ⟨G, q1, q2⟩ := o3.fr
    have len1 := t1.len
    have len2 := t2.len
    rw [hl1] at len1
    rw [hl2] at len2
    by_cases hn : i < xs.length
    · have hlt : ¬ xs[i] < n := fun h => hc ⟨hn, h⟩
      by_cases he : xs[i] = n
      · simp [g410_0, hM, g5, gh, hsl.len, hn, hsl.idx, hsl.loadI, he]
        refine hR _ _ ⟨xs, hr, fun x => ⟨.inl, ?_⟩, .inl ⟨rfl, rfl, rfl⟩, Keeps.refl _, Nat.le_refl _⟩
        rintro (h | h)
        · exact h
        · rw [h, ← he]; exact List.getElem_mem _
      · simp [g410_0, hM, g5, gh, hsl.len, hn, hsl.idx, hsl.loadI, hlt, he, fillL, bounds, takeB, s1, s2, len1, len2, e3, e4, rdS_last, e5, e6, e7]
        exact hR _ _ ⟨_, new fun _ => he, mem, .inr ⟨G, q1, q2⟩, k04, by simp at l2; omega⟩
    · simp [g410_0, hM, g5, gh, hsl.len, hn, fillL, bounds, takeB, s1, s2, len1, len2, e3, e4, rdS_last, e5, e6, e7]
      exact hR _ _ ⟨_, new fun h => absurd h hn, mem, .inr ⟨G, q1, q2⟩, k04, by simp at l2; omega⟩

/-- what is written stands there already -/
theorem wr_same {h : Heap} {b o : Nat} {w : V} (ho : OwnB h b) (hr : rdH h b o 1 = some [w]) : wrH h b o [w] = some h := by
  obtain ⟨cs, hb⟩ := ho
  rw [rdH_at hb (by simp)] at hr
  simp only [cut] at hr
  by_cases hl : o + 1 ≤ cs.length
  · rw [if_pos hl, List.drop_eq_getElem_cons (by omega)] at hr
    have hw : cs[o] = w := (List.cons.inj (Option.some.inj hr)).1
    rw [wrH_at hb rfl]
    have hlay : lay cs o [w] = some cs := by
      simp only [lay, List.length_singleton]
      rw [if_pos hl]
      congr 1
      rw [← hw, List.append_assoc, List.singleton_append, ← List.drop_eq_getElem_cons (by omega), List.take_append_drop]
    rw [hlay]
    show some (h.set b ⟨.own, cs⟩) = some h
    congr 1
    apply List.ext_getElem?
    intro i
    rw [List.getElem?_set]
    by_cases hib : b = i
    · subst hib; rw [if_pos rfl, if_pos (get_lt hb), hb]
    · rw [if_neg hib]
  · rw [if_neg hl] at hr; cases hr
theorem l8Drop_ok {h : Heap} {v : V} {xs : List Int} (hs : Sl h v xs) (hl : xs.length ≤ 2 ^ 20) (n : Int) : ∃ r h', call p 409 [v, vi n] h = some (r, h') ∧ Out h.length h' r (dropS n xs) ∧ Keeps h h' ∧ h.length ≤ h'.length := by
  refine go (fn := g409) rfl rfl fun R hR => ?_
  simp [g409, hs.len]
  refine Wc_upM (M := [5, 7, 10, 11, 12, 13, 14, 15, 16, 17, 18, 19, 20, 21]) rfl xs.length (fun i s => i ≤ xs.length ∧ s.σ 10 = .v (vi i) ∧ (∃ v, s.σ 5 = .v v ∧ Out h.length s.h v (dropS n (xs.take i))) ∧ Keeps h s.h ∧ h.length ≤ s.h.length) 0
    ⟨by omega, by simp, ⟨.nils, by simp, Out.nil (Nat.le_refl _)⟩, Keeps.refl _, Nat.le_refl _⟩ fun i s ⟨gi, g10, ⟨v5, g5, ho⟩, hk, hln⟩ hM J hJ => ?_
  by_cases hi : i < xs.length
  · have ix := hs.idx 1 .i64 i hi
    simp only [Nat.mul_one] at ix
    have ld := (hs.keeps hk).loadI i hi
    have st := hs.step hi
    have htk : dropS n (xs.take (i + 1)) = dropS n (xs.take i) ++ (if xs[i] = n then [] else [xs[i]]) := by
      rw [List.take_succ_eq_append_getElem hi, dropS, List.filter_append]
      by_cases h : xs[i] = n <;> simp [h, dropS]
    have hln2 : (dropS n (xs.take i)).length ≤ 2 ^ 20 := Nat.le_trans (List.length_filter_le ..) (by rw [List.length_take]; omega)
    obtain ⟨v', h3, e3, o3, k3, l3⟩ := ho.one xs[i] hln2
    generalize xs[i] = x at *
    by_cases hx : x = n
    · rw [if_pos hx, List.append_nil] at htk
      simp [g409_0, hM, g10, g5, hi, ix, ld, hx, st]
      exact hJ _ hi ⟨hi, by simp, ⟨v5, by simp [g5], by rw [htk]; exact ho⟩, hk, hln⟩
    · rw [if_neg hx] at htk
      simp [g409_0, hM, g10, g5, hi, ix, ld, hx, fillL, rdS_last, e3, st]
      exact hJ _ hi ⟨hi, by simp, ⟨v', by simp, by rw [htk]; exact o3⟩, ho.far hk k3 (Nat.le_refl _), by show h.length ≤ h3.length; omega⟩
  · have : i = xs.length := by omega
    subst this
    rw [List.take_length] at ho
    simp [g409_0, hM, g10, g5]
    exact hR _ _ ⟨ho, hk, hln⟩

theorem l8Step_ok {h : Heap} {x y z : V} {c : Lk} {F1 F2 : List Nat} {lo : Nat} (o : LkO lo h x y z c F1 F2) (hs : shapeK c) (a : Ak) :
    ∃ r h', call p 370 [.agg [x, y, z], av a] h = some (r, h') ∧ ∃ z' F1', r = .tup [.agg [x, y, z'], .bool (lkCan c a)] ∧ z'.cells = [z'] ∧ z'.cell = true ∧ (lkCan c a = true → LkO lo h' x y z' (lkStep c a) F1' F2) ∧ KeepsP (fun i => i < lo) h h' ∧ h.length ≤ h'.length := by
  obtain ⟨F, hv, _, _⟩ := o.v
  have hx := o.1
  have hy := o.2.1
  have hz := o.2.2.1
  have e1 := l8Ask_eq hv a
  have zc := hz.sl.cells
  have zl := hz.sl.cell
  obtain ⟨who, item, w, e⟩ := a
  refine go (fn := g370) rfl rfl fun R hR => ?_
  cases ha : askK c ⟨who, item, w, e⟩ with
  | false =>
    rw [ha] at e1
    have hk : lkCan c ⟨who, item, w, e⟩ = false := by simp [lkCan, ha]
    rw [hk] at hR
    simp [g370, upd, hx.cells, hx.cell, hy.cells, hy.cell, zc, zl, e1, resV, mkV]
    exact hR _ _ ⟨z, F1, rfl, zc, zl, by simp, KeepsP.refl _ _, Nat.le_refl _⟩
  | true =>
    rw [ha] at e1
    have ha' := ha
    simp only [askK, Bool.and_eq_true, decide_eq_true_eq, Bool.not_eq_true'] at ha'
    obtain ⟨⟨⟨hw, hov⟩, hit⟩, hend⟩ := ha'
    obtain ⟨s1, s2, s3, s4⟩ := hs
    cases e with
    | true =>
      have hk : lkCan c ⟨who, item, w, true⟩ = true := by simp [lkCan, ha]
      rw [hk] at hR
      have c2i : (c.wr.length : Int) = 4 := by omega
      have e0 : endC c who 0 = c := by simp [endC]
      simp [g370, upd, hx.cells, hx.cell, hy.cells, hy.cell, zc, zl, e1, hy.len, c2i]
      refine Wc_upM (M := [6, 33, 34, 35, 36, 37, 38, 39, 40, 41, 42, 43, 44, 45, 46, 47, 48, 49, 50, 51, 52, 53, 54, 55, 56, 57, 58, 59, 60]) rfl 4 (fun i s => i ≤ 4 ∧ s.σ 33 = .v (vi i) ∧ s.L 2 = (1, [x, y, z]) ∧ s.L 3 = (1, [vi who, vi item, .bool w, .bool true]) ∧ s.L 4 = (1, [.nils, .nils, .nils]) ∧ (∃ G1, LkO lo s.h x y z (endC c who i) G1 F2) ∧ KeepsP (fun i => i < lo) h s.h ∧ h.length ≤ s.h.length) 0
        ⟨by omega, by simp, by simp [upd], by simp [upd], by simp [upd], ⟨F1, by rw [e0]; exact o⟩, KeepsP.refl _ _, Nat.le_refl _⟩ fun i s ⟨gi, g33, gL2, gL3, gL4, ⟨G1, go'⟩, hk, hl⟩ hM J hJ => ?_
      by_cases hi : i < 4
      · have hi' : (i : Int) < 4 := by omega
        have i1 : i < c.rd.length := by omega
        have i2 : i < c.wr.length := by omega
        have j1 : i < (endC c who i).rd.length := by simp only [endC]; rw [map_len]; exact i1
        have j2 : i < (endC c who i).wr.length := by simp only [endC]; rw [map_len]; exact i2
        have st : IntKind.i64.wrap ((i : Int) + 1) = (i + 1 : Nat) := by rw [IntWalk.i64_in] <;> omega
        obtain ⟨zr, Fr, lr, hzr, _⟩ := go'.1.loadL i j1
        have hrow : (endC c who i).rd[i] = c.rd[i] := map_at i1 j1
        have hwv : (endC c who i).wr[i] = c.wr[i] := map_at i2 j2
        rw [hrow] at hzr
        have ir := go'.1.idx 1 .i64 i j1
        have iw := go'.2.1.idx 1 .i64 i j2
        simp only [Nat.mul_one] at ir iw
        have hris := s4 _ (List.getElem_mem i1)
        have hrl := ris4_len hris
        obtain ⟨w2, h2, e2, o2, k2, l2⟩ := l8Drop_ok hzr.sl (by omega) who
        obtain ⟨G2, t2, f2⟩ := o2.fr
        have go2 := go'.keep k2 l2
        obtain ⟨h3, G3, e3, o3, q3, k3, l3, w3⟩ := go2.setR j1 t2 (f2.mono (by have := go'.2.2.1.2.1; omega)) (fun b hb => ⟨fun hm => by have := (go'.2.2.2.1.own b hm).lt; have := f2.ge b hb; omega, fun hv => by have := (go'.2.2.1.ge hv).2; have := f2.ge b hb; omega⟩)
        have hk3 : KeepsP (fun i => i < lo) h h3 := (hk.trans (k2.p _)).trans (k3.mono fun j hj hm => by have := go'.2.2.2.1.ge j hm; omega)
        have lw := o3.2.1.sl.loadI i j2
        rw [hwv] at lw
        have hms := map_step (f := dropS who) i1
        have hmw := map_step (f := endW who) i2
        have t2c := t2.cells
        have t2l := t2.cell
        by_cases hw : c.wr[i] = who
        · have ew : endW who c.wr[i] = -1 := by simp [endW, hw]
          obtain ⟨h4, e4, o4, k4, l4, w4⟩ := o3.setW j2 (-1)
          have hc : endC c who (i + 1) = ⟨(endC c who i).rd.set i (dropS who c.rd[i]), (endC c who i).wr.set i (-1), c.ov⟩ := by
            simp only [endC]; rw [hms, hmw, ew]
          rw [hw] at lw
          generalize c.rd[i] = row at *
          simp [g370_0, hM, g33, gL2, gL3, hi, hi', ir, lr, e2, t2c, t2l, e3, iw, lw, e4, st, -Int.natCast_add]
          exact hJ _ hi ⟨hi, by simp, by simp [gL2], by simp [gL3], by simp [gL4], ⟨G3, by rw [hc]; exact o4⟩, hk3.trans (k4.mono fun j hj hm => by have := o3.2.2.2.1.ge j hm; omega), by show h.length ≤ h4.length; omega⟩
        · have ew : endW who c.wr[i] = c.wr[i] := by simp [endW, hw]
          have hc : endC c who (i + 1) = ⟨(endC c who i).rd.set i (dropS who c.rd[i]), (endC c who i).wr, c.ov⟩ := by
            simp only [endC]; rw [hms, hmw, ew]
            congr 1
            have := List.set_getElem_self (as := (c.wr.take i).map (endW who) ++ c.wr.drop i) (i := i) j2
            rw [map_at i2 j2] at this; exact this
          generalize c.rd[i] = row at *
          generalize c.wr[i] = wv at *
          simp [g370_0, hM, g33, gL2, gL3, hi, hi', ir, lr, e2, t2c, t2l, e3, iw, lw, hw, st, -Int.natCast_add]
          exact hJ _ hi ⟨hi, by simp, by simp [gL2], by simp [gL3], by simp [gL4], ⟨G3, by rw [hc]; exact o3⟩, hk3, by show h.length ≤ h3.length; omega⟩
      · have : i = 4 := by omega
        subst this
        have e4 : endC c who 4 = ⟨c.rd.map (dropS who), c.wr.map (endW who), c.ov⟩ := by
          simp only [endC]
          rw [List.take_of_length_le (by omega), List.take_of_length_le (by omega), List.drop_of_length_le (by omega), List.drop_of_length_le (by omega), List.append_nil, List.append_nil]
        rw [e4] at go'
        obtain ⟨z', h3, e3, o3, k3, l3, zc', zl', zb⟩ := go'.push who (show c.ov.length ≤ 2 ^ 20 by omega)
        simp [g370_0, hM, g33, gL2, gL3, gL4, fillL, rdS_last, e3, zc', zl', upd, hx.cells, hx.cell, hy.cells, hy.cell, resV, mkV]
        exact hR _ _ ⟨z', G1, rfl, zc', zl', fun _ => by simpa [lkStep] using o3, hk.trans (k3.mono fun j hj hv => by have := (go'.2.2.1.ge hv).1; omega), by omega⟩
    | false =>
      obtain ⟨r, h1, e2, o1, k1, l1⟩ := l8Waits_ok hv s1 s2 (a := ⟨who, item, w, false⟩) hit
      have ol := o1.sl.len
      have hKk : lkCan c ⟨who, item, w, false⟩ = decide (keepL c ⟨who, item, w, false⟩ 4 = []) := by simp [lkCan, ha]
      rw [hKk] at hR
      by_cases hnil : keepL c ⟨who, item, w, false⟩ 4 = []
      · rw [decide_eq_true hnil] at hR
        rw [hnil] at ol
        have o1' := o.keep k1 l1
        obtain ⟨m, rfl⟩ : ∃ m : Nat, item = m := ⟨item.toNat, by omega⟩
        have m1 : m < c.rd.length := by omega
        have m2 : m < c.wr.length := by omega
        have iw := hy.idx 1 .i64 m m2
        have ir := hx.idx 1 .i64 m m1
        simp only [Nat.mul_one] at iw ir
        cases w with
        | true =>
          obtain ⟨h2, e3, o2, k2, l2, _⟩ := o1'.setW m2 who
          simp [g370, upd, hx.cells, hx.cell, hy.cells, hy.cell, zc, zl, e1, e2, ol, iw, e3, resV, mkV]
          exact hR _ _ ⟨z, F1, rfl, zc, zl, fun _ => by simpa [lkStep] using o2, (k1.p _).trans (k2.mono fun j hj hm => by have := o1'.2.2.2.1.ge j hm; omega), by omega⟩
        | false =>
          obtain ⟨zr, Fz, lr, hzr, _⟩ := o1'.1.loadL m m1
          have hrl := ris4_len (shape_row ⟨s1, s2, s3, s4⟩ m1)
          have hrf := risB_facts (shape_row ⟨s1, s2, s3, s4⟩ m1)
          obtain ⟨w2, h2, e3, zs, rr2, mm2, hcase, k2, l2⟩ := l1Put2_ok hzr hrf.2 (by omega) who
          have hzs : zs = putS c.rd[m] who := putS_ext hrf.1 (by omega) rr2 mm2
          have hgd : c.rd.getD m [] = c.rd[m] := getD_in m1 []
          rcases hcase with ⟨rfl, rfl, rfl⟩ | ⟨G2, t2, f2⟩
          · have hown : OwnB h2 (bOf x) := o1'.2.2.2.1.own _ (by simp [o1'.1.bIn m1])
            have e4 := wr_same hown lr
            have hset : c.rd.set m (putS c.rd[m] who) = c.rd := by rw [← hzs]; exact List.set_getElem_self m1
            simp [g370, upd, hx.cells, hx.cell, hy.cells, hy.cell, zc, zl, e1, e2, ol, ir, lr, e3, hzr.cells, hzr.cell, e4, resV, mkV]
            refine hR _ _ ⟨z, F1, rfl, zc, zl, fun _ => ?_, k1.p _, by omega⟩
            have : lkStep c ⟨who, m, false, false⟩ = c := by
              simp only [lkStep, Int.toNat_natCast, hgd, hset]; rfl
            rw [this]; exact o1'
          · have o2 := o1'.keep k2 l2
            obtain ⟨h3, G3, e4, o3, _, k3, l3, _⟩ := o2.setR m1 t2 (f2.mono (by have := o1'.2.2.1.2.1; omega)) (fun b hb => ⟨fun hm => by have := (o1'.2.2.2.1.own b hm).lt; have := f2.ge b hb; omega, fun hv => by have := (o1'.2.2.1.ge hv).2; have := f2.ge b hb; omega⟩)
            rw [hzs] at o3
            simp [g370, upd, hx.cells, hx.cell, hy.cells, hy.cell, zc, zl, e1, e2, ol, ir, lr, e3, t2.cells, t2.cell, e4, resV, mkV]
            refine hR _ _ ⟨z, G3, rfl, zc, zl, fun _ => ?_, ((k1.trans k2).p _).trans (k3.mono fun j hj hm => by have := o1'.2.2.2.1.ge j hm; omega), by omega⟩
            have : lkStep c ⟨who, m, false, false⟩ = ⟨c.rd.set m (putS c.rd[m] who), c.wr, c.ov⟩ := by
              simp only [lkStep, Int.toNat_natCast, hgd]; rfl
            rw [this]; exact o3
      · rw [decide_eq_false hnil] at hR
        have hpos : 0 < (keepL c ⟨who, item, w, false⟩ 4).length := List.length_pos_iff.2 hnil
        have hposi : (0 : Int) < (keepL c ⟨who, item, w, false⟩ 4).length := by omega
        simp [g370, upd, hx.cells, hx.cell, hy.cells, hy.cell, zc, zl, e1, e2, ol, hpos, hposi, resV, mkV]
        exact hR _ _ ⟨z, F1, rfl, zc, zl, by simp, k1.p _, by omega⟩
end GL

namespace GL
open Go

def zLk : Lk := ⟨[], [], []⟩
def lkOK (c : Lk) (a : Ak) : Bool := goodK c && lkCan c a
def lkR (c : Lk) (a : Ak) : Lk := if lkOK c a = true then lkStep c a else zLk
theorem zK_v (h : Heap) : LkV h (.agg [.nils, .nils, .nils]) zLk [] := ⟨.nils, .nils, .nils, [], [], [], rfl, rfl, .nil, .nil, .nil⟩
theorem good_shape {c : Lk} (h : goodK c = true) : shapeK c ∧ smK c ∧ 0 < c.wr.length ∧ c.ov.length ≤ 4 := by
  obtain ⟨h1, h2, h3, h4, h5, h6⟩ := of_decide_eq_true h
  have ho : c.ov.length ≤ 4 := nodup_len (n := 4) h4 fun x hx => by have := h3 x hx; omega
  have hr : ∀ r ∈ c.rd, risB 0 3 r = true := fun r hr => by
    obtain ⟨i, hi, rfl⟩ := List.getElem_of_mem hr
    have := (h5 i (by omega)).1
    rwa [getD_in hi] at this
  exact ⟨⟨h1, h2, by omega, hr⟩, ⟨by omega, fun r h => by have := ris4_len (hr r h); omega, by omega, by omega⟩, by omega, ho⟩
theorem putS_good (r : List Int) (n : Int) : risB 0 3 (putS r n) = true := by
  simp only [risB, decide_eq_true_eq]
  exact ⟨fun x hx => by have := mem_upTo.1 (List.mem_filter.1 hx).1; omega, putS_ris _ _⟩
theorem dropS_good {r : List Int} (h : risB 0 3 r = true) (n : Int) : risB 0 3 (dropS n r) = true := by
  obtain ⟨h1, h2⟩ := risB_facts h
  simp only [risB, decide_eq_true_eq]
  exact ⟨fun x hx => h1 x (List.mem_filter.1 hx).1, h2.filter _⟩
theorem step_shape {c : Lk} (h : shapeK c) (ho : c.ov.length ≤ 2 ^ 18) (a : Ak) : (lkStep c a).rd.length = 4 ∧ (lkStep c a).wr.length = 4 ∧ (lkStep c a).ov.length ≤ c.ov.length + 1 ∧ ∀ r ∈ (lkStep c a).rd, risB 0 3 r = true := by
  obtain ⟨h1, h2, h3, h4⟩ := h
  simp only [lkStep]
  split
  · refine ⟨by simpa using h1, by simpa using h2, by simp, fun r hr => ?_⟩
    obtain ⟨r0, hr0, rfl⟩ := List.mem_map.1 hr
    exact dropS_good (h4 _ hr0) _
  · split
    · exact ⟨h1, by simpa using h2, by simp, h4⟩
    · refine ⟨by simpa using h1, h2, by simp, fun r hr => ?_⟩
      rcases List.mem_or_eq_of_mem_set hr with h | h
      · exact h4 r h
      · rw [h]; exact putS_good _ _
theorem AskLock_ok {h : Heap} {v : V} {c : Lk} {F : List Nat} (hc : LkV h v c F) (a : Ak) :
    ∃ r h', call p 276 [v, av a] h = some (r, h') ∧ ∃ o G, r = .tup [o, .bool (lkOK c a)] ∧ LkV h' o (lkR c a) G ∧ Fresh h.length h' G ∧ Keeps h h' ∧ h.length ≤ h'.length := by
  have hcc := hc
  obtain ⟨_, h1, e1, rfl, k1, l1⟩ := GoodLocks_ok hc
  obtain ⟨x, y, z, F1, F2, F3, rfl, _, hx, hy, hz⟩ := hc
  obtain ⟨who, item, w, e⟩ := a
  refine go (fn := g276) rfl rfl fun R hR => ?_
  have bad : lkOK c ⟨who, item, w, e⟩ = false → ∀ h', Keeps h h' → h.length ≤ h'.length → R (.tup [.agg [.nils, .nils, .nils], .bool false]) h' := fun hb h' hk hl => hR _ _ ⟨_, [], by rw [hb], by rw [lkR, hb]; exact zK_v h', Fresh.nil, hk, hl⟩
  cases hg : goodK c with
  | false =>
    rw [hg] at e1
    simp [g276, hx.cells, hx.cell, hy.cells, hy.cell, hz.cells, hz.cell, upd, e1, fillL, resV, mkV]
    exact bad (by simp [lkOK, hg]) _ k1 l1
  | true =>
    rw [hg] at e1
    obtain ⟨s1, s2, s3, s4⟩ := good_shape hg
    obtain ⟨_, h2, e2, x2, y2, z2, G1, G2, rfl, o2, k2, l2⟩ := clonedK_ok (hcc.keep k1) s2
    have k12 := k1.trans k2
    have kl : Keeps h2 (h2 ++ [⟨.own, [x2, y2, z2]⟩]) := Keeps.append _ _
    have o3 := o2.keep kl (by simp)
    have c2 := o2.1.cell
    have c3 := o2.2.1.cell
    have c4 := o2.2.2.1.sl.cell
    have hbF : h2.length ∉ G1 ++ G2 := fun hm => by have := (o2.2.2.2.1.own _ hm).lt; omega
    have hbz : ¬ vB z2 h2.length := fun hv => by have := (o2.2.2.1.ge hv).2; omega
    obtain ⟨_, h3, e3, rfl, hok, k3, l3⟩ := ask_ok (h := h2 ++ [⟨.own, [x2, y2, z2]⟩]) (bb := h2.length) (lo := h1.length) (by simp) o3 s1 hbF hbz l2 ⟨who, item, w, e⟩
    have kf : Keeps h h3 := Keeps.far (n := h1.length) (k12.trans kl) k3 l1 fun i hi => by omega
    have hst := wrH_at (h := h2 ++ [⟨.own, [.nils, .nils, .nils]⟩]) (b := h2.length) (off := 0) (blk := ⟨.own, [.nils, .nils, .nils]⟩) (xs := [x2, y2, z2]) (by simp) rfl
    have hlay : lay [V.nils, V.nils, V.nils] 0 [x2, y2, z2] = some [x2, y2, z2] := by simp [lay]
    rw [hlay] at hst
    simp only [Option.bind_some] at hst
    have hset : (h2 ++ [(⟨.own, [.nils, .nils, .nils]⟩ : Blk)]).set h2.length ⟨.own, [x2, y2, z2]⟩ = h2 ++ [⟨.own, [x2, y2, z2]⟩] := by simp
    rw [hset] at hst
    cases hk : lkCan c ⟨who, item, w, e⟩ with
    | false =>
      rw [hk] at e3
      simp [g276, hx.cells, hx.cell, hy.cells, hy.cell, hz.cells, hz.cell, upd, e1, e2, c2, c3, c4, hst, e3, fillL, resV, mkV]
      exact bad (by simp [lkOK, hg, hk]) _ kf (by simp at l3; omega)
    | true =>
      rw [hk] at e3
      obtain ⟨z', G1', hb3, o4⟩ := hok hk
      have ok : lkOK c ⟨who, item, w, e⟩ = true := by simp [lkOK, hg, hk]
      simp only [lkR, ok, if_true] at hR
      obtain ⟨G, hv, fv, _⟩ := o4.v
      have r3 := rdH_at (off := 0) (n := 3) hb3 (by simp)
      have d2 := o4.1.cell
      have d3 := o4.2.1.cell
      have d4 := o4.2.2.1.sl.cell
      simp [g276, hx.cells, hx.cell, hy.cells, hy.cell, hz.cells, hz.cell, upd, e1, e2, c2, c3, c4, hst, e3, r3, d2, d3, d4, fillL, resV, mkV]
      exact hR _ _ ⟨_, G, rfl, hv, fv.mono l1, kf, by simp at l3; omega⟩
theorem AskLockS_ok {h : Heap} {v : V} {c : Lk} {F : List Nat} (hc : LkV h v c F) (a : Ak) :
    ∃ r h', call p 275 [v, av a] h = some (r, h') ∧ ∃ o G, r = .tup [o, .bool (lkOK c a)] ∧ LkV h' o (lkR c a) G ∧ Fresh h.length h' G ∧ Keeps h h' ∧ h.length ≤ h'.length := by
  have hcc := hc
  obtain ⟨_, h1, e1, rfl, k1, l1⟩ := GoodLocksS_ok hc
  obtain ⟨x, y, z, F1, F2, F3, rfl, _, hx, hy, hz⟩ := hc
  obtain ⟨who, item, w, e⟩ := a
  refine go (fn := g275) rfl rfl fun R hR => ?_
  have bad : lkOK c ⟨who, item, w, e⟩ = false → ∀ h', Keeps h h' → h.length ≤ h'.length → R (.tup [.agg [.nils, .nils, .nils], .bool false]) h' := fun hb h' hk hl => hR _ _ ⟨_, [], by rw [hb], by rw [lkR, hb]; exact zK_v h', Fresh.nil, hk, hl⟩
  cases hg : goodK c with
  | false =>
    rw [hg] at e1
    simp [g275, hx.cells, hx.cell, hy.cells, hy.cell, hz.cells, hz.cell, upd, e1, fillL, resV, mkV]
    exact bad (by simp [lkOK, hg]) _ k1 l1
  | true =>
    rw [hg] at e1
    obtain ⟨s1, s2, s3, s4⟩ := good_shape hg
    obtain ⟨_, h2, e2, x2, y2, z2, G1, G2, rfl, o2, k2, l2⟩ := l8Own_ok (hcc.keep k1) s2 s3
    have k12 := k1.trans k2
    obtain ⟨_, h3, e3, z', G1', rfl, zc, zl, hok, k3, l3⟩ := l8Step_ok o2 s1 ⟨who, item, w, e⟩
    have kf : Keeps h h3 := Keeps.far (n := h1.length) k12 k3 l1 fun i hi => by omega
    have c2 := o2.1.cell
    have c3 := o2.2.1.cell
    cases hk : lkCan c ⟨who, item, w, e⟩ with
    | false =>
      rw [hk] at e3
      simp [g275, hx.cells, hx.cell, hy.cells, hy.cell, hz.cells, hz.cell, upd, e1, e2, e3, c2, c3, zl, fillL, resV, mkV]
      exact bad (by simp [lkOK, hg, hk]) _ kf (by omega)
    | true =>
      rw [hk] at e3
      have o4 := hok hk
      have ok : lkOK c ⟨who, item, w, e⟩ = true := by simp [lkOK, hg, hk]
      simp only [lkR, ok, if_true] at hR
      obtain ⟨G, hv, fv, _⟩ := o4.v
      obtain ⟨q1, q2, q3, q4⟩ := step_shape s1 (by omega) ⟨who, item, w, e⟩
      obtain ⟨_, h4, e4, x4, y4, z4, J1, J2, rfl, o5, k4, l4⟩ := l8Own_ok hv ⟨by omega, fun r hr => by have := ris4_len (q4 r hr); omega, by omega, by omega⟩ (by omega)
      obtain ⟨J, hvj, fj, _⟩ := o5.v
      simp [g275, hx.cells, hx.cell, hy.cells, hy.cell, hz.cells, hz.cell, upd, e1, e2, e3, c2, c3, zl, e4, o5.1.cell, o5.2.1.cell, o5.2.2.1.sl.cell, fillL, resV, mkV]
      exact hR _ _ ⟨_, J, rfl, hvj, fj.mono (by omega), kf.trans k4, by omega⟩

end GL

namespace GL
open Go

instance lkData : Data Lk where
  sz := 3
  pos := by decide
  rep := fun h c cs F => ∃ x y z F1 F2 F3, cs = [x, y, z] ∧ F = F1 ++ F2 ++ F3 ∧ SdF h x c.rd F1 ∧ SdF h y c.wr F2 ∧ SdF h z c.ov F3
  len := by rintro h a cs F ⟨x, y, z, F1, F2, F3, rfl, _⟩; rfl
  ok := by rintro h a cs F ⟨x, y, z, F1, F2, F3, rfl, _, h1, h2, h3⟩; simp [allCell, h1.cell, h2.cell, h3.cell]
  keeps := by
    rintro h h' a cs F ⟨x, y, z, F1, F2, F3, rfl, rfl, h1, h2, h3⟩ hk
    exact ⟨x, y, z, F1, F2, F3, rfl, rfl, h1.keeps (hk.mono fun b hb => by simp [hb]), h2.keeps (hk.mono fun b hb => by simp [hb]), h3.keeps (hk.mono fun b hb => by simp [hb])⟩
  lt := by
    rintro h a cs F b ⟨x, y, z, F1, F2, F3, rfl, rfl, h1, h2, h3⟩ hb
    rcases List.mem_append.1 hb with hb | hb
    · rcases List.mem_append.1 hb with hb | hb
      · exact h1.lt hb
      · exact h2.lt hb
    · exact h3.lt hb
def Lk.of (p : List (List Int) × List Int × List Int) : Lk := ⟨p.1, p.2.1, p.2.2⟩
instance : Flat Ak := ⟨4, fun x => [vi x.who, vi x.item, .bool x.w, .bool x.e], fun _ => rfl, fun _ => rfl, by decide⟩
def Ak.of (p : Int × Int × Bool × Bool) : Ak := ⟨p.1, p.2.1, p.2.2.1, p.2.2.2⟩
end GL

namespace GL
open Go

def newK : Lk := ⟨List.replicate 4 [], [-1, -1, -1, -1], []⟩
theorem newK_shape : shapeK newK := ⟨rfl, rfl, by simp [newK], by decide⟩
theorem NewLocks_ok (h : Heap) : ∃ r h', call p 415 [] h = some (r, h') ∧ ∃ x y z F1 F2, r = .agg [x, y, z] ∧ LkO h.length h' x y z newK F1 F2 ∧ Keeps h h' ∧ h.length < h'.length := by
  have c4 : (96 : Int) ≤ (room : Int) := by unfold room; omega
  have c5 : (4 : Int) ≤ (room : Int) := by unfold room; omega
  refine go (fn := g415) rfl rfl fun R hR => ?_
  simp [g415, fillL, upd, c4, c5, resV, mkV]
  have hk : Keeps h (h ++ [⟨.own, [.nils, .nils, .nils, .nils]⟩, ⟨.own, [vi (-1), vi (-1), vi (-1), vi (-1)]⟩]) := Keeps.append _ _
  have s1 : SdF (h ++ [⟨.own, [.nils, .nils, .nils, .nils]⟩, ⟨.own, [vi (-1), vi (-1), vi (-1), vi (-1)]⟩]) (.slice h.length 0 4 (.k 4)) newK.rd [h.length] :=
    ⟨by simp [newK], .inr ⟨h.length, 0, .k 4, rfl, Nat.le_refl 4, .inr ⟨⟨.own, [.nils, .nils, .nils, .nils]⟩, [.nils, .nils, .nils, .nils], [], rfl, by simp, by simp, rfl, reps_nil _ 4⟩⟩⟩
  have s2 : SdF (h ++ [⟨.own, [.nils, .nils, .nils, .nils]⟩, ⟨.own, [vi (-1), vi (-1), vi (-1), vi (-1)]⟩]) (.slice (h.length + 1) 0 4 (.k 4)) newK.wr [h.length + 1] :=
    ⟨by simp [newK], .inr ⟨h.length + 1, 0, .k 4, rfl, Nat.le_refl 4, .inr ⟨⟨.own, [vi (-1), vi (-1), vi (-1), vi (-1)]⟩, flats [-1, -1, -1, -1], [], rfl, by simp, by simp, rfl, Reps.flat.2 ⟨rfl, rfl⟩⟩⟩⟩
  refine hR _ _ ⟨_, _, _, [h.length], [h.length + 1], rfl, ⟨s1, s2, Out.nil (by simp), ⟨by simp, by simp, fun b hb => ?_⟩, fun i hi => ?_⟩, hk, by simp⟩
  · simp at hb
    rcases hb with rfl | rfl
    · exact ⟨[.nils, .nils, .nils, .nils], by simp⟩
    · exact ⟨[vi (-1), vi (-1), vi (-1), vi (-1)], by simp⟩
  · obtain ⟨_, _, _, e⟩ := hi; cases e

theorem DC.asks {h0 h : Heap} {N : Nat} (d : DC h0 h N) (hN : N < 2 ^ 55) : ∃ v h', call p 413 [.ptr h0.length 0] h = some (v, h') ∧ ∃ (xs : List Ak), Out h.length h' v xs ∧ xs.length ≤ 41 ∧ DC h0 h' (N + 1000) ∧ KeepsBut h0.length h h' ∧ h.length ≤ h'.length := by
  have hlt := d.lt
  obtain ⟨n8, t1, e1, hn8, d1, k1, l1⟩ := d.pick (by omega) 20 (by decide)
  obtain ⟨one, t2, e2, d2, k2, l2⟩ := d1.one (by omega) 20 (by decide)
  have loop : ∀ (n : Nat) (s0 : S) (K : Ex → S → Prop), n ≤ 41 → s0.σ 0 = .v (.ptr h0.length 0) → s0.σ 3 = .v .nils → s0.σ 4 = .v (vi n) → DC h0 s0.h (N + 6) → KeepsBut h0.length h s0.h → h.length ≤ s0.h.length →
      (∀ s v (xs : List Ak), s.σ 3 = .v v → Out h.length s.h v xs → xs.length ≤ 41 → DC h0 s.h (N + 1000) → KeepsBut h0.length h s.h → h.length ≤ s.h.length → K (.exit 0) s) → Wc p (.loop g413_0) s0 K := by
    intro n s0 K hn g0 g3 g4 dc kb hl hK
    refine Wc_dnM (M := [3, 4, 5, 13, 14, 15, 16, 17, 18, 19, 20, 21, 22, 23, 24, 25, 26, 27, 28, 29, 30, 31, 32, 33, 34, 35, 36, 37, 38, 39, 40, 41, 42, 43]) rfl (fun k s => k ≤ n ∧ s.σ 4 = .v (vi k) ∧ (∃ (v : V) (xs : List Ak), s.σ 3 = .v v ∧ Out h.length s.h v xs ∧ xs.length + k = n) ∧ DC h0 s.h (N + 6 + 20 * (n - k)) ∧ KeepsBut h0.length h s.h ∧ h.length ≤ s.h.length) n
      ⟨Nat.le_refl _, g4, ⟨.nils, [], g3, Out.nil hl, by simp⟩, by simpa using dc, kb, hl⟩ fun k s ⟨gk, g4, ⟨v, xs, g3, ho, hxl⟩, dc, kb, hl⟩ hM J hJ => ?_
    by_cases hk : 0 < k
    · have w3 : IntKind.i64.wrap ((k : Int) - 1) = (k - 1 : Nat) := by rw [IntWalk.i64_in] <;> omega
      obtain ⟨a1, h1, e1, ha1, d1, k1, l1⟩ := dc.pick (by omega) 4 (by decide)
      obtain ⟨a2, h2, e2, ha2, d2, k2, l2⟩ := d1.pick (by omega) 3 (by decide)
      obtain ⟨a3, h3, e3, d3, k3, l3⟩ := d2.one (by omega) 2 (by decide)
      obtain ⟨o1, h4, e4, d4, k4, l4⟩ := d3.one (by omega) 5 (by decide)
      have k14 := ((k1.trans k2).trans k3).trans k4
      have app : ∀ (x : Ak) (h9 : Heap) (M : Nat), M ≤ N + 6 + 20 * (n - (k - 1)) → DC h0 h9 M → KeepsBut h0.length s.h h9 → s.h.length ≤ h9.length → ∃ v' h8, appH 4 24 v 1 [vi x.who, vi x.item, .bool x.w, .bool x.e] (h9 ++ [⟨.own, [vi x.who, vi x.item, .bool x.w, .bool x.e]⟩]) = some (v', h8) ∧ ∀ s' : S, s'.h = h8 → s'.σ 4 = .v (vi (k - 1 : Nat)) → s'.σ 3 = .v v' → J s' := fun x h9 M hM9 d9 k9 l9 => by
        have o9 : Out h.length h9 v xs := ho.keeps k9.P (fun i hi => by have := (ho.ge hi).1; omega) (by omega)
        obtain ⟨v', h8, e8, o8, d8, k8, l8⟩ := Out.draw d9 (kb.trans k9) (ho := o9) (by omega) (by omega) x (by omega) (k := 4) (bytes := 24) (cs := [vi x.who, vi x.item, .bool x.w, .bool x.e]) rfl (by decide) rfl
        exact ⟨v', h8, e8, fun s' q1 q2 q3 => hJ (k - 1) s' (by omega) ⟨by omega, q2, ⟨v', _, q3, by rw [q1]; exact o8, by simp; omega⟩, by rw [q1]; exact d8.mono hM9, by rw [q1]; exact k8, by rw [q1]; omega⟩⟩
      have bud : N + 6 + 20 * (n - k) + 20 ≤ N + 6 + 20 * (n - (k - 1)) := by omega
      have fin : ∀ (x : Ak) (h5 : Heap) (M : Nat), M + 10 ≤ N + 6 + 20 * (n - (k - 1)) → DC h0 h5 M → KeepsBut h0.length s.h h5 → s.h.length ≤ h5.length →
          ∃ o2 h6, call p 92 [.ptr h0.length 0, vi 40] h5 = some (.bool o2, h6) ∧ (o2 = false → ∃ v' h8, appH 4 24 v 1 [vi x.who, vi x.item, .bool x.w, .bool x.e] (h6 ++ [⟨.own, [vi x.who, vi x.item, .bool x.w, .bool x.e]⟩]) = some (v', h8) ∧ ∀ s' : S, s'.h = h8 → s'.σ 4 = .v (vi (k - 1 : Nat)) → s'.σ 3 = .v v' → J s') ∧
          (o2 = true → ∃ (b1 : Nat) (h7 : Heap) (b2 : Nat) (h8 : Heap) (b3 : Bool) (h9 : Heap), call p 91 [.ptr h0.length 0, vi 6] h6 = some (vi b1, h7) ∧ call p 91 [.ptr h0.length 0, vi 6] h7 = some (vi b2, h8) ∧ call p 92 [.ptr h0.length 0, vi 2] h8 = some (.bool b3, h9) ∧ IntKind.i64.wrap ((b1 : Int) - 1) = (b1 : Int) - 1 ∧ IntKind.i64.wrap ((b2 : Int) - 1) = (b2 : Int) - 1 ∧
            ∃ v' h10, appH 4 24 v 1 [vi ((b1 : Int) - 1), vi ((b2 : Int) - 1), .bool false, .bool b3] (h9 ++ [⟨.own, [vi ((b1 : Int) - 1), vi ((b2 : Int) - 1), .bool false, .bool b3]⟩]) = some (v', h10) ∧ ∀ s' : S, s'.h = h10 → s'.σ 4 = .v (vi (k - 1 : Nat)) → s'.σ 3 = .v v' → J s') := fun x h5 M hM5 d5 k5 l5 => by
        obtain ⟨o2, h6, e6, d6, k6, l6⟩ := d5.one (by omega) 40 (by decide)
        have k56 := k5.trans k6
        refine ⟨o2, h6, e6, fun _ => app x h6 _ (by omega) d6 k56 (by omega), fun _ => ?_⟩
        obtain ⟨b1, h7, e7, hb1, d7, k7, l7⟩ := d6.pick (by omega) 6 (by decide)
        obtain ⟨b2, h8, e8, hb2, d8, k8, l8⟩ := d7.pick (by omega) 6 (by decide)
        obtain ⟨b3, h9, e9, d9, k9, l9⟩ := d8.one (by omega) 2 (by decide)
        obtain ⟨v', h10, e10, hj⟩ := app ⟨(b1 : Int) - 1, (b2 : Int) - 1, false, b3⟩ h9 _ (by omega) d9 (((k56.trans k7).trans k8).trans k9) (by omega)
        exact ⟨b1, h7, b2, h8, b3, h9, e7, e8, e9, by rw [IntWalk.i64_in] <;> omega, by rw [IntWalk.i64_in] <;> omega, v', h10, e10, hj⟩
      cases o1 with
      | false =>
        obtain ⟨o2, h6, e6, q1, q2⟩ := fin ⟨a1, a2, a3, false⟩ h4 _ (by omega) d4 k14 (by omega)
        cases o2 with
        | false =>
          obtain ⟨v', h8, e8, hj⟩ := q1 rfl
          simp at e8
          simp [g413_0, hM, g0, g4, g3, hk, e1, e2, e3, e4, e6, upd, fillL, rdS_last, e8, w3]
          exact hj _ rfl (by simp) (by simp)
        | true =>
          obtain ⟨b1, h7, b2, h8, b3, h9, f1, f2, f3, f4, f5, v', h10, e10, hj⟩ := q2 rfl
          simp [g413_0, hM, g0, g4, g3, hk, e1, e2, e3, e4, e6, f1, f2, f3, f4, f5, upd, fillL, rdS_last, e10, w3]
          exact hj _ rfl (by simp) (by simp)
      | true =>
        obtain ⟨a4, h5, e5, ha4, d5, k5, l5⟩ := d4.pick (by omega) 4 (by decide)
        obtain ⟨o2, h6, e6, q1, q2⟩ := fin ⟨a4, 0, false, true⟩ h5 _ (by omega) d5 (k14.trans k5) (by omega)
        cases o2 with
        | false =>
          obtain ⟨v', h8, e8, hj⟩ := q1 rfl
          simp at e8
          simp [g413_0, hM, g0, g4, g3, hk, e1, e2, e3, e4, e5, e6, upd, fillL, rdS_last, e8, w3]
          exact hj _ rfl (by simp) (by simp)
        | true =>
          obtain ⟨b1, h7, b2, h8, b3, h9, f1, f2, f3, f4, f5, v', h10, e10, hj⟩ := q2 rfl
          simp [g413_0, hM, g0, g4, g3, hk, e1, e2, e3, e4, e5, e6, f1, f2, f3, f4, f5, upd, fillL, rdS_last, e10, w3]
          exact hj _ rfl (by simp) (by simp)
    · simp [g413_0, hM, g4, hk]
      exact hK _ v xs (by simp [g3]) ho (by omega) (dc.mono (by omega)) kb hl
  refine go (fn := g413) rfl rfl fun R hR => ?_
  cases one with
  | false =>
    simp [g413, e1, e2]
    refine loop n8 _ _ (by omega) (by simp) (by simp) (by simp) (d2.mono (by omega)) (k1.trans k2) (by show h.length ≤ t2.length; omega) fun s v xs g3 ho hx dc kb hl => ?_
    simp [g3]
    exact hR _ _ ⟨xs, ho, hx, dc, kb, hl⟩
  | true =>
    obtain ⟨m, t3, e3, hm, d3, k3, l3⟩ := d2.pick (by omega) 2 (by decide)
    have wm : IntKind.i64.wrap (40 + (m : Int)) = (40 + m : Nat) := by rw [IntWalk.i64_in] <;> omega
    simp [g413, e1, e2, e3, wm, -Int.natCast_add]
    refine loop (40 + m) _ _ (by omega) (by simp) (by simp) (by simp) (d3.mono (by omega)) ((k1.trans k2).trans k3) (by show h.length ≤ t3.length; omega) fun s v xs g3 ho hx dc kb hl => ?_
    simp [g3]
    exact hR _ _ ⟨xs, ho, hx, dc, kb, hl⟩
end GL

namespace GL
open Go

structure Ac where
  who : Int
  item : Int
  wr : Bool
deriving DecidableEq
instance : Flat Ac := ⟨3, fun x => [vi x.who, vi x.item, .bool x.wr], fun _ => rfl, fun _ => rfl, by decide⟩
theorem Sl.loadA {h : Heap} {v : V} {xs : List Ak} (hs : Sl h v xs) (i : Nat) (hi : i < xs.length) : rdH h (bOf v) (oOf v + i * 4) 4 = some [vi xs[i].who, vi xs[i].item, .bool xs[i].w, .bool xs[i].e] := hs.load i hi
theorem outOne {α : Type} [Flat α] {lo : Nat} {h : Heap} {v : V} {xs : List α} (ho : Out lo h v xs) (x : α) (hx : xs.length ≤ 2 ^ 20) {k bytes : Nat} {cs : List V} (hk : k = Flat.sz α) (hb : bytes ≤ 2 ^ 8) (hcs : cs = Flat.cells x) :
    ∃ v' h', appH k bytes v 1 cs (h ++ [⟨.own, cs⟩]) = some (v', h') ∧ Out lo h' v' (xs ++ [x]) ∧ KeepsP (fun i => ¬ vB v i) h h' ∧ h.length < h'.length ∧ ∀ i, vB v' i → h.length ≤ i := by
  have o3 : Out lo (h ++ [⟨.own, cs⟩]) v xs := (Keeps.append h _).out ho (by simp)
  obtain ⟨v', h', e4, o4, k4, l4, b4⟩ := o3.app [x] (by simp) (bytes := bytes) hb (by simp; omega) (k := k) hk (n := 1) rfl (ys := cs) (by simp [flats, hcs])
  exact ⟨v', h', e4, o4, fun i blk hi h1 h2 => k4 i blk hi (Keeps.append h _ i blk h1 h2) h2, by simp at l4; omega, fun i hi => by have := b4 i hi; simp at this; omega⟩
theorem LkO.mono {lo lo' : Nat} {h : Heap} {x y z : V} {c : Lk} {F1 F2 : List Nat} (o : LkO lo h x y z c F1 F2) (hl : lo' ≤ lo) : LkO lo' h x y z c F1 F2 :=
  ⟨o.1, o.2.1, o.2.2.1.mono hl, o.2.2.2.1.mono hl, o.2.2.2.2⟩

/-- the play's lists, that do not touch one another -/
structure Pk (lo : Nat) (h : Heap) (x y z v7 v8 : V) (i : Nat) : Prop where
  intro ::
  st : ∃ (c : Lk) (F1 F2 : List Nat) (as : List Ac) (bs : List Bool), LkO lo h x y z c F1 F2 ∧ shapeK c ∧ c.ov.length ≤ i ∧ Out lo h v7 as ∧ as.length ≤ i ∧ Out lo h v8 bs ∧ bs.length ≤ i ∧ (∀ j, vB v7 j → j ∉ F1 ++ F2 ∧ ¬ vB z j) ∧ ∀ j, vB v8 j → j ∉ F1 ++ F2 ∧ ¬ vB z j ∧ ¬ vB v7 j

theorem PlayLocks_ok {h : Heap} {v : V} {xs : List Ak} (hs : Sl h v xs) :
    ∃ r h', call p 414 [v] h = some (r, h') ∧ ∃ x y z v7 v8 ok, r = .tup [.agg [x, y, z], v7, v8, .bool ok] ∧ (x.cell = true ∧ y.cell = true ∧ z.cell = true) ∧ (ok = true → ∃ c F1 F2, LkO h.length h' x y z c F1 F2 ∧ shapeK c ∧ c.ov.length ≤ 41) ∧ Keeps h h' ∧ h.length ≤ h'.length := by
  refine go (fn := g414) rfl rfl fun R hR => ?_
  have bad : ∀ h', Keeps h h' → h.length ≤ h'.length → R (.tup [.agg [.nils, .nils, .nils], .nils, .nils, .bool false]) h' := fun h' hk hl => hR _ _ ⟨_, _, _, _, _, _, rfl, ⟨rfl, rfl, rfl⟩, by simp, hk, hl⟩
  by_cases hbig : 40 < xs.length
  · have hbi : (40 : Int) < xs.length := by omega
    simp [g414, hs.len, hbig, hbi, upd, fillL, resV, mkV]
    exact bad _ (Keeps.refl _) (Nat.le_refl _)
  · have hbi : ¬ (40 : Int) < xs.length := by omega
    obtain ⟨_, h1, e1, x0, y0, z0, G1, G2, rfl, o1, k1, l1⟩ := NewLocks_ok h
    simp [g414, hs.len, hbig, hbi, upd, fillL, e1, o1.1.cell, o1.2.1.cell, o1.2.2.1.sl.cell]
    refine Wc_upM (M := [7, 8, 10, 11, 12, 20, 21, 22, 23, 24, 25, 26, 27, 28, 29, 30, 31, 32, 33, 34, 35, 36, 37, 38, 39, 40, 41, 42, 43, 44, 45, 46, 47, 48, 49, 50]) rfl xs.length (fun i s => i ≤ xs.length ∧ s.σ 20 = .v (vi i) ∧ s.L 2 = (1, [.nils, .nils, .nils]) ∧ (∃ x y z v7 v8, s.L 6 = (1, [x, y, z]) ∧ s.σ 7 = .v v7 ∧ s.σ 8 = .v v8 ∧ Pk h.length s.h x y z v7 v8 i) ∧ Keeps h s.h ∧ h.length ≤ s.h.length) 0
      ⟨by omega, by simp, by simp [upd], ⟨x0, y0, z0, .nils, .nils, by simp [upd], by simp, by simp, ⟨newK, G1, G2, [], [], o1, newK_shape, by simp [newK], Out.nil (by show h.length ≤ h1.length; omega), by simp, Out.nil (by show h.length ≤ h1.length; omega), by simp, fun j ⟨_, _, _, e⟩ => (by cases e), fun j ⟨_, _, _, e⟩ => (by cases e)⟩⟩, k1, by show h.length ≤ h1.length; omega⟩ fun i s ⟨gi, g20, gL2, ⟨x, y, z, v7, v8, gL6, g7, g8, ⟨c, F1, F2, as, bs, oc, sc, cl, o7, l7, o8, l8, d7, d8⟩⟩, hk, hl⟩ hM J hJ => ?_
    obtain ⟨F, hv, _, _⟩ := oc.v
    have smc : smK c := ⟨by rw [sc.1]; omega, fun r hr => by have := ris4_len (sc.2.2.2 r hr); omega, by rw [sc.2.1]; omega, by omega⟩
    by_cases hi : i < xs.length
    · have ix := hs.idx 4 .i64 i hi
      have ld := (hs.keeps hk).loadA i hi
      have st := hs.step hi
      obtain ⟨_, h2, e2, x2, y2, z2, J1, J2, rfl, o2, k2, l2⟩ := l8Own_ok hv smc (by rw [sc.2.1]; omega)
      obtain ⟨_, h3, e3, z3, J3, rfl, zc, zl, hok, k3, l3⟩ := l8Step_ok o2 sc xs[i]
      generalize hxi : xs[i] = a at *
      obtain ⟨who, item, w, e⟩ := a
      have kk : Keeps s.h h3 := Keeps.far (n := s.h.length) k2 k3 (Nat.le_refl _) fun j hj => hj
      have xc := oc.1.cell
      have yc := oc.2.1.cell
      have zzc := oc.2.2.1.sl.cell
      have x2c := o2.1.cell
      have y2c := o2.2.1.cell
      have o73 := o7.keeps (kk.p fun _ => True) (fun _ _ => trivial) (by omega)
      have o83 := o8.keeps (kk.p fun _ => True) (fun _ _ => trivial) (by omega)
      have lt7 : ∀ j, vB v7 j → j < s.h.length := fun j hj => (o7.ge hj).2
      have lt8 : ∀ j, vB v8 j → j < s.h.length := fun j hj => (o8.ge hj).2
      cases hcan : lkCan c ⟨who, item, w, e⟩ with
      | false =>
        rw [hcan] at e3
        obtain ⟨v9, h4, e4, o4, k4, l4, b4⟩ := outOne o83 false (by omega) (k := 1) (bytes := 1) (cs := [.bool false]) rfl (by decide) rfl
        have oc4 : LkO h.length h4 x y z c F1 F2 := (oc.keep kk (by omega)).keeps k4 (fun j hj hv => (d8 j hv).1 hj) (fun j hj hv => (d8 j hv).2.1 hj) (by omega)
        have o74 : Out h.length h4 v7 as := o73.keeps k4 (fun j hj hv => (d8 j hv).2.2 hj) (by omega)
        simp [g414_0, hM, g20, gL2, gL6, g7, g8, hi, ix, ld, upd, e2, e3, x2c, y2c, zl, fillL, rdS_last, e4, st]
        exact hJ _ hi ⟨hi, by simp, by simp [upd, gL2], ⟨x, y, z, v7, v9, by simp [upd, gL6], by simp [g7], by simp, ⟨c, F1, F2, as, _, oc4, sc, by omega, o74, by omega, o4, by simp; omega, d7, fun j hj => ⟨fun hm => by have := b4 j hj; have := (oc.2.2.2.1.own j hm).lt; omega, fun hv => by have := b4 j hj; have := (oc.2.2.1.ge hv).2; omega, fun hv => by have := b4 j hj; have := lt7 j hv; omega⟩⟩⟩, o83.far (hk.trans kk) k4 (Nat.le_refl _), by show h.length ≤ h4.length; omega⟩
      | true =>
        rw [hcan] at e3
        have oc3 := hok hcan
        obtain ⟨q1, q2, q3, q4⟩ := step_shape sc (by omega) ⟨who, item, w, e⟩
        have scN : shapeK (lkStep c ⟨who, item, w, e⟩) := ⟨q1, q2, by omega, q4⟩
        have geN : ∀ j ∈ J3 ++ J2, s.h.length ≤ j := fun j hj => oc3.2.2.2.1.ge j hj
        have geZ : ∀ j, vB z3 j → s.h.length ≤ j := fun j hj => (oc3.2.2.1.ge hj).1
        cases e with
        | true =>
          obtain ⟨v9, h4, e4, o4, k4, l4, b4⟩ := outOne o83 true (by omega) (k := 1) (bytes := 1) (cs := [.bool true]) rfl (by decide) rfl
          have oc4 := (oc3.mono hl).keeps k4 (fun j hj hv => by have := geN j hj; have := lt8 j hv; omega) (fun j hj hv => by have := geZ j hj; have := lt8 j hv; omega) (by omega)
          have o74 : Out h.length h4 v7 as := o73.keeps k4 (fun j hj hv => (d8 j hv).2.2 hj) (by omega)
          simp [g414_0, hM, g20, gL2, gL6, g7, g8, hi, ix, ld, upd, e2, e3, x2c, y2c, zl, fillL, rdS_last, e4, st]
          exact hJ _ hi ⟨hi, by simp, by simp [upd, gL2], ⟨x2, y2, z3, v7, v9, by simp [upd], by simp [g7], by simp, ⟨_, J3, J2, as, _, oc4, scN, by omega, o74, by omega, o4, by simp; omega, fun j hj => ⟨fun hm => by have := geN j hm; have := lt7 j hj; omega, fun hv => by have := geZ j hv; have := lt7 j hj; omega⟩, fun j hj => ⟨fun hm => by have := b4 j hj; have := (oc3.2.2.2.1.own j hm).lt; omega, fun hv => by have := b4 j hj; have := (oc3.2.2.1.ge hv).2; omega, fun hv => by have := b4 j hj; have := lt7 j hv; omega⟩⟩⟩, o83.far (hk.trans kk) k4 (Nat.le_refl _), by show h.length ≤ h4.length; omega⟩
        | false =>
          obtain ⟨v9, h4, e4, o4, k4, l4, b4⟩ := outOne o73 (⟨who, item, w⟩ : Ac) (by omega) (k := 3) (bytes := 24) (cs := [vi who, vi item, .bool w]) rfl (by decide) rfl
          have oc4 := (oc3.mono hl).keeps k4 (fun j hj hv => by have := geN j hj; have := lt7 j hv; omega) (fun j hj hv => by have := geZ j hj; have := lt7 j hv; omega) (by omega)
          have o84 : Out h.length h4 v8 bs := o83.keeps k4 (fun j hj hv => (d8 j hj).2.2 hv) (by omega)
          obtain ⟨v10, h5, e5, o5, k5, l5, b5⟩ := outOne o84 true (by omega) (k := 1) (bytes := 1) (cs := [.bool true]) rfl (by decide) rfl
          have oc5 := oc4.keeps k5 (fun j hj hv => by have := geN j hj; have := lt8 j hv; omega) (fun j hj hv => by have := geZ j hj; have := lt8 j hv; omega) (by omega)
          have o75 := o4.keeps k5 (fun j hj hv => by have := b4 j hj; have := lt8 j hv; omega) (by omega)
          simp [g414_0, hM, g20, gL2, gL6, g7, g8, hi, ix, ld, upd, e2, e3, x2c, y2c, zl, fillL, rdS_last, e4, e5, st]
          exact hJ _ hi ⟨hi, by simp, by simp [upd, gL2], ⟨x2, y2, z3, v9, v10, by simp [upd], by simp, by simp, ⟨_, J3, J2, _, _, oc5, scN, by omega, o75, by simp; omega, o5, by simp; omega, fun j hj => ⟨fun hm => by have := b4 j hj; have := (oc3.2.2.2.1.own j hm).lt; omega, fun hv => by have := b4 j hj; have := (oc3.2.2.1.ge hv).2; omega⟩, fun j hj => ⟨fun hm => by have := b5 j hj; have := (oc3.2.2.2.1.own j hm).lt; omega, fun hv => by have := b5 j hj; have := (oc3.2.2.1.ge hv).2; omega, fun hv => by have := b5 j hj; have := (o4.ge hv).2; omega⟩⟩⟩, o84.far (o73.far (hk.trans kk) k4 (Nat.le_refl _)) k5 (Nat.le_refl _), by show h.length ≤ h5.length; omega⟩
    · have : i = xs.length := by omega
      subst this
      have l7' := o7.sl.len
      by_cases h16 : 16 < as.length
      · have h16i : (16 : Int) < as.length := by omega
        simp [g414_0, hM, g20, g7, gL2, l7', h16, h16i, upd, fillL, resV, mkV]
        exact bad _ hk hl
      · have h16i : ¬ (16 : Int) < as.length := by omega
        obtain ⟨_, h2, e2, x2, y2, z2, J1, J2, rfl, o2, k2, l2⟩ := l8Own_ok hv smc (by rw [sc.2.1]; omega)
        simp [g414_0, hM, g20, g7, g8, gL2, gL6, l7', h16, h16i, upd, e2, o2.1.cell, o2.2.1.cell, o2.2.2.1.sl.cell, resV, mkV]
        exact hR _ _ ⟨x2, y2, z2, v7, v8, true, rfl, ⟨o2.1.cell, o2.2.1.cell, o2.2.2.1.sl.cell⟩, fun _ => ⟨c, J1, J2, o2.mono hl, sc, by omega⟩, hk.trans k2, by omega⟩
end GL

namespace GL
open Go

theorem LkO.but {lo b0 : Nat} {h h' : Heap} {x y z : V} {c : Lk} {F1 F2 : List Nat} (o : LkO lo h x y z c F1 F2) (hk : KeepsBut b0 h h') (hb : b0 < lo) (hl : h.length ≤ h'.length) : LkO lo h' x y z c F1 F2 :=
  o.keeps hk.P (fun i hi e => by have := o.2.2.2.1.ge i hi; omega) (fun i hi e => by have := (o.2.2.1.ge hi).1; omega) hl

theorem DC.locks {h0 h : Heap} {N : Nat} (d : DC h0 h N) (hN : N < 2 ^ 54) : ∃ v h', call p 377 [.ptr h0.length 0] h = some (v, h') ∧ ∃ (c : Lk) (F : List Nat), LkV h' v c F ∧ (∀ b ∈ F, h.length ≤ b) ∧ DC h0 h' (N + 2000) ∧ KeepsBut h0.length h h' ∧ h.length ≤ h'.length := by
  have hlt := d.lt
  obtain ⟨va, h1, e1, xs, o1, hx, d1, k1, l1⟩ := d.asks (by omega)
  obtain ⟨_, h2, e2, x, y, z, v7, v8, ok, rfl, ⟨xc, yc, zc⟩, hok, k2, l2⟩ := PlayLocks_ok o1.sl
  have d2 := d1.keeps k2
  have kb2 := k1.trans (k2.but h0.length)
  refine go (fn := g377) rfl rfl fun R hR => ?_
  -- what comes of the last draw
  have fin : ∀ (x y z : V) (c : Lk) (F1 F2 : List Nat) (h3 : Heap) (M : Nat), M + 10 ≤ N + 2000 → LkO h1.length h3 x y z c F1 F2 → shapeK c → c.ov.length ≤ 41 → DC h0 h3 M → KeepsBut h0.length h h3 → h.length ≤ h3.length →
      ∃ (q : Nat) (h4 : Heap), call p 91 [.ptr h0.length 0, vi 20] h3 = some (vi q, h4) ∧
        (q = 0 → ∃ (a : Nat) (h5 h6 : Heap), call p 91 [.ptr h0.length 0, vi 6] h4 = some (vi a, h5) ∧ IntKind.i64.wrap ((a : Int) - 2) = (a : Int) - 2 ∧ idxV 1 y (vi 0) = some (.ptr (bOf y) (oOf y)) ∧ wrH h5 (bOf y) (oOf y) [vi ((a : Int) - 2)] = some h6 ∧ R (.agg [x, y, z]) h6) ∧
        (q = 1 → ∃ (a : Nat) (h5 : Heap) (z' : V) (h6 : Heap), call p 91 [.ptr h0.length 0, vi 4] h4 = some (vi a, h5) ∧ appH 1 8 z 1 [vi a] (h5 ++ [⟨.own, [vi a]⟩]) = some (z', h6) ∧ z'.cells = [z'] ∧ z'.cell = true ∧ R (.agg [x, y, z']) h6) ∧ (q ≠ 0 → q ≠ 1 → R (.agg [x, y, z]) h4) := by
    intro x y z c F1 F2 h3 M hM o3 hs hov d3 kb3 l3
    obtain ⟨q, h4, e4, hq, d4, k4, l4⟩ := d3.pick (by omega) 20 (by decide)
    have o4 := o3.but k4 (by omega) (by omega)
    have done : ∀ (x y z : V) (c : Lk) (F1 F2 : List Nat) (h5 : Heap) (M : Nat), M ≤ N + 2000 → LkO h1.length h5 x y z c F1 F2 → DC h0 h5 M → KeepsBut h0.length h h5 → h.length ≤ h5.length → R (.agg [x, y, z]) h5 := by
      intro x y z c F1 F2 h5 M hM o5 d5 k5 l5
      obtain ⟨F, hv, fv, _⟩ := o5.v
      exact hR _ _ ⟨c, F, hv, fun b hb => by have := fv.ge b hb; omega, d5.mono hM, k5, l5⟩
    refine ⟨q, h4, e4, fun hq0 => ?_, fun hq1 => ?_, fun _ _ => done x y z c F1 F2 h4 _ (by omega) o4 d4 (kb3.trans k4) (by omega)⟩
    · obtain ⟨a, h5, e5, ha, d5, k5, l5⟩ := d4.pick (by omega) 6 (by decide)
      have o5 := o4.but k5 (by omega) (by omega)
      have hw : 0 < c.wr.length := by rw [hs.2.1]; omega
      obtain ⟨h6, e6, o6, k6, l6, _⟩ := o5.setW hw ((a : Int) - 2)
      have ix := o5.2.1.idx 1 .i64 0 hw
      simp only [Nat.mul_one, Nat.add_zero, Int.natCast_zero] at ix e6
      refine ⟨a, h5, h6, e5, by rw [IntWalk.i64_in] <;> omega, ix, e6, done x y z _ F1 F2 h6 (M + 4) (by omega) o6 ((d5.far k6 fun i hi hm => by have := o5.2.2.2.1.ge i hm; omega).mono (by omega)) (((kb3.trans k4).trans k5).far k6 fun i hi _ hm => by have := o5.2.2.2.1.ge i hm; omega) (by omega)⟩
    · obtain ⟨a, h5, e5, ha, d5, k5, l5⟩ := d4.pick (by omega) 4 (by decide)
      have o5 := o4.but k5 (by omega) (by omega)
      obtain ⟨z', h6, e6, o6, k6, l6, zc', zl', _⟩ := o5.push (a : Int) (by omega)
      refine ⟨a, h5, z', h6, e5, e6, zc', zl', done x y z' _ F1 F2 h6 (M + 4) (by omega) o6 ((d5.far k6 fun i hi hv => by have := (o5.2.2.1.ge hv).1; omega).mono (by omega)) (((kb3.trans k4).trans k5).far k6 fun i hi _ hv => by have := (o5.2.2.1.ge hv).1; omega) (by omega)⟩
  cases ok with
  | true =>
    obtain ⟨c, F1, F2, oc, sc, cl⟩ := hok rfl
    obtain ⟨q, h4, e4, q0, q1, q2⟩ := fin x y z c F1 F2 h2 (N + 1000) (by omega) oc sc cl d2 kb2 (by omega)
    by_cases hq0 : q = 0
    · obtain ⟨a, h5, h6, f1, f2, f3, f4, f5⟩ := q0 hq0
      have oy := oc.2.1.cells
      have hq0i : (q : Int) = 0 := by omega
      simp [g377, e1, e2, upd, xc, yc, zc, e4, hq0i, f1, f2, f3, f4, resV, mkV]
      exact f5
    · by_cases hq1 : q = 1
      · obtain ⟨a, h5, z', h6, f1, f2, f3, f4, f5⟩ := q1 hq1
        have hq0i : ¬ (q : Int) = 0 := by omega
        have hq1i : (q : Int) = 1 := by omega
        subst hq1
        simp [g377, e1, e2, upd, xc, yc, zc, e4, fillL, rdS_last, f1, f2, f3, f4, resV, mkV]
        exact f5
      · have hq0i : ¬ (q : Int) = 0 := by omega
        have hq1i : ¬ (q : Int) = 1 := by omega
        simp [g377, e1, e2, upd, xc, yc, zc, e4, hq0i, hq1i, hq0, hq1, resV, mkV]
        exact q2 hq0 hq1
  | false =>
    obtain ⟨_, h3, e3, x3, y3, z3, J1, J2, rfl, o3, k3, l3⟩ := NewLocks_ok h2
    have d3 := d2.keeps k3
    have xc3 := o3.1.cell
    have yc3 := o3.2.1.cell
    have zc3 := o3.2.2.1.sl.cell
    obtain ⟨q, h4, e4, q0, q1, q2⟩ := fin x3 y3 z3 newK J1 J2 h3 (N + 1000) (by omega) (o3.mono (by omega)) newK_shape (by simp [newK]) d3 (kb2.trans (k3.but _)) (by omega)
    by_cases hq0 : q = 0
    · obtain ⟨a, h5, h6, f1, f2, f3, f4, f5⟩ := q0 hq0
      have hq0i : (q : Int) = 0 := by omega
      simp [g377, e1, e2, e3, upd, xc, yc, zc, xc3, yc3, zc3, e4, hq0i, f1, f2, f3, f4, resV, mkV]
      exact f5
    · by_cases hq1 : q = 1
      · obtain ⟨a, h5, z', h6, f1, f2, f3, f4, f5⟩ := q1 hq1
        subst hq1
        simp [g377, e1, e2, e3, upd, xc, yc, zc, xc3, yc3, zc3, e4, fillL, rdS_last, f1, f2, f3, f4, resV, mkV]
        exact f5
      · have hq0i : ¬ (q : Int) = 0 := by omega
        have hq1i : ¬ (q : Int) = 1 := by omega
        simp [g377, e1, e2, e3, upd, xc, yc, zc, xc3, yc3, zc3, e4, hq0i, hq1i, hq0, hq1, resV, mkV]
        exact q2 hq0 hq1
theorem DC.ask {h0 h : Heap} {N : Nat} (d : DC h0 h N) (hN : N < 2 ^ 54) : ∃ (a : Ak) (h' : Heap), call p 378 [.ptr h0.length 0] h = some (av a, h') ∧ DC h0 h' (N + 1000) ∧ KeepsBut h0.length h h' ∧ h.length ≤ h'.length := by
  obtain ⟨va, h1, e1, xs, o1, hx, d1, k1, l1⟩ := d.asks (by omega)
  have : ∃ r h', call p 378 [.ptr h0.length 0] h = some (r, h') ∧ ∃ a : Ak, r = av a ∧ DC h0 h' (N + 1000) ∧ KeepsBut h0.length h h' ∧ h.length ≤ h'.length := by
    refine go (fn := g378) rfl rfl fun R hR => ?_
    by_cases h0 : xs.length = 0
    · have h0i : (xs.length : Int) = 0 := by omega
      simp [g378, e1, o1.sl.len, h0, h0i, upd, fillL, resV, mkV]
      exact hR _ _ ⟨⟨0, 0, false, true⟩, rfl, d1, k1, l1⟩
    · have h0i : ¬ (xs.length : Int) = 0 := by omega
      have ix := o1.sl.idx 4 .i64 0 (by omega)
      have ld := o1.sl.loadA 0 (by omega)
      simp only [Nat.zero_mul, Nat.add_zero, Int.natCast_zero] at ix ld
      generalize xs[0] = a at *
      simp [g378, e1, o1.sl.len, h0, h0i, upd, ix, ld, resV, mkV]
      exact hR _ _ ⟨a, rfl, d1, k1, l1⟩
  obtain ⟨_, h', e, a, rfl, r⟩ := this
  exact ⟨a, h', e, r⟩
theorem drawAskLock_ok {h : Heap} {v : V} {bs : List Byte} (hs : Sl h v bs) : ∃ r h', call p 281 [v] h = some (r, h') ∧ ∃ (w : V) (c : Lk) (a : Ak) (F : List Nat), r = .tup [w, av a] ∧ LkV h' w c F ∧ Keeps h h' ∧ h.length ≤ h'.length := by
  have d0 := DC.start hs
  obtain ⟨w, h1, e1, c, F, hc, hF, d1, k1, l1⟩ := d0.locks (by decide)
  obtain ⟨a, h2, e2, d2, k2, l2⟩ := d1.ask (by omega)
  simp at e1 e2 l1
  have hc2 := hc.keeps (k2.P.mono fun b hb => by have := hF b hb; simp at this; omega)
  have hcc := hc2
  obtain ⟨x, y, z, F1, F2, F3, rfl, _, hx, hy, hz⟩ := hc
  obtain ⟨who, item, w, e⟩ := a
  refine go (fn := g281) rfl rfl fun R hR => ?_
  simp [g281, hs.cells, hs.cell, fillL, upd, e1, e2, hx.cells, hx.cell, hy.cells, hy.cell, hz.cells, hz.cell, resV, mkV]
  exact hR _ _ ⟨_, c, ⟨who, item, w, e⟩, F, rfl, hcc, d2.keep, by omega⟩

def wfB (c : Lk) (a : Ak) : Bool := goodK c && askK c a && !a.e
def wfR (c : Lk) (a : Ak) : List Int := if wfB c a = true then keepL c a 4 else []
theorem WaitsFor_ok {h : Heap} {v : V} {c : Lk} {F : List Nat} (hc : LkV h v c F) (a : Ak) :
    ∃ r h', call p 282 [v, av a] h = some (r, h') ∧ ∃ o, r = .tup [o, .bool (wfB c a)] ∧ Sl h' o (wfR c a) ∧ Keeps h h' ∧ h.length ≤ h'.length := by
  have hcc := hc
  obtain ⟨_, h1, e1, rfl, k1, l1⟩ := GoodLocks_ok hc
  have e2 := isAsk_eq (hc.keep k1) a
  obtain ⟨x, y, z, F1, F2, F3, rfl, _, hx, hy, hz⟩ := hc
  obtain ⟨who, item, w, e⟩ := a
  refine go (fn := g282) rfl rfl fun R hR => ?_
  have bad : wfB c ⟨who, item, w, e⟩ = false → ∀ h', Keeps h h' → h.length ≤ h'.length → R (.tup [.nils, .bool false]) h' := fun hb h' hk hl => hR _ _ ⟨.nils, by rw [hb], by rw [wfR, hb]; exact Sl.nil, hk, hl⟩
  cases hg : goodK c with
  | false =>
    rw [hg] at e1
    simp [g282, hx.cells, hx.cell, hy.cells, hy.cell, hz.cells, hz.cell, upd, e1]
    exact bad (by simp [wfB, hg]) _ k1 l1
  | true =>
    rw [hg] at e1
    cases ha : askK c ⟨who, item, w, e⟩ with
    | false =>
      rw [ha] at e2
      simp [g282, hx.cells, hx.cell, hy.cells, hy.cell, hz.cells, hz.cell, upd, e1, e2]
      exact bad (by simp [wfB, ha]) _ k1 l1
    | true =>
      rw [ha] at e2
      cases e with
      | true =>
        simp [g282, hx.cells, hx.cell, hy.cells, hy.cell, hz.cells, hz.cell, upd, e1, e2]
        exact bad (by simp [wfB]) _ k1 l1
      | false =>
        have ha' := ha
        simp only [askK, Bool.and_eq_true, decide_eq_true_eq] at ha'
        obtain ⟨⟨s1, s2, _⟩, _⟩ := good_shape hg
        obtain ⟨r, h2, e3, o2, k2, l2⟩ := keepers_ok (hcc.keep k1) s1 s2 (a := ⟨who, item, w, false⟩) ha'.1.2
        have hb : wfB c ⟨who, item, w, false⟩ = true := by simp [wfB, hg, ha]
        simp only [wfR, hb, if_true] at hR
        simp [g282, hx.cells, hx.cell, hy.cells, hy.cell, hz.cells, hz.cell, upd, e1, e2, e3]
        exact hR _ _ ⟨r, rfl, o2.sl, k1.trans k2, by omega⟩
theorem WaitsForS_ok {h : Heap} {v : V} {c : Lk} {F : List Nat} (hc : LkV h v c F) (a : Ak) :
    ∃ r h', call p 283 [v, av a] h = some (r, h') ∧ ∃ o, r = .tup [o, .bool (wfB c a)] ∧ Sl h' o (wfR c a) ∧ Keeps h h' ∧ h.length ≤ h'.length := by
  have hcc := hc
  obtain ⟨_, h1, e1, rfl, k1, l1⟩ := GoodLocksS_ok hc
  have e2 := l8Ask_eq (hc.keep k1) a
  obtain ⟨x, y, z, F1, F2, F3, rfl, _, hx, hy, hz⟩ := hc
  obtain ⟨who, item, w, e⟩ := a
  refine go (fn := g283) rfl rfl fun R hR => ?_
  have bad : wfB c ⟨who, item, w, e⟩ = false → ∀ h', Keeps h h' → h.length ≤ h'.length → R (.tup [.nils, .bool false]) h' := fun hb h' hk hl => hR _ _ ⟨.nils, by rw [hb], by rw [wfR, hb]; exact Sl.nil, hk, hl⟩
  cases hg : goodK c with
  | false =>
    rw [hg] at e1
    simp [g283, hx.cells, hx.cell, hy.cells, hy.cell, hz.cells, hz.cell, upd, e1]
    exact bad (by simp [wfB, hg]) _ k1 l1
  | true =>
    rw [hg] at e1
    cases ha : askK c ⟨who, item, w, e⟩ with
    | false =>
      rw [ha] at e2
      simp [g283, hx.cells, hx.cell, hy.cells, hy.cell, hz.cells, hz.cell, upd, e1, e2]
      exact bad (by simp [wfB, ha]) _ k1 l1
    | true =>
      rw [ha] at e2
      cases e with
      | true =>
        simp [g283, hx.cells, hx.cell, hy.cells, hy.cell, hz.cells, hz.cell, upd, e1, e2]
        exact bad (by simp [wfB]) _ k1 l1
      | false =>
        have ha' := ha
        simp only [askK, Bool.and_eq_true, decide_eq_true_eq] at ha'
        obtain ⟨⟨s1, s2, _⟩, _⟩ := good_shape hg
        obtain ⟨r, h2, e3, o2, k2, l2⟩ := l8Waits_ok (hcc.keep k1) s1 s2 (a := ⟨who, item, w, false⟩) ha'.1.2
        have hb : wfB c ⟨who, item, w, false⟩ = true := by simp [wfB, hg, ha]
        simp only [wfR, hb, if_true] at hR
        simp [g283, hx.cells, hx.cell, hy.cells, hy.cell, hz.cells, hz.cell, upd, e1, e2, e3]
        exact hR _ _ ⟨r, rfl, o2.sl, k1.trans k2, by omega⟩
theorem HeldBy_ok {h : Heap} {v : V} {c : Lk} {F : List Nat} (hc : LkV h v c F) (hg : goodK c = true) {who : Int} (hw : 0 ≤ who ∧ who ≤ 3) :
    ∃ r h', call p 285 [v, vi who] h = some (r, h') ∧ ∃ o, r = .tup [o, .bool true] ∧ Sl h' o (heldL c who 4) ∧ Keeps h h' ∧ h.length ≤ h'.length := by
  obtain ⟨_, h1, e1, rfl, k1, l1⟩ := GoodLocks_ok hc
  obtain ⟨⟨s1, s2, _⟩, _⟩ := good_shape hg
  obtain ⟨x, y, z, F1, F2, F3, rfl, _, hx, hy, hz⟩ := hc
  rw [hg] at e1
  refine go (fn := g285) rfl rfl fun R hR => ?_
  simp [g285, hx.cells, hx.cell, hy.cells, hy.cell, hz.cells, hz.cell, upd, e1, isDealer_eq, hw, fillL, -Bool.decide_and]
  refine Wc_upM (M := [6, 7, 17, 18, 19, 20, 21, 22, 23, 24, 25, 26, 27, 28, 29, 30, 31, 32, 33, 34, 35, 36, 37, 38, 39, 40]) rfl 4 (fun i s => i ≤ 4 ∧ s.σ 17 = .v (vi i) ∧ s.L 2 = (1, [x, y, z]) ∧ (∃ v5, s.σ 6 = .v v5 ∧ Out h.length s.h v5 (heldL c who i)) ∧ Keeps h s.h ∧ h.length ≤ s.h.length) 0
    ⟨by omega, by simp, by simp [upd], ⟨.slice h1.length 0 0 (.k 0), by simp, Out.empty l1 (by simp)⟩, k1.trans (Keeps.append _ _), by simp; omega⟩ fun i s ⟨gi, g10, gL, ⟨v5, g5, ho⟩, hk, hl⟩ hM J hJ => ?_
  by_cases hi : i < 4
  · have hi' : (i : Int) < 4 := by omega
    have i1 : i < c.rd.length := by omega
    have i2 : i < c.wr.length := by omega
    obtain ⟨zr, Fr, lr, hzr, _⟩ := (hx.keep hk).loadL i i1
    have ir := hx.idx 1 .i64 i i1
    have iw := hy.idx 1 .i64 i i2
    simp only [Nat.mul_one] at ir iw
    have lw := (hy.keep hk).sl.loadI i i2
    have st : IntKind.i64.wrap ((i : Int) + 1) = (i + 1 : Nat) := by rw [IntWalk.i64_in] <;> omega
    have e1 := containsI_eq hzr.sl who
    have hs := upTo_filter (heldQ c who) i
    have hq : heldQ c who i = (decide (c.wr[i] = who) || decide (who ∈ c.rd[i])) := by
      simp [heldQ, List.getElem?_eq_getElem i1, List.getElem?_eq_getElem i2]
    have hln := upTo_flen (heldQ c who) i
    obtain ⟨v', h3, e3, o3, k3, l3⟩ := ho.one (i : Int) (by show ((upTo i).filter _).length ≤ _; omega)
    generalize c.rd[i] = row at *
    generalize c.wr[i] = w at *
    by_cases hw : w = who
    · subst hw
      rw [if_pos (by rw [hq]; simp)] at hs
      simp [g285_0, hM, g10, gL, g5, hi, hi', ir, iw, lw, fillL, rdS_last, e3, st, -Int.natCast_add]
      exact hJ _ hi ⟨hi, by simp, by simp [gL], ⟨v', by simp, by rw [heldL, hs]; exact o3⟩, ho.far hk k3 (Nat.le_refl _), by show h.length ≤ h3.length; omega⟩
    · by_cases hm : who ∈ row
      · rw [if_pos (by rw [hq]; simp [hm])] at hs
        rw [decide_eq_true hm] at e1
        simp [g285_0, hM, g10, gL, g5, hi, hi', ir, iw, lr, lw, hw, e1, fillL, rdS_last, e3, st, -Int.natCast_add]
        exact hJ _ hi ⟨hi, by simp, by simp [gL], ⟨v', by simp, by rw [heldL, hs]; exact o3⟩, ho.far hk k3 (Nat.le_refl _), by show h.length ≤ h3.length; omega⟩
      · rw [if_neg (by rw [hq]; simp [hm, hw])] at hs
        rw [decide_eq_false hm] at e1
        simp [g285_0, hM, g10, gL, g5, hi, hi', ir, iw, lr, lw, hw, e1, st, -Int.natCast_add]
        exact hJ _ hi ⟨hi, by simp, by simp [gL], ⟨v5, by simp [g5], by rw [heldL, hs]; exact ho⟩, hk, hl⟩
  · have : i = 4 := by omega
    subst this
    simp [g285_0, hM, g10, g5]
    exact hR _ _ ⟨v5, rfl, ho.sl, hk, hl⟩
theorem sameLocks_same {h : Heap} {v w : V} {c : Lk} {F G : List Nat} (hc : LkV h v c F) (hd : LkV h w c G) : call p 284 [v, w] h = some (.bool true, h) := by
  obtain ⟨x, y, z, F1, F2, F3, rfl, _, hx, hy, hz⟩ := hc
  obtain ⟨x2, y2, z2, G1, G2, G3, rfl, _, gx, gy, gz⟩ := hd
  have e1 := sameRows_same hx gx
  have e2 := sameInts_eq hy.sl gy.sl
  have e3 := sameInts_eq hz.sl gz.sl
  rw [decide_eq_true rfl] at e2 e3
  refine go_eq (fn := g284) rfl rfl fun R hR => ?_
  simp [g284, upd, hx.cells, hx.cell, hy.cells, hy.cell, hz.cells, hz.cell, gx.cells, gx.cell, gy.cells, gy.cell, gz.cells, gz.cell, e1, e2, e3]
  exact hR
end GL

namespace GL
open Go

def atR' (w : List Int) (n : Int) : Int := w.getD n.toNat 0
def runI (w : List Int) (k : Int) : Nat → List Int → Int → Option (List Int)
  | 0, _, _ => none
  | f + 1, way, n => if 0 ≤ n ∧ n ∉ way.drop 1 then (if n = k then some way else runI w k f (way ++ [n]) (atR' w n)) else none
def runS (w : List Int) (k : Int) : Nat → List Int → Int → List Int
  | 0, out, _ => out
  | f + 1, out, n => if 0 ≤ n ∧ n ≠ k ∧ out.length ≤ 4 then runS w k f (out ++ [n]) (atR' w n) else out
def finS (w : List Int) (k : Int) (out : List Int) : Option (List Int) := if out.length ≤ 4 ∧ atR' w (out.getD (out.length - 1) 0) = k then some out else none
def oneI (w : List Int) (k : Int) : Option (List Int) := runI w k 5 [k] (atR' w k)
def oneS (w : List Int) (k : Int) : Option (List Int) := finS w k (runS w k 5 [k] (atR' w k))
def okRound (w r : List Int) : Bool := decide (0 < r.length) && decide (r.length ≤ 4) && (List.range r.length).all fun i => decide (0 ≤ r.getD i 0) && decide (r.getD i 0 ≤ 3) && decide (atR' w (r.getD i 0) = r.getD ((i + 1) % r.length) 0)
def chk (w : List Int) (k : Int) : Bool := decide (oneI w k = oneS w k) && match oneI w k with
  | none => true
  | some r => okRound w r
def wOf (a b c d : Nat) : List Int := [(a : Int) - 1, (b : Int) - 1, (c : Int) - 1, (d : Int) - 1]
def allChk : Bool := (List.range 5).all fun a => (List.range 5).all fun b => (List.range 5).all fun c => (List.range 5).all fun d => (List.range 4).all fun k => chk (wOf a b c d) k
theorem allChk_true : allChk = true := by decide +kernel
end GL

namespace GL
open Go

def okW (w : List Int) : Bool := decide (w.length = 4) && w.all fun n => decide (-1 ≤ n ∧ n ≤ 3)
theorem okW_facts {w : List Int} (h : okW w = true) : w.length = 4 ∧ ∀ i (hi : i < w.length), -1 ≤ w[i] ∧ w[i] ≤ 3 := by
  simp only [okW, Bool.and_eq_true, decide_eq_true_eq, List.all_eq_true] at h
  exact ⟨h.1, fun i hi => h.2 _ (List.getElem_mem hi)⟩
theorem all_range {n : Nat} {q : Nat → Bool} (h : (List.range n).all q = true) {i : Nat} (hi : i < n) : q i = true := List.all_eq_true.1 h i (List.mem_range.2 hi)
theorem chk_true {w : List Int} (h : okW w = true) {k : Nat} (hk : k < 4) : chk w k = true := by
  obtain ⟨h1, h2⟩ := okW_facts h
  match w, h1, h2 with
  | [a, b, c, d], _, h2 =>
    have ha : -1 ≤ a ∧ a ≤ 3 := h2 0 (by simp)
    have hb : -1 ≤ b ∧ b ≤ 3 := h2 1 (by simp)
    have hc : -1 ≤ c ∧ c ≤ 3 := h2 2 (by simp)
    have hd : -1 ≤ d ∧ d ≤ 3 := h2 3 (by simp)
    have e : wOf (a + 1).toNat (b + 1).toNat (c + 1).toNat (d + 1).toNat = [a, b, c, d] := by
      unfold wOf
      rw [Int.toNat_of_nonneg (by omega), Int.toNat_of_nonneg (by omega), Int.toNat_of_nonneg (by omega), Int.toNat_of_nonneg (by omega)]
      simp
    have := all_range (all_range (all_range (all_range (all_range allChk_true (show (a + 1).toNat < 5 by omega)) (show (b + 1).toNat < 5 by omega)) (show (c + 1).toNat < 5 by omega)) (show (d + 1).toNat < 5 by omega)) hk
    rw [e] at this; exact this
theorem one_eq {w : List Int} (h : okW w = true) {k : Nat} (hk : k < 4) : oneS w k = oneI w k ∧ ∀ r, oneI w k = some r → okRound w r = true := by
  have := chk_true h hk
  simp only [chk, Bool.and_eq_true, decide_eq_true_eq] at this
  refine ⟨this.1.symm, fun r hr => ?_⟩
  rw [hr] at this; exact this.2
def roundR (w : List Int) : Option (List Int) := if okW w = true then (upTo 4).findSome? (oneI w) else none
theorem find_at (f : Int → Option (List Int)) {i n : Nat} (hi : i < n) (hall : ∀ j : Nat, j < i → f j = none) {r : List Int} (hr : f i = some r) : (upTo n).findSome? f = some r := by
  have e : upTo n = upTo i ++ ((List.range (n - i)).map fun (j : Nat) => ((i + j : Nat) : Int)) := by
    apply List.ext_getElem
    · simp [upTo]; omega
    · intro q h1 h2
      by_cases hq : q < i
      · rw [List.getElem_append_left (by rw [upTo_len]; exact hq)]; simp [upTo]
      · rw [List.getElem_append_right (by rw [upTo_len]; omega)]; simp [upTo]; omega
  rw [e, List.findSome?_append]
  have h1 : (upTo i).findSome? f = none := by
    rw [List.findSome?_eq_none_iff]
    intro x hx
    obtain ⟨j, hj, rfl⟩ : ∃ j : Nat, j < i ∧ x = j := ⟨x.toNat, by have := mem_upTo.1 hx; omega, by have := mem_upTo.1 hx; omega⟩
    exact hall j hj
  obtain ⟨m, hm⟩ : ∃ m, n - i = m + 1 := ⟨n - i - 1, by omega⟩
  rw [h1, hm, List.range_succ_eq_map]
  simp [hr]
theorem find_no (f : Int → Option (List Int)) {n : Nat} (hall : ∀ j : Nat, j < n → f j = none) : (upTo n).findSome? f = none := by
  rw [List.findSome?_eq_none_iff]
  intro x hx
  obtain ⟨j, hj, rfl⟩ : ∃ j : Nat, j < n ∧ x = j := ⟨x.toNat, by have := mem_upTo.1 hx; omega, by have := mem_upTo.1 hx; omega⟩
  exact hall j hj

theorem round1_eq (n : Int) (h : Heap) : call p 387 [vi n] h = some (.bool (!decide (-1 ≤ n ∧ n ≤ 3)), h) := by
  refine go_eq (fn := g387) rfl rfl fun R hR => ?_
  simp [g387, -Bool.decide_and]; exact hR
theorem getD_way {w : List Int} (h : okW w = true) {n : Nat} (hn : n < 4) : ∃ m : Int, atR' w n = m ∧ (-1 ≤ m ∧ m ≤ 3) := by
  obtain ⟨h1, h2⟩ := okW_facts h
  exact ⟨_, rfl, by rw [atR', Int.toNat_natCast, getD_at (by omega)]; exact h2 n (by omega)⟩
theorem idxW {h : Heap} {v : V} {w : List Int} (hs : Sl h v w) (hw : okW w = true) {n : Int} (hn : 0 ≤ n ∧ n ≤ 3) : idxV 1 v (vi n) = some (.ptr (bOf v) (oOf v + n.toNat)) ∧ rdH h (bOf v) (oOf v + n.toNat) 1 = some [vi (atR' w n)] := by
  obtain ⟨m, rfl⟩ : ∃ m : Nat, n = m := ⟨n.toNat, by omega⟩
  obtain ⟨h1, _⟩ := okW_facts hw
  have ix := hs.idx 1 .i64 m (by omega)
  have ld := hs.loadI m (by omega)
  simp only [Nat.mul_one] at ix
  rw [← getD_at (by omega) 0] at ld
  exact ⟨by simpa using ix, by simpa [atR'] using ld⟩

theorem HasRound_ok {h : Heap} {v : V} {w : List Int} (hs : Sl h v w) :
    ∃ r h', call p 288 [v] h = some (r, h') ∧ ∃ o, r = .tup [o, .bool (roundR w).isSome] ∧ Sl h' o ((roundR w).getD []) ∧ Keeps h h' ∧ h.length ≤ h'.length := by
  obtain ⟨_, h1, e1, rfl, k1, l1⟩ := containsIg_ok hs (f := 387) (capt := []) (q := fun n => !decide (-1 ≤ n ∧ n ≤ 3)) fun h' _ n _ => ⟨h', round1_eq n h', Keeps.refl _, Nat.le_refl _⟩
  have e0 : (w.any fun n => !decide (-1 ≤ n ∧ n ≤ 3)) = !(w.all fun n => decide (-1 ≤ n ∧ n ≤ 3)) := by
    rw [List.not_all_eq_any_not]
  rw [e0] at e1
  refine go (fn := g288) rfl rfl fun R hR => ?_
  have bad : roundR w = none → ∀ h', Keeps h h' → h.length ≤ h'.length → R (.tup [.nils, .bool false]) h' := fun hb h' hk hl => hR _ _ ⟨.nils, by rw [hb]; rfl, by rw [hb]; exact Sl.nil, hk, hl⟩
  by_cases hl : w.length = 4
  · have hl' : (w.length : Int) = 4 := by omega
    cases hall : (w.all fun n => decide (-1 ≤ n ∧ n ≤ 3)) with
    | false =>
      rw [hall] at e1
      simp [g288, hs.len, hl', e1]
      exact bad (by rw [roundR, show okW w = false by simp only [okW, hall, Bool.and_false]]; rfl) _ k1 l1
    | true =>
      have hw : okW w = true := by simp only [okW, hl, hall, decide_true, Bool.true_and]
      rw [hall] at e1
      simp [g288, hs.len, hl', e1]
      refine Wc_upM (M := [2, 3, 4, 5, 6, 14, 15, 16, 17, 18, 19, 20, 21, 22, 23, 24, 25, 26, 27, 28, 29, 30, 31, 32, 33, 34, 35, 36, 37, 38, 39, 40, 41, 42, 43, 44]) rfl 4 (fun i s => i ≤ 4 ∧ s.σ 14 = .v (vi i) ∧ (∀ j : Nat, j < i → oneI w j = none) ∧ Keeps h s.h ∧ h.length ≤ s.h.length) 0
        ⟨by omega, by simp, by omega, k1, l1⟩ fun i s ⟨gi, g14, hno, hk, hln⟩ hM J hJ => ?_
      by_cases hi : i < 4
      · have hi' : (i : Int) < 4 := by omega
        have st : IntKind.i64.wrap ((i : Int) + 1) = (i + 1 : Nat) := by rw [IntWalk.i64_in] <;> omega
        obtain ⟨ix, ld⟩ := idxW (hs.keeps hk) hw (n := (i : Int)) (by omega)
        have ld2 := rdH_keep (Keeps.append s.h [⟨.own, [vi i]⟩]) ld
        simp only [Int.toNat_natCast] at ix ld2
        have hone : oneI w i = runI w i 5 [(i : Int)] (atR' w i) := rfl
        obtain ⟨m0, hm0, hm1⟩ := getD_way hw hi
        rw [hm0] at hone ld2
        simp [g288_1, hM, g14, hi, hi', fillL, ix, ld2]
        refine Wc_dnM (M := [2, 3, 5, 6, 23, 24, 25, 26, 27, 28, 29, 30, 31, 32, 33, 34, 35, 36, 37, 38, 39, 40, 41, 42, 43]) rfl (fun k t => ∃ (v5 : V) (ys : List Int) (n : Int), k + ys.length = 5 ∧ ys.Nodup ∧ (∀ x ∈ ys, 0 ≤ x ∧ x ≤ 3) ∧ t.σ 5 = .v v5 ∧ Qs s.h.length t.h v5 ((i : Int) :: ys) ∧ t.σ 6 = .v (vi n) ∧ (-1 ≤ n ∧ n ≤ 3) ∧ oneI w i = runI w i k ((i : Int) :: ys) n ∧ Keeps h t.h ∧ h.length ≤ t.h.length) 5
          ⟨.slice s.h.length 0 1 (.k 1), [], m0, by simp, by simp, by simp, by simp, Qs.lit s.h _ (Nat.le_refl _), by simp, hm1, hone, hk.trans (Keeps.append _ _), by simp; omega⟩ fun k t ⟨v5, ys, n, hky, hyn, hyr, g5, q5, g6, hn, hres, hk2, hl2⟩ hM2 J2 hJ2 => ?_
        obtain ⟨vt, et, qt, _⟩ := q5.tail
        have hyl : ys.length ≤ 4 := nodup_len (n := 4) hyn fun x hx => by have := hyr x hx; omega
        obtain ⟨f, hf⟩ : ∃ f, k = f + 1 := ⟨k - 1, by omega⟩
        have c1 := containsI_eq qt.sl n
        rw [hf] at hres
        simp only [runI, List.drop_succ_cons, List.drop_zero] at hres
        by_cases hn0 : 0 ≤ n
        · by_cases hm : n ∈ ys
          · rw [if_neg (fun h => h.2 hm)] at hres
            rw [decide_eq_true hm] at c1
            simp [g288_0, hM2, hM, g5, g6, hn0, bounds, takeB, et, c1, g14, st, -Int.natCast_add]
            exact hJ _ hi ⟨hi, by simp, fun j hj => by
              by_cases e : j = i
              · subst e; exact hres
              · exact hno j (by omega), hk2, hl2⟩
          · rw [if_pos ⟨hn0, hm⟩] at hres
            rw [decide_eq_false hm] at c1
            by_cases hni : n = (i : Int)
            · rw [if_pos hni] at hres
              have hfind := find_at (oneI w) hi hno hres
              subst hni
              simp [g288_0, hM2, hM, g5, g6, bounds, takeB, et, c1]
              exact hR _ _ ⟨v5, by rw [roundR, if_pos hw, hfind]; rfl, by rw [roundR, if_pos hw, hfind]; exact q5.sl, hk2, hl2⟩
            · rw [if_neg hni] at hres
              obtain ⟨v', h3, e3, q3, k3, l3, b3⟩ := q5.one n (by simp; omega)
              have kk : Keeps h h3 := Keeps.far (n := h.length) hk2 k3 (Nat.le_refl _) fun j hj hv => by have := (q5.ge hv).1; omega
              obtain ⟨iy, ly⟩ := idxW (hs.keeps kk) hw (n := n) (by omega)
              obtain ⟨mm, rfl⟩ : ∃ mm : Nat, n = mm := ⟨n.toNat, by omega⟩
              obtain ⟨m2, hm2, hm3⟩ := getD_way hw (n := mm) (by omega)
              rw [hm2] at ly hres
              simp only [Int.toNat_natCast] at iy ly
              simp [g288_0, hM2, hM, g5, g6, bounds, takeB, et, c1, hni, fillL, rdS_last, e3, iy, ly]
              exact hJ2 f _ (by omega) ⟨v', ys ++ [(mm : Int)], m2, by simp; omega, by
                rw [List.nodup_append]
                exact ⟨hyn, by simp, fun a ha b hb e => by simp at hb; subst hb; subst e; exact hm ha⟩, fun x hx => by
                rcases List.mem_append.1 hx with h | h
                · exact hyr x h
                · simp at h; omega, by simp, by simpa using q3, by simp, hm3, by simpa using hres, kk, by show h.length ≤ h3.length; omega⟩
        · rw [if_neg (fun h => hn0 h.1)] at hres
          simp [g288_0, hM2, hM, g5, g6, hn0, g14, st, -Int.natCast_add]
          exact hJ _ hi ⟨hi, by simp, fun j hj => by
            by_cases e : j = i
            · subst e; exact hres
            · exact hno j (by omega), hk2, hl2⟩
      · have : i = 4 := by omega
        subst this
        simp [g288_1, hM, g14]
        exact bad (by rw [roundR, if_pos hw]; exact find_no _ hno) _ hk hln
  · have hl' : ¬ (w.length : Int) = 4 := by omega
    simp [g288, hs.len, hl']
    exact bad (by rw [roundR, show okW w = false by simp only [okW, hl, decide_false, Bool.false_and]]; rfl) _ (Keeps.refl _) (Nat.le_refl _)

theorem HasRoundS_ok {h : Heap} {v : V} {w : List Int} (hs : Sl h v w) :
    ∃ r h', call p 289 [v] h = some (r, h') ∧ ∃ o, r = .tup [o, .bool (roundR w).isSome] ∧ Sl h' o ((roundR w).getD []) ∧ Keeps h h' ∧ h.length ≤ h'.length := by
  have e1 := l1All_eq hs (-1) 3
  refine go (fn := g289) rfl rfl fun R hR => ?_
  have bad : roundR w = none → ∀ h', Keeps h h' → h.length ≤ h'.length → R (.tup [.nils, .bool false]) h' := fun hb h' hk hl => hR _ _ ⟨.nils, by rw [hb]; rfl, by rw [hb]; exact Sl.nil, hk, hl⟩
  by_cases hl : w.length = 4
  · have hl' : (w.length : Int) = 4 := by omega
    cases hall : (w.all fun n => decide (-1 ≤ n ∧ n ≤ 3)) with
    | false =>
      rw [hall] at e1
      simp [g289, hs.len, hl', e1]
      exact bad (by rw [roundR, show okW w = false by simp only [okW, hall, Bool.and_false]]; rfl) _ (Keeps.refl _) (Nat.le_refl _)
    | true =>
      have hw : okW w = true := by simp only [okW, hl, hall, decide_true, Bool.true_and]
      rw [hall] at e1
      simp [g289, hs.len, hl', e1]
      refine Wc_upM (M := [2, 3, 4, 5, 6, 17, 18, 19, 20, 21, 22, 23, 24, 25, 26, 27, 28, 29, 30, 31, 32, 33, 34, 35, 36, 37, 38, 39, 40, 41, 42, 43, 44, 45, 46, 47, 48, 49, 50, 51, 52, 53, 54, 55, 56, 57, 58, 59, 60, 61, 62, 63]) rfl 4 (fun i s => i ≤ 4 ∧ s.σ 17 = .v (vi i) ∧ (∀ j : Nat, j < i → oneI w j = none) ∧ Keeps h s.h ∧ h.length ≤ s.h.length) 0
        ⟨by omega, by simp, by omega, Keeps.refl _, Nat.le_refl _⟩ fun i s ⟨gi, g14, hno, hk, hln⟩ hM J hJ => ?_
      by_cases hi : i < 4
      · have hi' : (i : Int) < 4 := by omega
        have st : IntKind.i64.wrap ((i : Int) + 1) = (i + 1 : Nat) := by rw [IntWalk.i64_in] <;> omega
        obtain ⟨ix, ld⟩ := idxW (hs.keeps hk) hw (n := (i : Int)) (by omega)
        have ld2 := rdH_keep (Keeps.append s.h [⟨.own, [vi i]⟩]) ld
        simp only [Int.toNat_natCast] at ix ld2
        have hone : oneI w i = finS w i (runS w i 5 [(i : Int)] (atR' w i)) := by rw [← (one_eq hw hi).1]; rfl
        obtain ⟨m0, hm0, hm1⟩ := getD_way hw hi
        rw [hm0] at hone ld2
        simp [g289_1, hM, g14, hl', hi, hi', fillL, ix, ld2]
        refine Wc_dnM (M := [5, 6, 26, 27, 28, 29, 30, 31, 32, 33, 34, 35, 36, 37, 38, 39, 40, 41, 42, 43, 44, 45]) rfl (fun k t => ∃ (v5 : V) (ys : List Int) (n : Int), k + ys.length = 6 ∧ 0 < ys.length ∧ (∀ x ∈ ys, 0 ≤ x ∧ x ≤ 3) ∧ t.σ 5 = .v v5 ∧ Qs s.h.length t.h v5 ys ∧ t.σ 6 = .v (vi n) ∧ (-1 ≤ n ∧ n ≤ 3) ∧ oneI w i = finS w i (runS w i k ys n) ∧ Keeps h t.h ∧ h.length ≤ t.h.length) 5
          ⟨.slice s.h.length 0 1 (.k 1), [(i : Int)], m0, by simp, by simp, by simp; omega, by simp, Qs.lit s.h _ (Nat.le_refl _), by simp, hm1, hone, hk.trans (Keeps.append _ _), by simp; omega⟩ fun k t ⟨v5, ys, n, hky, hy0, hyr, g5, q5, g6, hn, hres, hk2, hl2⟩ hM2 J2 hJ2 => ?_
        have q5l := q5.sl.len
        -- the end of the way
        have endW' : oneI w i = finS w i ys → ∀ t2 : S, t2.h = t.h → t2.σ 5 = .v v5 → (∀ k, k ∉ [5, 6, 26, 27, 28, 29, 30, 31, 32, 33, 34, 35, 36, 37, 38, 39, 40, 41, 42, 43, 44, 45] → t2.σ k = t.σ k) → True := fun _ _ _ _ _ => trivial
        have last : ys.length ≤ 4 → ∃ m : Int, IntKind.i64.wrap ((ys.length : Int) - 1) = (ys.length - 1 : Nat) ∧ idxV 1 v5 (vi (ys.length - 1 : Nat)) = some (.ptr (bOf v5) (oOf v5 + (ys.length - 1))) ∧ rdH t.h (bOf v5) (oOf v5 + (ys.length - 1)) 1 = some [vi m] ∧ idxV 1 v (vi m) = some (.ptr (bOf v) (oOf v + m.toNat)) ∧ rdH t.h (bOf v) (oOf v + m.toNat) 1 = some [vi (atR' w m)] ∧ m = ys.getD (ys.length - 1) 0 := fun h4 => by
          have h5 : ys.length - 1 < ys.length := by omega
          have ix := q5.sl.idx 1 .i64 (ys.length - 1) h5
          have ld := q5.sl.loadI (ys.length - 1) h5
          simp only [Nat.mul_one] at ix
          have hm := hyr _ (List.getElem_mem h5)
          obtain ⟨iy, ly⟩ := idxW (hs.keeps hk2) hw hm
          exact ⟨ys[ys.length - 1], by rw [IntWalk.i64_in] <;> omega, ix, ld, iy, ly, (getD_at h5 0).symm⟩
        by_cases hcond : 0 ≤ n ∧ n ≠ (i : Int) ∧ ys.length ≤ 4
        · obtain ⟨hn0, hni, hy4⟩ := hcond
          obtain ⟨f, hf⟩ : ∃ f, k = f + 1 := ⟨k - 1, by omega⟩
          rw [hf] at hres
          simp only [runS] at hres
          rw [if_pos ⟨hn0, hni, hy4⟩] at hres
          have hy4i : (ys.length : Int) ≤ 4 := by omega
          obtain ⟨v', h3, e3, q3, k3, l3, b3⟩ := q5.one n (by omega)
          have kk : Keeps h h3 := Keeps.far (n := h.length) hk2 k3 (Nat.le_refl _) fun j hj hv => by have := (q5.ge hv).1; omega
          obtain ⟨iy, ly⟩ := idxW (hs.keeps kk) hw (n := n) (by omega)
          obtain ⟨mm, rfl⟩ : ∃ mm : Nat, n = mm := ⟨n.toNat, by omega⟩
          obtain ⟨m2, hm2, hm3⟩ := getD_way hw (n := mm) (by omega)
          rw [hm2] at ly hres
          simp only [Int.toNat_natCast] at iy ly
          simp [g289_0, hM2, hM, g5, g6, hni, q5l, hy4i, hy4, fillL, rdS_last, e3, iy, ly]
          exact hJ2 f _ (by omega) ⟨v', ys ++ [(mm : Int)], m2, by simp; omega, by simp, fun x hx => by
            rcases List.mem_append.1 hx with h | h
            · exact hyr x h
            · simp at h; omega, by simp, q3, by simp, hm3, hres, kk, by show h.length ≤ h3.length; omega⟩
        · have hstop : runS w i k ys n = ys := by
            cases k with
            | zero => rfl
            | succ f => simp only [runS]; rw [if_neg hcond]
          rw [hstop] at hres
          have fin : (if ys.length ≤ 4 then True else True) := by split <;> trivial
          have hnext : oneI w i = none → ∀ s' : S, s'.h = t.h → s'.σ 17 = .v (vi (i + 1 : Nat)) → J s' := fun h0 s' q1 q2 => hJ s' hi ⟨hi, q2, fun j hj => by
            by_cases e : j = i
            · subst e; exact h0
            · exact hno j (by omega), by rw [q1]; exact hk2, by rw [q1]; exact hl2⟩
          by_cases hy4 : ys.length ≤ 4
          · have hy4i : (ys.length : Int) ≤ 4 := by omega
            obtain ⟨m, l1, l2, l3, l4, l5, l6⟩ := last hy4
            by_cases hat : atR' w m = (i : Int)
            · have hsome : oneI w i = some ys := by rw [hres, finS, if_pos ⟨hy4, by rw [← l6]; exact hat⟩]
              have hfind := find_at (oneI w) hi hno hsome
              rw [hat] at l5
              by_cases hn0 : 0 ≤ n
              · by_cases hni : n = (i : Int)
                · subst hni
                  simp [g289_0, hM2, hM, g5, g6, q5l, hy4i, hy4, l1, l2, l3, l4, l5]
                  exact hR _ _ ⟨v5, by rw [roundR, if_pos hw, hfind]; rfl, by rw [roundR, if_pos hw, hfind]; exact q5.sl, hk2, hl2⟩
                · exact absurd ⟨hn0, hni, hy4⟩ hcond
              · simp [g289_0, hM2, hM, g5, g6, hn0, q5l, hy4i, hy4, l1, l2, l3, l4, l5]
                exact hR _ _ ⟨v5, by rw [roundR, if_pos hw, hfind]; rfl, by rw [roundR, if_pos hw, hfind]; exact q5.sl, hk2, hl2⟩
            · have hnone : oneI w i = none := by rw [hres, finS, if_neg (fun h => hat (by rw [l6]; exact h.2))]
              by_cases hn0 : 0 ≤ n
              · by_cases hni : n = (i : Int)
                · subst hni
                  simp [g289_0, hM2, hM, g5, g6, q5l, hy4i, hy4, l1, l2, l3, l4, l5, hat, g14, st, -Int.natCast_add]
                  exact hnext hnone _ rfl (by simp)
                · exact absurd ⟨hn0, hni, hy4⟩ hcond
              · simp [g289_0, hM2, hM, g5, g6, hn0, q5l, hy4i, hy4, l1, l2, l3, l4, l5, hat, g14, st, -Int.natCast_add]
                exact hnext hnone _ rfl (by simp)
          · have hy4i : ¬ (ys.length : Int) ≤ 4 := by omega
            have hnone : oneI w i = none := by rw [hres, finS, if_neg (fun h => hy4 h.1)]
            by_cases hn0 : 0 ≤ n
            · by_cases hni : n = (i : Int)
              · subst hni
                simp [g289_0, hM2, hM, g5, g6, q5l, hy4i, hy4, g14, st, -Int.natCast_add]
                exact hnext hnone _ rfl (by simp)
              · simp [g289_0, hM2, hM, g5, g6, hn0, hni, q5l, hy4i, hy4, g14, st, -Int.natCast_add]
                exact hnext hnone _ rfl (by simp)
            · simp [g289_0, hM2, hM, g5, g6, hn0, q5l, hy4i, hy4, g14, st, -Int.natCast_add]
              exact hnext hnone _ rfl (by simp)
      · have : i = 4 := by omega
        subst this
        simp [g289_1, hM, g14, hl']
        exact bad (by rw [roundR, if_pos hw]; exact find_no _ hno) _ hk hln
  · have hl' : ¬ (w.length : Int) = 4 := by omega
    simp [g289, hs.len, hl']
    exact bad (by rw [roundR, show okW w = false by simp only [okW, hl, decide_false, Bool.false_and]]; rfl) _ (Keeps.refl _) (Nat.le_refl _)
end GL

namespace GL
open Go

theorem drawHasRound_ok {h : Heap} {v : V} {bs : List Byte} (hs : Sl h v bs) : ∃ r h', call p 287 [v] h = some (r, h') ∧ ∃ (w : List Int), Sl h' r w ∧ Keeps h h' ∧ h.length ≤ h'.length := by
  have d0 := DC.start hs
  obtain ⟨a, h1, e1, ha, d1, k1, l1⟩ := d0.pick (by decide) 5 (by decide)
  obtain ⟨b, h2, e2, hb, d2, k2, l2⟩ := d1.pick (by decide) 5 (by decide)
  obtain ⟨c, h3, e3, hc, d3, k3, l3⟩ := d2.pick (by decide) 5 (by decide)
  obtain ⟨d, h4, e4, hd, d4, k4, l4⟩ := d3.pick (by decide) 5 (by decide)
  have w1 : IntKind.i64.wrap ((a : Int) - 1) = (a : Int) - 1 := by rw [IntWalk.i64_in] <;> omega
  have w2 : IntKind.i64.wrap ((b : Int) - 1) = (b : Int) - 1 := by rw [IntWalk.i64_in] <;> omega
  have w3 : IntKind.i64.wrap ((c : Int) - 1) = (c : Int) - 1 := by rw [IntWalk.i64_in] <;> omega
  have w4 : IntKind.i64.wrap ((d : Int) - 1) = (d : Int) - 1 := by rw [IntWalk.i64_in] <;> omega
  have dl := d4.lit [⟨.own, [vi ((a : Int) - 1), vi ((b : Int) - 1), vi ((c : Int) - 1), vi ((d : Int) - 1)]⟩]
  have sl := Sl.lit (h := h4) [(a : Int) - 1, (b : Int) - 1, (c : Int) - 1, (d : Int) - 1] 4 rfl [vi ((a : Int) - 1), vi ((b : Int) - 1), vi ((c : Int) - 1), vi ((d : Int) - 1)] rfl (.k 4) (by simp)
  obtain ⟨one, h5, e5, d5, k5, l5⟩ := dl.one (by decide) 20 (by decide)
  have hlt := d4.lt
  have sl5 := sl.but (.inr (by simp [bOf]; omega)) k5
  simp at e1 e2 e3 e4 e5 l1 l5
  refine go (fn := g287) rfl rfl fun R hR => ?_
  cases one with
  | false =>
    simp [g287, hs.cells, hs.cell, fillL, e1, e2, e3, e4, w1, w2, w3, w4, e5]
    exact hR _ _ ⟨_, sl5, d5.keep, by omega⟩
  | true =>
    obtain ⟨F, sd, _⟩ := sl5.sdF (α := Int) (Nat.le_refl 4)
    obtain ⟨u, F', eu, su, _⟩ := sd.suf (i := 1) (by simp)
    simp [g287, hs.cells, hs.cell, fillL, e1, e2, e3, e4, w1, w2, w3, w4, e5, bounds, takeB, eu]
    exact hR _ _ ⟨_, su.sl, d5.keep, by omega⟩

theorem keep_nil {c : Lk} {a : Ak} (h : keepL c a 4 = []) {k : Int} (hk : 0 ≤ k ∧ k ≤ 3) (hne : k ≠ a.who) : c.wr.getD a.item.toNat 0 ≠ k ∧ (a.w = true → k ∉ c.rd.getD a.item.toNat []) := by
  rw [keepL, List.filter_eq_nil_iff] at h
  have := h k (mem_upTo.2 (by omega))
  simp only [keepQ, Bool.and_eq_true, Bool.or_eq_true, decide_eq_true_eq, not_and, not_or] at this
  have h2 := this hne
  exact ⟨h2.1, h2.2⟩
theorem putS_one {n : Int} (hn : 0 ≤ n ∧ n ≤ 3) {row : List Int} (hr : row = [] ∨ row = [n]) : putS row n = [n] := by
  refine (putS_ext (row := row) ?_ hn (by simp) fun x => ?_).symm
  · rcases hr with h | h <;> subst h <;> simp; omega
  · rcases hr with h | h <;> subst h <;> simp
theorem getD_map {α : Type} (f : α → α) (xs : List α) {i : Nat} (hi : i < xs.length) (d : α) : (xs.map f).getD i d = f (xs.getD i d) := by
  rw [getD_in (by simpa using hi), getD_in hi]; simp
theorem good_step {c : Lk} {a : Ak} (hg : goodK c = true) (hc : lkCan c a = true) : goodK (lkStep c a) = true := by
  obtain ⟨g1, g2, g3, g4, g5, g6⟩ := of_decide_eq_true hg
  simp only [lkCan, askK, Bool.and_eq_true, decide_eq_true_eq, Bool.not_eq_true', decide_eq_false_iff_not] at hc
  obtain ⟨⟨⟨⟨hw, hov⟩, hit⟩, _⟩, hkeep⟩ := hc
  refine decide_eq_true ?_
  by_cases he : a.e = true
  · have hs : lkStep c a = ⟨c.rd.map (dropS a.who), c.wr.map (endW a.who), c.ov ++ [a.who]⟩ := by rw [lkStep, if_pos he]
    rw [hs]
    refine ⟨by simpa using g1, by simpa using g2, fun x hx => ?_, ?_, fun i hi => ?_, fun i hi => ?_⟩
    · rcases List.mem_append.1 hx with h | h
      · exact g3 x h
      · simp at h; omega
    · rw [List.nodup_append]
      exact ⟨g4, by simp, fun u hu w hw e => by simp at hw; subst hw; subst e; exact hov hu⟩
    · obtain ⟨q1, q2, q3⟩ := g5 i hi
      simp only [rowQ]
      rw [getD_map _ _ (by omega), getD_map _ _ (by omega)]
      refine ⟨dropS_good q1 _, ?_, fun h0 => ?_⟩
      · unfold endW; split <;> omega
      · by_cases hwe : c.wr.getD i 0 = a.who
        · exfalso; rw [endW, if_pos hwe] at h0; omega
        · have hew : endW a.who (c.wr.getD i 0) = c.wr.getD i 0 := by simp only [endW]; rw [if_neg hwe]
          rw [hew] at h0 ⊢
          rcases q3 h0 with h | h
          · left; rw [h]; rfl
          · right; rw [h, dropS]; simp; exact hwe
    · obtain ⟨q1, q2⟩ := g6 i hi
      show (c.wr.map _).getD i 0 ∉ _ ∧ ∀ x ∈ (c.rd.map _).getD i [], _
      rw [getD_map _ _ (by omega), getD_map _ _ (by omega)]
      refine ⟨fun hm => ?_, fun x hx hm => ?_⟩
      · rcases List.mem_append.1 hm with h | h
        · unfold endW at h
          split at h
          · have := g3 _ h; omega
          · exact q1 h
        · simp only [List.mem_singleton] at h
          unfold endW at h
          split at h
          · omega
          · rename_i hne; exact hne h
      · simp only [dropS, List.mem_filter, Bool.not_eq_true', decide_eq_false_iff_not] at hx
        rcases List.mem_append.1 hm with h | h
        · exact q2 x hx.1 h
        · simp at h; exact hx.2 h
  · have hnil : keepL c a 4 = [] := by
      have hk2 : a.e = true ∨ keepL c a 4 = [] := by simpa using hkeep
      rcases hk2 with h | h
      · exact absurd h he
      · exact h
    have hitn : a.item.toNat < 4 := by omega
    by_cases hwr : a.w = true
    · have hs : lkStep c a = ⟨c.rd, c.wr.set a.item.toNat a.who, c.ov⟩ := by rw [lkStep, if_neg he, if_pos hwr]
      rw [hs]
      have hgs : ∀ i, (c.wr.set a.item.toNat a.who).getD i 0 = if a.item.toNat = i then a.who else c.wr.getD i 0 := fun i => by
        rw [getD_set]
        by_cases h : a.item.toNat = i
        · rw [if_pos ⟨h, by omega⟩, if_pos h]
        · rw [if_neg (by omega), if_neg h]
      refine ⟨g1, by simpa using g2, g3, g4, fun i hi => ?_, fun i hi => ?_⟩
      · obtain ⟨q1, q2, q3⟩ := g5 i hi
        simp only [rowQ]
        rw [hgs]
        by_cases h : a.item.toNat = i
        · rw [if_pos h]
          refine ⟨q1, by omega, fun _ => ?_⟩
          have hsub : ∀ x ∈ c.rd.getD i [], x = a.who := fun x hx => by
            by_cases hxe : x = a.who
            · exact hxe
            · have hxr := (risB_facts q1).1 x hx
              exact absurd (by rw [h]; exact hx) ((keep_nil hnil hxr hxe).2 hwr)
          have hris := (risB_facts q1).2
          match hrow : c.rd.getD i [], hsub, hris with
          | [], _, _ => exact .inl rfl
          | [x], hsub, _ => right; rw [hsub x (by simp)]
          | x :: y :: _, hsub, hris =>
            exfalso
            have h1 := hsub x (by simp)
            have h2 := hsub y (by simp)
            have := List.rel_of_pairwise_cons hris (a' := y) (by simp)
            omega
        · rw [if_neg h]; exact ⟨q1, q2, q3⟩
      · obtain ⟨q1, q2⟩ := g6 i hi
        show (c.wr.set _ _).getD i 0 ∉ _ ∧ _
        rw [hgs]
        by_cases h : a.item.toNat = i
        · rw [if_pos h]; exact ⟨hov, q2⟩
        · rw [if_neg h]; exact ⟨q1, q2⟩
    · have hs : lkStep c a = ⟨c.rd.set a.item.toNat (putS (c.rd.getD a.item.toNat []) a.who), c.wr, c.ov⟩ := by rw [lkStep, if_neg he, if_neg hwr]
      rw [hs]
      have hgs : ∀ i, i < 4 → (c.rd.set a.item.toNat (putS (c.rd.getD a.item.toNat []) a.who)).getD i [] = if a.item.toNat = i then putS (c.rd.getD i []) a.who else c.rd.getD i [] := fun i hi => by
        rw [getD_in (by rw [List.length_set]; omega), List.getElem_set]
        by_cases h : a.item.toNat = i
        · subst h; rw [if_pos rfl, if_pos rfl]
        · rw [if_neg h, if_neg h]; exact (getD_in (by omega) []).symm
      refine ⟨by simpa using g1, g2, g3, g4, fun i hi => ?_, fun i hi => ?_⟩
      · obtain ⟨q1, q2, q3⟩ := g5 i hi
        simp only [rowQ]
        rw [hgs i hi]
        by_cases h : a.item.toNat = i
        · rw [if_pos h]
          refine ⟨putS_good _ _, q2, fun h0 => ?_⟩
          have hwe : c.wr.getD i 0 = a.who := by
            by_cases hne : c.wr.getD i 0 = a.who
            · exact hne
            · have := (keep_nil hnil (k := c.wr.getD i 0) ⟨h0, q2.2⟩ hne).1
              rw [h] at this; exact absurd rfl this
          rw [hwe] at q3 ⊢
          right; exact putS_one hw (q3 hw.1)
        · rw [if_neg h]; exact ⟨q1, q2, q3⟩
      · obtain ⟨q1, q2⟩ := g6 i hi
        show _ ∧ ∀ x ∈ (c.rd.set _ _).getD i [], _
        rw [hgs i hi]
        by_cases h : a.item.toNat = i
        · rw [if_pos h]
          refine ⟨q1, fun x hx hm => ?_⟩
          simp only [putS, List.mem_filter, Bool.or_eq_true, decide_eq_true_eq] at hx
          rcases hx.2 with h2 | h2
          · exact q2 x h2 hm
          · exact hov (h2 ▸ hm)
        · rw [if_neg h]; exact ⟨q1, q2⟩
theorem held_step {c : Lk} {a : Ak} (hg : goodK c = true) (hc : lkCan c a = true) : (a.e = true → heldL (lkStep c a) a.who 4 = []) ∧ (a.e = false → a.item ∈ heldL (lkStep c a) a.who 4) := by
  obtain ⟨g1, g2, g3, g4, g5, g6⟩ := of_decide_eq_true hg
  simp only [lkCan, askK, Bool.and_eq_true, decide_eq_true_eq, Bool.not_eq_true', decide_eq_false_iff_not] at hc
  obtain ⟨⟨⟨⟨hw, hov⟩, hit⟩, _⟩, hkeep⟩ := hc
  constructor
  · intro he
    have hs : lkStep c a = ⟨c.rd.map (dropS a.who), c.wr.map (endW a.who), c.ov ++ [a.who]⟩ := by rw [lkStep, if_pos he]
    rw [hs, held_nil]
    intro i hi
    show (c.wr.map _).getD i 0 ≠ _ ∧ _ ∉ (c.rd.map _).getD i []
    rw [getD_map _ _ (by omega), getD_map _ _ (by omega)]
    refine ⟨?_, by simp [dropS]⟩
    unfold endW; split
    · omega
    · assumption
  · intro he
    rw [heldL, List.mem_filter, mem_upTo]
    refine ⟨by omega, ?_⟩
    by_cases hwr : a.w = true
    · have hs : lkStep c a = ⟨c.rd, c.wr.set a.item.toNat a.who, c.ov⟩ := by rw [lkStep, if_neg (by rw [he]; simp), if_pos hwr]
      rw [hs]
      simp only [heldQ, getD_set, Bool.or_eq_true, decide_eq_true_eq]
      left; rw [if_pos ⟨trivial, by omega⟩]
    · have hs : lkStep c a = ⟨c.rd.set a.item.toNat (putS (c.rd.getD a.item.toNat []) a.who), c.wr, c.ov⟩ := by rw [lkStep, if_neg (by rw [he]; simp), if_neg hwr]
      rw [hs]
      simp only [heldQ, Bool.or_eq_true, decide_eq_true_eq]
      right
      rw [getD_in (by rw [List.length_set]; omega), List.getElem_set_self]
      simp [putS, mem_upTo]; omega
end GL

namespace GL
open Go

theorem waits_tail {h : Heap} {v : V} {bs : List Byte} (hb : Sl h v bs) : ∃ (u o1 o2 : V) (w r : List Int) (h1 h2 h3 : Heap) (ok : Bool), call p 287 [v] h = some (u, h1) ∧ call p 288 [u] h1 = some (.tup [o1, .bool ok], h2) ∧ call p 289 [u] h2 = some (.tup [o2, .bool ok], h3) ∧ call p 24 [o1, o2] h3 = some (.bool true, h3) ∧ Sl h3 u w ∧ Sl h3 o1 r ∧ (r = [] ∨ (okW w = true ∧ okRound w r = true)) := by
  obtain ⟨u, h1, e1, w, sw, k1, l1⟩ := drawHasRound_ok hb
  obtain ⟨_, h2, e2, o1, rfl, s1, k2, l2⟩ := HasRound_ok sw
  obtain ⟨_, h3, e3, o2, rfl, s2, k3, l3⟩ := HasRoundS_ok (sw.keeps k2)
  have e4 := sameInts_eq (s1.keeps k3) s2
  rw [decide_eq_true rfl] at e4
  refine ⟨u, o1, o2, w, _, h1, h2, h3, _, e1, e2, e3, e4, (sw.keeps k2).keeps k3, s1.keeps k3, ?_⟩
  cases hr : roundR w with
  | none => exact .inl rfl
  | some r =>
    right
    have hw : okW w = true := by
      cases h : okW w with
      | true => rfl
      | false => rw [roundR, h] at hr; cases hr
    refine ⟨hw, ?_⟩
    rw [roundR, if_pos hw] at hr
    obtain ⟨x, hx, hxr⟩ := List.exists_of_findSome?_eq_some hr
    have hx' := mem_upTo.1 hx
    obtain ⟨j, rfl⟩ : ∃ j : Nat, x = j := ⟨x.toNat, by omega⟩
    exact (one_eq hw (by omega)).2 r hxr
theorem waits_loop {w r : List Int} {h3 : Heap} {u o1 : V} (su : Sl h3 u w) (so : Sl h3 o1 r) (hr : r = [] ∨ (okW w = true ∧ okRound w r = true)) (s0 : S) (K : Ex → S → Prop) (hh : s0.h = h3) (g17 : s0.σ 17 = .v u) (g18 : s0.σ 18 = .v o1) (g146 : s0.σ 146 = .v (vi r.length)) (g147 : s0.σ 147 = .v (vi 0))
    (hK : ∀ s, K (.exit 0) s) : Wc p (.loop g280_0) s0 K := by
  refine Wc_upM (M := [4, 22, 147, 148, 149, 150, 151, 152, 153, 154, 155, 156, 157, 158, 159, 160, 161, 162, 163, 164, 165, 166]) rfl r.length (fun i s => i ≤ r.length ∧ s.σ 147 = .v (vi i) ∧ s.h = h3) 0 ⟨by omega, by simpa using g147, hh⟩ fun i s ⟨gi, g147, gh⟩ hM J hJ => ?_
  by_cases hi : i < r.length
  · obtain ⟨hw, hrr⟩ : okW w = true ∧ okRound w r = true := by
      rcases hr with h | h
      · subst h; simp at hi
      · exact h
    simp only [okRound, Bool.and_eq_true, decide_eq_true_eq] at hrr
    obtain ⟨⟨hr0, hr4⟩, hall⟩ := hrr
    have hq := all_range hall hi
    simp only [Bool.and_eq_true, decide_eq_true_eq] at hq
    obtain ⟨⟨q1, q2⟩, q3⟩ := hq
    have hm : (i + 1) % r.length < r.length := Nat.mod_lt _ (by omega)
    rw [getD_at hi, getD_at hm] at q3
    rw [getD_at hi] at q1 q2
    have ix := so.idx 1 .i64 i hi
    have ld := so.loadI i hi
    have iy := so.idx 1 .i64 _ hm
    have le := so.loadI _ hm
    simp only [Nat.mul_one] at ix iy
    obtain ⟨iz, lz⟩ := idxW su hw (n := r[i]) ⟨q1, q2⟩
    rw [q3] at lz
    have st := so.step hi
    have hne : ¬ (r.length : Int) = 0 := by omega
    have hne' : ¬ r.length = 0 := by omega
    have hmod : ((i : Int) + 1).tmod (r.length : Int) = ((i + 1) % r.length : Nat) := by
      rw [Int.tmod_eq_emod_of_nonneg (by omega), Int.natCast_emod]; rfl
    have wm : IntKind.i64.wrap (((i + 1) % r.length : Nat) : Int) = ((i + 1) % r.length : Nat) := by rw [IntWalk.i64_in] <;> omega
    have hnil : ¬ r = [] := fun h => by rw [h] at hi; simp at hi
    generalize r[i] = x at *
    generalize r[(i + 1) % r.length] = y at *
    simp [g280_0, hM, g17, g18, g146, g147, gh, hi, ix, ld, iz, lz, so.len, st, hne, hne', hnil, hmod, wm, iy, le, -Int.natCast_emod]
    exact hJ _ hi ⟨hi, by simp, rfl⟩
  · simp [g280_0, hM, g146, g147, hi]
    exact hK _

set_option maxRecDepth 20000 in
theorem FnWaits_ok {h : Heap} {va vb : V} {as bs : List Byte} (ha : Sl h va as) (hb : Sl h vb bs) : ∃ r h', call p 280 [va, vb] h = some (r, h') ∧ r = .bool true := by
  refine go (fn := g280) rfl rfl fun R hR => ?_
  by_cases hbig : (1048576 : Int) < IntKind.i64.wrap ((as.length : Int) + bs.length)
  · simp [g280, ha.len, hb.len, hbig]
    exact hR _ _ rfl
  · obtain ⟨_, h1, e1, v, c, a, F, rfl, hc, k1, l1⟩ := drawAskLock_ok ha
    obtain ⟨_, h2, e2, o2, G2, rfl, c2, f2, k2, l2⟩ := AskLock_ok hc a
    obtain ⟨_, h3, e3, o3, G3, rfl, c3, f3, k3, l3⟩ := AskLockS_ok (hc.keep k2) a
    have k23 := k2.trans k3
    obtain ⟨_, h4, e4, o4, rfl, s4, k4, l4⟩ := WaitsFor_ok (hc.keep k23) a
    obtain ⟨_, h5, e5, o5, rfl, s5, k5, l5⟩ := WaitsForS_ok (hc.keep (k23.trans k4)) a
    have k25 := (k23.trans k4).trans k5
    have k35 := (k3.trans k4).trans k5
    have f1 := sameLocks_same (c2.keep k35) (c3.keep (k4.trans k5))
    have f2 := sameInts_eq (s4.keeps k5) s5
    rw [decide_eq_true rfl] at f2
    have c2' := c2.keep k35
    have s4' := s4.keeps k5
    have s4l := s4'.len
    obtain ⟨who, item, w, e⟩ := a
    have hcc := hc
    obtain ⟨x, y, z, _, _, _, rfl, _, hx, hy, hz⟩ := hc
    have c2c := c2'
    obtain ⟨x2, y2, z2, _, _, _, rfl, _, p2, q2, s2⟩ := c2
    obtain ⟨x3, y3, z3, _, _, _, rfl, _, p3, q3, s3⟩ := c3
    -- what waits tells of the grant
    have hcond : wfB c ⟨who, item, w, e⟩ = true → (lkOK c ⟨who, item, w, e⟩ = decide ((wfR c ⟨who, item, w, e⟩).length = 0)) := fun hwf => by
      have hwf' := hwf
      simp only [wfB, Bool.and_eq_true, Bool.not_eq_true'] at hwf'
      rw [wfR, if_pos hwf, lkOK, lkCan, hwf'.1.1, hwf'.1.2]
      have he : e = false := hwf'.2
      subst he
      simp only [Bool.true_and, Bool.false_or]
      exact decide_eq_decide.2 List.length_eq_zero_iff.symm
    cases hok : lkOK c ⟨who, item, w, e⟩ with
    | false =>
      rw [hok] at e2 e3 hcond
      obtain ⟨u, o6, o7, ww, r, t1, t2, t3, ok, q1, q2', q3', q4, su, so, hr⟩ := waits_tail (hb.keeps (k1.trans k25))
      have sol := so.len
      cases hwf : wfB c ⟨who, item, w, e⟩ with
      | false =>
        rw [hwf] at e4 e5
        simp [g280, ha.len, hb.len, hbig, upd, hx.cells, hx.cell, hy.cells, hy.cell, hz.cells, hz.cell, p2.cell, q2.cell, s2.cell, p3.cell, q3.cell, s3.cell, e1, e2, e3, e4, e5, f1, f2, q1, q2', q3', q4, sol]
        refine waits_loop su so hr _ _ rfl (by simp) (by simp) (by simp) (by simp) fun s => ?_
        simp; exact hR _ _ rfl
      | true =>
        rw [hwf] at e4 e5
        have hlen : ¬ ((wfR c ⟨who, item, w, e⟩).length : Int) = 0 := by
          have := hcond hwf
          intro h0
          rw [decide_eq_true (by omega)] at this; cases this
        have hlen' : ¬ (wfR c ⟨who, item, w, e⟩).length = 0 := by omega
        have hnil : ¬ wfR c ⟨who, item, w, e⟩ = [] := fun h => hlen' (by rw [h]; rfl)
        simp [g280, ha.len, hb.len, hbig, upd, hx.cells, hx.cell, hy.cells, hy.cell, hz.cells, hz.cell, p2.cell, q2.cell, s2.cell, p3.cell, q3.cell, s3.cell, e1, e2, e3, e4, e5, f1, f2, s4l, hlen, hlen', hnil, q1, q2', q3', q4, sol]
        refine waits_loop su so hr _ _ rfl (by simp) (by simp) (by simp) (by simp) fun s => ?_
        simp; exact hR _ _ rfl
    | true =>
      rw [hok] at e2 e3 hcond
      have hok' := hok
      simp only [lkOK, Bool.and_eq_true] at hok'
      have hlr : lkR c ⟨who, item, w, e⟩ = lkStep c ⟨who, item, w, e⟩ := by rw [lkR, if_pos hok]
      have hgs := good_step hok'.1 hok'.2
      obtain ⟨hh1, hh2⟩ := held_step hok'.1 hok'.2
      rw [hlr] at c2c
      have hwho : 0 ≤ who ∧ who ≤ 3 := by
        have := hok'.2
        simp only [lkCan, askK, Bool.and_eq_true, decide_eq_true_eq] at this
        exact this.1.1.1.1
      obtain ⟨_, h6, e6, o6, rfl, s6, k6, l6⟩ := HeldBy_ok c2c hgs hwho
      obtain ⟨_, h7, e7, rfl, k7, l7⟩ := GoodLocks_ok (c2c.keep k6)
      rw [hgs] at e7
      have s6' := s6.keeps k7
      have s6l := s6'.len
      obtain ⟨u, o7, o8, ww, r, t1, t2, t3, ok, q1, q2', q3', q4, su, so, hr⟩ := waits_tail (hb.keeps (((k1.trans k25).trans k6).trans k7))
      have sol := so.len
      have hlen : wfB c ⟨who, item, w, e⟩ = true → (wfR c ⟨who, item, w, e⟩).length = 0 := fun hwf => of_decide_eq_true (hcond hwf).symm
      cases e with
      | true =>
        have hwf : wfB c ⟨who, item, w, true⟩ = false := by simp [wfB]
        rw [hwf] at e4 e5
        have hnil := hh1 rfl
        simp only at hnil
        rw [hnil] at s6l
        simp [g280, ha.len, hb.len, hbig, upd, hx.cells, hx.cell, hy.cells, hy.cell, hz.cells, hz.cell, p2.cell, q2.cell, s2.cell, p3.cell, q3.cell, s3.cell, e1, e2, e3, e4, e5, f1, f2, e6, e7, s6l, q1, q2', q3', q4, sol]
        refine waits_loop su so hr _ _ rfl (by simp) (by simp) (by simp) (by simp) fun s => ?_
        simp; exact hR _ _ rfl
      | false =>
        have hhas := has_eq s6' item
        have hmem := hh2 rfl
        simp only at hmem
        rw [decide_eq_true hmem] at hhas
        cases hwf : wfB c ⟨who, item, w, false⟩ with
        | false =>
          rw [hwf] at e4 e5
          simp [g280, ha.len, hb.len, hbig, upd, hx.cells, hx.cell, hy.cells, hy.cell, hz.cells, hz.cell, p2.cell, q2.cell, s2.cell, p3.cell, q3.cell, s3.cell, e1, e2, e3, e4, e5, f1, f2, e6, e7, s6l, hhas, q1, q2', q3', q4, sol]
          refine waits_loop su so hr _ _ rfl (by simp) (by simp) (by simp) (by simp) fun s => ?_
          simp; exact hR _ _ rfl
        | true =>
          rw [hwf] at e4 e5
          have h0 := hlen hwf
          have h0i : ((wfR c ⟨who, item, w, false⟩).length : Int) = 0 := by omega
          have hnil : wfR c ⟨who, item, w, false⟩ = [] := List.length_eq_zero_iff.1 h0
          simp [g280, ha.len, hb.len, hbig, upd, hx.cells, hx.cell, hy.cells, hy.cell, hz.cells, hz.cell, p2.cell, q2.cell, s2.cell, p3.cell, q3.cell, s3.cell, e1, e2, e3, e4, e5, f1, f2, s4l, hnil, e6, e7, s6l, hhas, q1, q2', q3', q4, sol]
          refine waits_loop su so hr _ _ rfl (by simp) (by simp) (by simp) (by simp) fun s => ?_
          simp; exact hR _ _ rfl
end GL

