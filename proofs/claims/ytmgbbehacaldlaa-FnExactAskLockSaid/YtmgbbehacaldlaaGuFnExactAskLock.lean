import Derived.ChangeArms
import Derived.IntWalk
import Derived.WideShapes
import Derived.Test.YtmgbbehacaldlaaGuFnExactAskLockA
/- What the functions of the law do, on the machine. -/
set_option linter.unusedSimpArgs false
set_option linter.unusedVariables false
set_option linter.unnecessarySimpa false
namespace GL
open Go

def Dd.of (p : Int × Bool) : Dd := ⟨p.1, p.2⟩
theorem Dd.of_rep (h : Heap) (p : Int × Bool) (cs : List V) (F : List Nat) (hr : Data.rep h p cs F) : Data.rep h (Dd.of p) cs F := by
  obtain ⟨c, d, F1, F2, rfl, rfl, ⟨rfl, rfl⟩, rfl, rfl⟩ := hr
  exact ⟨rfl, rfl⟩
def Hd.of (p : Int × List Dd × List (List Int)) : Hd := ⟨p.1, p.2.1, p.2.2⟩
theorem Hd.of_rep (h : Heap) (p : Int × List Dd × List (List Int)) (cs : List V) (F : List Nat) (hr : Data.rep h p cs F) : Data.rep h (Hd.of p) cs F := by
  obtain ⟨c, d, F1, F2, rfl, rfl, ⟨rfl, rfl⟩, e, f, G1, G2, rfl, rfl, ⟨x, rfl, hx⟩, ⟨y, rfl, hy⟩⟩ := hr
  exact ⟨x, y, G1, G2, rfl, by simp, hx, hy⟩
end GL

namespace GL
open Go

theorem Equal_eq {h : Heap} {v w : V} {xs ys : List Int} (hs : Sl h v xs) (ht : Sl h w ys) : call p 386 [v, w] h = some (.bool (decide (xs = ys)), h) := by
  refine go_eq (fn := g386) rfl rfl fun R hR => ?_
  by_cases hl : xs.length = ys.length
  · have hl2 : (xs.length : Int) = ys.length := by omega
    simp [g386, hs.len, ht.len, hl2]
    rw [← hl]
    refine Wc_upM (M := [4, 5, 13, 14, 15, 16, 17, 18, 19, 20, 21, 22, 23, 24, 25]) rfl xs.length (fun i s => s.σ 13 = .v (vi i) ∧ s.h = h ∧ xs.take i = ys.take i) 0 (by simp) fun i s ⟨g13, gh, hall⟩ hM J hJ => ?_
    by_cases hn : i < xs.length
    · have hn2 : i < ys.length := by omega
      have ix := hs.idx 1 .i64 i hn
      have iy := ht.idx 1 .i64 i hn2
      simp only [Nat.mul_one] at ix iy
      by_cases he : xs[i] = ys[i]
      · have lx := hs.loadI i hn
        rw [he] at lx
        simp [g386_0, hM, g13, gh, hn, ix, iy, lx, ht.loadI i hn2, hs.step hn]
        exact hJ _ hn ⟨by simp, rfl, by rw [List.take_succ_eq_append_getElem hn, List.take_succ_eq_append_getElem hn2, hall, he]⟩
      · simp [g386_0, hM, g13, gh, hn, ix, iy, hs.loadI i hn, ht.loadI i hn2, he]
        have : decide (xs = ys) = false := decide_eq_false fun e => by subst e; exact he rfl
        rw [this] at hR; exact hR
    · rw [List.take_of_length_le (by omega), List.take_of_length_le (by omega)] at hall
      rw [decide_eq_true hall] at hR
      simp [g386_0, hM, g13, gh, hn]; exact hR
  · have hl2 : ¬ (xs.length : Int) = ys.length := by omega
    have : decide (xs = ys) = false := decide_eq_false fun e => hl (by rw [e])
    rw [this] at hR
    simp [g386, hs.len, ht.len, hl2]; exact hR
end GL

namespace GL
open Go

end GL

namespace GL
open Go

end GL

namespace GL
open Go

end GL

namespace GL
open Go

theorem Od.one {α : Type} [Data α] {lo : Nat} {h h1 : Heap} {v : V} {xs : List α} {G G' : List Nat} (od : Od lo h v xs G) (k1 : Keeps h h1) (l1 : h.length ≤ h1.length) (hG : ∀ b ∈ G', h.length ≤ b) {x : α} {cs : List V} (hr : Data.rep h1 x cs G') (hx : xs.length ≤ 2 ^ 20) {k bytes : Nat} (hk : k = Data.sz α) (hb : bytes ≤ 2 ^ 8) :
    ∃ v' h2, appH k bytes v 1 cs (h1 ++ [⟨.own, cs⟩]) = some (v', h2) ∧ Od lo h2 v' (xs ++ [x]) (G ++ G') ∧ (∀ h0 : Heap, Keeps h0 h → h0.length ≤ lo → Keeps h0 h2) ∧ h1.length < h2.length := by
  have hge := fun i (hi : vB v i) => od.ge hi
  have kl : Keeps h1 (h1 ++ [⟨.own, cs⟩]) := Keeps.append h1 _
  have od1 : Od lo (h1 ++ [⟨.own, cs⟩]) v xs G := od.keeps ((k1.trans kl).p fun _ => True) (fun _ _ => trivial) (fun _ _ => trivial) (by simp; omega)
  have hnv : ∀ b ∈ G', ¬ vB v b := fun b hb hv => by have := (hge b hv).2; have := hG b hb; omega
  obtain ⟨v', h2, e, o2, kp, l2, b2⟩ := od1.app (zs := [x]) (G := G') (by simp) (.one (Data.keeps hr (kl.p _))) hnv hb (by simp; omega) hk rfl
  have k2 : KeepsP (fun i => ¬ vB v i) h1 h2 := fun i blk hi h3 h4 => kp i blk hi (kl i blk h3 h4) h4
  exact ⟨v', h2, e, o2, fun h0 hk0 hl0 => Keeps.far (n := lo) (hk0.trans k1) k2 hl0 fun i hi hv => by have := (hge i hv).1; omega, by simp at l2; omega⟩

/-! a house: a heard log, and a group for each of its deeds -/
structure Hs where
  heard : Hd
  groups : List (List Int)
instance hsData : Data Hs where
  sz := 4
  pos := by decide
  rep := fun h c cs F => ∃ x y z F1 F2 F3, cs = [vi c.heard.no, x, y, z] ∧ F = F1 ++ F2 ++ F3 ∧ SdF h x c.heard.deeds F1 ∧ SdF h y c.heard.rows F2 ∧ SdF h z c.groups F3
  len := by rintro h a cs F ⟨x, y, z, F1, F2, F3, rfl, _⟩; rfl
  ok := by rintro h a cs F ⟨x, y, z, F1, F2, F3, rfl, _, h1, h2, h3⟩; simp [allCell, h1.cell, h2.cell, h3.cell, cell_int]
  keeps := by
    rintro h h' a cs F ⟨x, y, z, F1, F2, F3, rfl, rfl, h1, h2, h3⟩ hk
    exact ⟨x, y, z, F1, F2, F3, rfl, rfl, h1.keeps (hk.mono fun b hb => by simp [hb]), h2.keeps (hk.mono fun b hb => by simp [hb]), h3.keeps (hk.mono fun b hb => by simp [hb])⟩
  lt := by
    rintro h a cs F b ⟨x, y, z, F1, F2, F3, rfl, rfl, h1, h2, h3⟩ hb
    rcases List.mem_append.1 hb with hb | hb
    · rcases List.mem_append.1 hb with hb | hb
      · exact h1.lt hb
      · exact h2.lt hb
    · exact h3.lt hb
def HsV (h : Heap) (v : V) (c : Hs) (F : List Nat) : Prop := ∃ x y z F1 F2 F3, v = .agg [vi c.heard.no, x, y, z] ∧ F = F1 ++ F2 ++ F3 ∧ SdF h x c.heard.deeds F1 ∧ SdF h y c.heard.rows F2 ∧ SdF h z c.groups F3
section
variable {h h' : Heap} {v w : V} {c : Hs} {F G : List Nat}
theorem HsV.keeps (hc : HsV h v c F) (hk : KeepsP (fun b => b ∈ F) h h') : HsV h' v c F := by
  obtain ⟨x, y, z, F1, F2, F3, rfl, rfl, h1, h2, h3⟩ := hc
  exact ⟨x, y, z, F1, F2, F3, rfl, rfl, h1.keeps (hk.mono fun b hb => by simp [hb]), h2.keeps (hk.mono fun b hb => by simp [hb]), h3.keeps (hk.mono fun b hb => by simp [hb])⟩
theorem HsV.keep (hc : HsV h v c F) (hk : Keeps h h') : HsV h' v c F := hc.keeps (hk.p _)
theorem HsV.lt (hc : HsV h v c F) {b : Nat} (hb : b ∈ F) : b < h.length := by
  obtain ⟨x, y, z, F1, F2, F3, rfl, rfl, h1, h2, h3⟩ := hc
  rcases List.mem_append.1 hb with hb | hb
  · rcases List.mem_append.1 hb with hb | hb
    · obtain ⟨_, h3, _⟩ := h1.lt hb; exact get_lt h3
    · obtain ⟨_, h3, _⟩ := h2.lt hb; exact get_lt h3
  · obtain ⟨_, h4, _⟩ := h3.lt hb; exact get_lt h4
end
def Hs.of (p : Hd × List (List Int)) : Hs := ⟨p.1, p.2⟩
theorem Hs.of_rep (h : Heap) (p : Hd × List (List Int)) (cs : List V) (F : List Nat) (hr : Data.rep h p cs F) : Data.rep h (Hs.of p) cs F := by
  obtain ⟨c, d, G1, G2, rfl, rfl, ⟨x, y, F1, F2, rfl, rfl, hx, hy⟩, ⟨z, rfl, hz⟩⟩ := hr
  exact ⟨x, y, z, F1, F2, G2, rfl, rfl, hx, hy, hz⟩
end GL

namespace GL
open Go

theorem SdF.ltF {α : Type} [Data α] {h : Heap} {v : V} {xs : List α} {F : List Nat} (hs : SdF h v xs F) {b : Nat} (hb : b ∈ F) : b < h.length := by
  obtain ⟨_, h9, _⟩ := hs.lt hb; exact get_lt h9
end GL

namespace GL
open Go

end GL

namespace GL
open Go

/-! what comes of deeds that are done in an order -/
structure Oc where
  order : List Int
  keys : List Int
  seen : List Int
end GL

namespace GL
open Go

def OcV (h : Heap) (v : V) (c : Oc) (F : List Nat) : Prop := ∃ x y z F1 F2 F3, v = .agg [x, y, z] ∧ F = F1 ++ F2 ++ F3 ∧ SdF h x c.order F1 ∧ SdF h y c.keys F2 ∧ SdF h z c.seen F3
end GL

namespace GL
open Go

end GL

namespace GL
open Go

section
variable {h h' : Heap} {v w : V} {c : Oc} {F G : List Nat}
theorem OcV.keeps (hc : OcV h v c F) (hk : KeepsP (fun b => b ∈ F) h h') : OcV h' v c F := by
  obtain ⟨x, y, z, F1, F2, F3, rfl, rfl, h1, h2, h3⟩ := hc
  exact ⟨x, y, z, F1, F2, F3, rfl, rfl, h1.keeps (hk.mono fun b hb => by simp [hb]), h2.keeps (hk.mono fun b hb => by simp [hb]), h3.keeps (hk.mono fun b hb => by simp [hb])⟩
theorem OcV.keep (hc : OcV h v c F) (hk : Keeps h h') : OcV h' v c F := hc.keeps (hk.p _)
theorem OcV.lt (hc : OcV h v c F) {b : Nat} (hb : b ∈ F) : b < h.length := by
  obtain ⟨x, y, z, F1, F2, F3, rfl, rfl, h1, h2, h3⟩ := hc
  rcases List.mem_append.1 hb with hb | hb
  · rcases List.mem_append.1 hb with hb | hb
    · exact h1.ltF hb
    · exact h2.ltF hb
  · exact h3.ltF hb
end
end GL

namespace GL
open Go

end GL

namespace GL
open Go

end GL

namespace GL
open Go

end GL

namespace GL
open Go

end GL

namespace GL
open Go

end GL

namespace GL
open Go

end GL

namespace GL
open Go

end GL

namespace GL
open Go

end GL

namespace GL
open Go

end GL

namespace GL
open Go

end GL

namespace GL
open Go

end GL

namespace GL
open Go

end GL

namespace GL
open Go

end GL

namespace GL
open Go

end GL

namespace GL
open Go

end GL

namespace GL
open Go

end GL

namespace GL
open Go

end GL

namespace GL
open Go

end GL

namespace GL
open Go

end GL

namespace GL
open Go

end GL

namespace GL
open Go

theorem common {n : Nat} {as bs : List Int} (ha : as.Nodup) (hb : bs.Nodup) (hin : ∀ x ∈ as ++ bs, 0 ≤ x ∧ x < (n : Int)) (hl : n < as.length + bs.length) : ∃ x, x ∈ as ∧ x ∈ bs := by
  refine Decidable.byContradiction fun hno => ?_
  have hnd : (as ++ bs).Nodup := List.nodup_append.2 ⟨ha, hb, fun x hx y hy e => by subst e; exact hno ⟨x, hx, hy⟩⟩
  have := nodup_len hnd hin
  rw [List.length_append] at this; omega
end GL

namespace GL
open Go

end GL

namespace GL
open Go

end GL

namespace GL
open Go

end GL

namespace GL
open Go

end GL

namespace GL
open Go

def agH (a b : List Int) (p : Int) : Prop := p.tdiv 12 ∈ a ∧ p.tmod 12 ∈ a ∧ p.tdiv 12 ∈ b ∧ p.tmod 12 ∈ b
instance (a b : List Int) (p : Int) : Decidable (agH a b p) := by unfold agH; infer_instance
end GL

namespace GL
open Go

end GL

namespace GL
open Go

end GL

namespace GL
open Go

end GL

namespace GL
open Go

end GL

namespace GL
open Go

theorem oneB {lo : Nat} {h : Heap} {v : V} {xs : List Int} (ho : Out lo h v xs) (x : Int) (hx : xs.length ≤ 2 ^ 20) :
    ∃ v' h', appH 1 8 v 1 [vi x] (h ++ [⟨.own, [vi x]⟩]) = some (v', h') ∧ Out lo h' v' (xs ++ [x]) ∧ KeepsP (fun i => ¬ vB v i) h h' ∧ h.length < h'.length ∧ ∀ i, vB v' i → h.length ≤ i := by
  have o3 : Out lo (h ++ [⟨.own, [vi x]⟩]) v xs := (Keeps.append h _).out ho (by simp)
  obtain ⟨v', h', e4, o4, k4, l4, b4⟩ := o3.app [x] (by simp) (bytes := 8) (by decide) (by simp; omega) (k := 1) rfl (n := 1) rfl (ys := [vi x]) rfl
  exact ⟨v', h', e4, o4, fun i blk hi h1 h2 => k4 i blk hi (Keeps.append h _ i blk h1 h2) h2, by simp at l4; omega, fun i hi => by have := b4 i hi; simp at this; omega⟩
end GL

namespace GL
open Go

end GL

namespace GL
open Go

end GL

namespace GL
open Go

end GL

namespace GL
open Go

structure Sp where
  kind : Int
  shard : Int
  key : Int
  src : Int
  n : Int
deriving DecidableEq
instance : Flat Sp := ⟨5, fun x => [vi x.kind, vi x.shard, vi x.key, vi x.src, vi x.n], fun _ => rfl, fun _ => rfl, by decide⟩
def okS (s : Sp) (at' : Int) : Prop :=
  (0 ≤ s.shard ∧ s.shard ≤ 2) ∧ (0 ≤ s.key ∧ s.key ≤ 3) ∧ ((s.kind = 1 ∧ s.src = 0 ∧ s.n = 0) ∨ (s.kind = 2 ∧ s.key = 0 ∧ (0 ≤ s.src ∧ s.src ≤ at' - 1) ∧ (-99 ≤ s.n ∧ s.n ≤ 99)) ∨ (s.kind = 3 ∧ (0 ≤ s.src ∧ s.src ≤ at' - 1) ∧ s.n = 0))
instance (s : Sp) (a : Int) : Decidable (okS s a) := by unfold okS; infer_instance
end GL

namespace GL
open Go

/-- numbers that are not too large -/
def smI (xs : List Int) : Prop := ∀ x ∈ xs, -1000000 ≤ x ∧ x ≤ 1000000
theorem smI.getD {xs : List Int} (h : smI xs) (i : Nat) : -1000000 ≤ xs.getD i 0 ∧ xs.getD i 0 ≤ 1000000 := by
  by_cases hi : i < xs.length
  · rw [getD_at hi]; exact h _ (List.getElem_mem hi)
  · rw [List.getD_eq_getElem?_getD, List.getElem?_eq_none (by omega)]; simp
theorem smI.set {xs : List Int} (h : smI xs) (i : Nat) {x : Int} (hx : -1000000 ≤ x ∧ x ≤ 1000000) : smI (xs.set i x) := fun y hy => by
  rcases List.mem_or_eq_of_mem_set hy with h1 | h1
  · exact h y h1
  · rw [h1]; exact hx
end GL

namespace GL
open Go

def upTo (n : Nat) : List Int := (List.range n).map fun (i : Nat) => (i : Int)
theorem upTo_succ (n : Nat) : upTo (n + 1) = upTo n ++ [(n : Int)] := by simp [upTo, List.range_succ]
theorem upTo_len (n : Nat) : (upTo n).length = n := by simp [upTo]
theorem mem_upTo {n : Nat} {x : Int} : x ∈ upTo n ↔ 0 ≤ x ∧ x < n := by
  simp only [upTo, List.mem_map, List.mem_range]
  constructor
  · rintro ⟨i, hi, rfl⟩; omega
  · intro h; exact ⟨x.toNat, by omega, by omega⟩
end GL

namespace GL
open Go

end GL

namespace GL
open Go

/-- a list of lists of one's own, each of which may grow -/
def Pcs (lo : Nat) (h : Heap) (b : Nat) (xs : List (List Int)) : Prop :=
  ∃ rs : List V, h[b]? = some ⟨.own, rs⟩ ∧ rs.length = xs.length ∧ lo ≤ b ∧ (∀ k (hr : k < rs.length) (hx : k < xs.length), Out (b + 1) h rs[k] xs[k]) ∧ ∀ j k (hj : j < rs.length) (hk : k < rs.length), j ≠ k → ∀ i, vB rs[j] i → ¬ vB rs[k] i
theorem Pcs.load {lo : Nat} {h : Heap} {b : Nat} {xs : List (List Int)} (hp : Pcs lo h b xs) {k : Nat} (hk : k < xs.length) : ∃ v, rdH h b k 1 = some [v] ∧ Out (b + 1) h v xs[k] := by
  obtain ⟨rs, hb, hl, h1, h2, h3⟩ := hp
  have hk' : k < rs.length := by omega
  refine ⟨rs[k], ?_, h2 k hk' hk⟩
  rw [rdH_at hb (by simp)]
  simp only [cut]
  rw [if_pos (by show k + 1 ≤ rs.length; omega), List.drop_eq_getElem_cons hk']; rfl
theorem Pcs.push {lo : Nat} {h : Heap} {b : Nat} {xs : List (List Int)} (hp : Pcs lo h b xs) {k : Nat} (hk : k < xs.length) (x : Int) (hx : xs[k].length ≤ 2 ^ 20) {v : V} (hv : rdH h b k 1 = some [v]) :
    ∃ v' h1 h2, appH 1 8 v 1 [vi x] (h ++ [⟨.own, [vi x]⟩]) = some (v', h1) ∧ v'.cells = [v'] ∧ v'.cell = true ∧ wrH h1 b k [v'] = some h2 ∧ Pcs lo h2 b (xs.set k (xs[k] ++ [x])) ∧ KeepsP (fun i => i < lo) h h2 ∧ h.length < h2.length := by
  obtain ⟨rs, hb, hl, h1, h2, h3⟩ := hp
  have hk' : k < rs.length := by omega
  have hv' : v = rs[k] := by
    rw [rdH_at hb (by simp)] at hv
    simp only [cut] at hv
    rw [if_pos (by show k + 1 ≤ rs.length; omega), List.drop_eq_getElem_cons hk'] at hv
    have := Option.some.inj hv
    exact ((List.cons.inj this).1).symm
  subst hv'
  obtain ⟨v', g1, e1, o1, k1, l1, b1⟩ := oneB (h2 k hk' hk) x hx
  have hbl := get_lt hb
  have hb1 : g1[b]? = some ⟨.own, rs⟩ := k1 b _ (fun hv => by have := ((h2 k hk' hk).ge hv).1; omega) hb (by simp)
  refine ⟨v', g1, g1.set b ⟨.own, rs.set k v'⟩, e1, o1.sl.cells, o1.sl.cell, ?_, ?_, fun i blk hi hbi hl2 => ?_, by simp; omega⟩
  · rw [wrH_at hb1 rfl]
    simp only [lay, List.length_singleton]
    have hset : rs.set k v' = rs.take k ++ [v'] ++ rs.drop (k + 1) := by rw [List.set_eq_take_append_cons_drop, if_pos hk']; simp
    rw [if_pos (by show k + 1 ≤ rs.length; omega), hset]; rfl
  · have kb : KeepsP (fun i => i ≠ b) g1 (g1.set b ⟨.own, rs.set k v'⟩) := fun i blk hi hbi _ => by rw [List.getElem?_set_ne (Ne.symm hi)]; exact hbi
    have gb : ∀ j (hj : j < rs.length) i, vB rs[j] i → i ≠ b := fun j hj i hv => by
      have := ((h2 j hj (by omega)).ge hv).1; omega
    refine ⟨rs.set k v', by rw [List.getElem?_set_self (get_lt hb1)], by simp [hl], h1, fun j hj hxj => ?_, fun j j2 hj hj2 hne i hv hv2 => ?_⟩
    · simp only [List.length_set] at hj hxj
      by_cases hjk : k = j
      · subst hjk
        simp only [List.getElem_set_self]
        exact o1.keeps kb (fun i hi => by have := (o1.ge hi).1; omega) (by simp)
      · rw [List.getElem_set_ne hjk, List.getElem_set_ne hjk]
        have hnv : ∀ i, vB rs[j] i → ¬ vB rs[k] i := h3 j k hj hk' (fun e => hjk e.symm)
        exact ((h2 j hj hxj).keeps k1 hnv (by omega)).keeps kb (fun i hi => gb j hj i hi) (by simp)
    · simp only [List.length_set] at hj hj2
      by_cases hjk : k = j
      · subst hjk
        rw [List.getElem_set_self] at hv
        rw [List.getElem_set_ne hne] at hv2
        have := b1 i hv
        have := ((h2 j2 hj2 (by omega)).ge hv2).2
        omega
      · rw [List.getElem_set_ne hjk] at hv
        by_cases hjk2 : k = j2
        · subst hjk2
          rw [List.getElem_set_self] at hv2
          have := b1 i hv2
          have := ((h2 j hj (by omega)).ge hv).2
          omega
        · rw [List.getElem_set_ne hjk2] at hv2
          exact h3 j j2 hj hj2 hne i hv hv2
  · have h5 := k1 i blk (fun hv => by have := ((h2 k hk' hk).ge hv).1; omega) hbi hl2
    rw [List.getElem?_set_ne (by omega)]; exact h5
theorem reps_rows {h : Heap} {lo : Nat} : ∀ {rs : List V} {xs : List (List Int)}, rs.length = xs.length → (∀ k (hr : k < rs.length) (hx : k < xs.length), Out lo h rs[k] xs[k]) → ∃ F, Reps h xs rs F ∧ ∀ b ∈ F, lo ≤ b
  | [], [], _, _ => ⟨[], .nil, by simp⟩
  | [], _ :: _, hl, _ => by simp at hl
  | _ :: _, [], hl, _ => by simp at hl
  | r :: rs, x :: xs, hl, ho => by
    obtain ⟨F1, s1, f1⟩ := (ho 0 (by simp) (by simp)).fr
    obtain ⟨F2, s2, f2⟩ := reps_rows (rs := rs) (xs := xs) (by simpa using hl) fun k hr hx => ho (k + 1) (by simp; omega) (by simp; omega)
    refine ⟨F1 ++ F2, ⟨[r], rs, F1, F2, rfl, rfl, ⟨r, rfl, s1⟩, s2⟩, fun b hb => ?_⟩
    rcases List.mem_append.1 hb with h | h
    · exact f1.ge b h
    · exact f2 b h
theorem Pcs.sdF {lo : Nat} {h : Heap} {b : Nat} {xs : List (List Int)} (hp : Pcs lo h b xs) (hx : xs.length < 2 ^ 63) : ∃ F, SdF h (.slice b 0 xs.length (.k xs.length)) xs F ∧ ∀ i ∈ F, lo ≤ i := by
  obtain ⟨rs, hb, hl, h1, h2, h3⟩ := hp
  obtain ⟨F, hr, hF⟩ := reps_rows hl h2
  have hsz : Data.sz (List Int) = 1 := rfl
  refine ⟨b :: F, ⟨hx, .inr ⟨b, 0, .k xs.length, rfl, Nat.le_refl _, .inr ⟨_, rs, F, rfl, hb, by simp, ?_, hr⟩⟩⟩, fun i hi => ?_⟩
  · rw [hsz, Nat.mul_one, ← hl]; simp [cut]
  · rcases List.mem_cons.1 hi with h | h
    · omega
    · have := hF i h; omega
theorem Pcs.start (h : Heap) (n : Nat) : Pcs h.length (h ++ [⟨.own, List.replicate n V.nils⟩]) h.length (List.replicate n []) :=
  ⟨List.replicate n .nils, by simp, by simp, Nat.le_refl _, fun k hr hx => by rw [List.getElem_replicate, List.getElem_replicate]; exact Out.nil (by simp), fun j k hj hk _ i hv => by rw [List.getElem_replicate] at hv; obtain ⟨_, _, _, e⟩ := hv; cases e⟩

end GL

namespace GL
open Go

end GL

namespace GL
open Go

end GL

namespace GL
open Go

end GL

namespace GL
open Go

/-- a list of one's own of lists that do not change -/
def Rws (lo : Nat) (h : Heap) (b : Nat) (xs : List (List Int)) : Prop :=
  ∃ rs : List V, h[b]? = some ⟨.own, rs⟩ ∧ rs.length = xs.length ∧ lo ≤ b ∧ ∀ k (hr : k < rs.length) (hx : k < xs.length), ∃ F, SdF h rs[k] xs[k] F ∧ ∀ i ∈ F, b < i
theorem Rws.keep {lo : Nat} {h h' : Heap} {b : Nat} {xs : List (List Int)} (hp : Rws lo h b xs) (hk : Keeps h h') : Rws lo h' b xs := by
  obtain ⟨rs, h1, h2, h3, h4⟩ := hp
  exact ⟨rs, hk _ _ h1 (by simp), h2, h3, fun k hr hx => by obtain ⟨F, q1, q2⟩ := h4 k hr hx; exact ⟨F, q1.keep hk, q2⟩⟩
theorem Rws.load {lo : Nat} {h : Heap} {b : Nat} {xs : List (List Int)} (hp : Rws lo h b xs) {k : Nat} (hk : k < xs.length) : ∃ v F, rdH h b k 1 = some [v] ∧ SdF h v xs[k] F ∧ ∀ i ∈ F, b < i := by
  obtain ⟨rs, hb, hl, h1, h2⟩ := hp
  have hk' : k < rs.length := by omega
  obtain ⟨F, q1, q2⟩ := h2 k hk' hk
  refine ⟨rs[k], F, ?_, q1, q2⟩
  rw [rdH_at hb (by simp)]
  simp only [cut]
  rw [if_pos (by show k + 1 ≤ rs.length; omega), List.drop_eq_getElem_cons hk']; rfl
theorem Rws.put {lo : Nat} {h : Heap} {b : Nat} {xs : List (List Int)} (hp : Rws lo h b xs) {k : Nat} (hk : k < xs.length) {w : V} {ys : List Int} {G : List Nat} (hw : SdF h w ys G) (hG : ∀ i ∈ G, b < i) :
    ∃ h2, wrH h b k [w] = some h2 ∧ Rws lo h2 b (xs.set k ys) ∧ KeepsP (fun i => i < lo) h h2 ∧ h2.length = h.length := by
  obtain ⟨rs, hb, hl, h1, h2⟩ := hp
  have hk' : k < rs.length := by omega
  have kb : KeepsP (fun i => i ≠ b) h (h.set b ⟨.own, rs.set k w⟩) := fun i blk hi hbi _ => by rw [List.getElem?_set_ne (Ne.symm hi)]; exact hbi
  refine ⟨h.set b ⟨.own, rs.set k w⟩, ?_, ⟨rs.set k w, by rw [List.getElem?_set_self (get_lt hb)], by simp [hl], h1, fun j hj hxj => ?_⟩, kb.mono fun i hi => by omega, by simp⟩
  · rw [wrH_at hb rfl]
    simp only [lay, List.length_singleton]
    have hset : rs.set k w = rs.take k ++ [w] ++ rs.drop (k + 1) := by rw [List.set_eq_take_append_cons_drop, if_pos hk']; simp
    rw [if_pos (by show k + 1 ≤ rs.length; omega), hset]; rfl
  · simp only [List.length_set] at hj hxj
    by_cases hjk : k = j
    · subst hjk
      simp only [List.getElem_set_self]
      exact ⟨G, hw.keeps (kb.mono fun i hi => by have := hG i hi; omega), hG⟩
    · rw [List.getElem_set_ne hjk, List.getElem_set_ne hjk]
      obtain ⟨F, q1, q2⟩ := h2 j hj hxj
      exact ⟨F, q1.keeps (kb.mono fun i hi => by have := q2 i hi; omega), q2⟩
theorem reps_rws {h : Heap} {b : Nat} : ∀ {rs : List V} {xs : List (List Int)}, rs.length = xs.length → (∀ k (hr : k < rs.length) (hx : k < xs.length), ∃ F, SdF h rs[k] xs[k] F ∧ ∀ i ∈ F, b < i) → ∃ F, Reps h xs rs F ∧ ∀ i ∈ F, b < i
  | [], [], _, _ => ⟨[], .nil, by simp⟩
  | [], _ :: _, hl, _ => by simp at hl
  | _ :: _, [], hl, _ => by simp at hl
  | r :: rs, x :: xs, hl, ho => by
    obtain ⟨F1, s1, f1⟩ := ho 0 (by simp) (by simp)
    obtain ⟨F2, s2, f2⟩ := reps_rws (rs := rs) (xs := xs) (by simpa using hl) fun k hr hx => ho (k + 1) (by simp; omega) (by simp; omega)
    refine ⟨F1 ++ F2, ⟨[r], rs, F1, F2, rfl, rfl, ⟨r, rfl, s1⟩, s2⟩, fun b hb => ?_⟩
    rcases List.mem_append.1 hb with h | h
    · exact f1 b h
    · exact f2 b h
theorem Rws.sdF {lo : Nat} {h : Heap} {b : Nat} {xs : List (List Int)} (hp : Rws lo h b xs) (hx : xs.length < 2 ^ 63) : ∃ F, SdF h (.slice b 0 xs.length (.k xs.length)) xs F ∧ ∀ i ∈ F, lo ≤ i := by
  obtain ⟨rs, hb, hl, h1, h2⟩ := hp
  obtain ⟨F, hr, hF⟩ := reps_rws hl h2
  have hsz : Data.sz (List Int) = 1 := rfl
  refine ⟨b :: F, ⟨hx, .inr ⟨b, 0, .k xs.length, rfl, Nat.le_refl _, .inr ⟨_, rs, F, rfl, hb, by simp, ?_, hr⟩⟩⟩, fun i hi => ?_⟩
  · rw [hsz, Nat.mul_one, ← hl]; simp [cut]
  · rcases List.mem_cons.1 hi with h | h
    · omega
    · have := hF i h; omega
theorem Rws.start (h : Heap) (n : Nat) : Rws h.length (h ++ [⟨.own, List.replicate n V.nils⟩]) h.length (List.replicate n []) :=
  ⟨List.replicate n .nils, by simp, by simp, Nat.le_refl _, fun k hr hx => by rw [List.getElem_replicate, List.getElem_replicate]; exact ⟨[], .nil, by simp⟩⟩

end GL

namespace GL
open Go

end GL

namespace GL
open Go

end GL

namespace GL
open Go

end GL

namespace GL
open Go

end GL

namespace GL
open Go

end GL

namespace GL
open Go

structure Lk where
  rd : List (List Int)
  wr : List Int
  ov : List Int
structure Ak where
  who : Int
  item : Int
  w : Bool
  e : Bool
abbrev av (a : Ak) : V := .agg [vi a.who, vi a.item, .bool a.w, .bool a.e]
def LkV (h : Heap) (v : V) (c : Lk) (F : List Nat) : Prop := ∃ x y z F1 F2 F3, v = .agg [x, y, z] ∧ F = F1 ++ F2 ++ F3 ∧ SdF h x c.rd F1 ∧ SdF h y c.wr F2 ∧ SdF h z c.ov F3
section
variable {h h' : Heap} {v : V} {c : Lk} {F : List Nat}
theorem LkV.keeps (hc : LkV h v c F) (hk : KeepsP (fun b => b ∈ F) h h') : LkV h' v c F := by
  obtain ⟨x, y, z, F1, F2, F3, rfl, rfl, hx, hy, hz⟩ := hc
  exact ⟨x, y, z, F1, F2, F3, rfl, rfl, hx.keeps (hk.mono fun b hb => by simp [hb]), hy.keeps (hk.mono fun b hb => by simp [hb]), hz.keeps (hk.mono fun b hb => by simp [hb])⟩
theorem LkV.keep (hc : LkV h v c F) (hk : Keeps h h') : LkV h' v c F := hc.keeps (hk.p _)
theorem LkV.lt (hc : LkV h v c F) {b : Nat} (hb : b ∈ F) : b < h.length := by
  obtain ⟨x, y, z, F1, F2, F3, rfl, rfl, hx, hy, hz⟩ := hc
  rcases List.mem_append.1 hb with hb | hb
  · rcases List.mem_append.1 hb with hb | hb
    · exact hx.ltF hb
    · exact hy.ltF hb
  · exact hz.ltF hb
end
def rowQ (c : Lk) (i : Nat) : Prop := risB 0 3 (c.rd.getD i []) = true ∧ (-1 ≤ c.wr.getD i 0 ∧ c.wr.getD i 0 ≤ 3) ∧ (0 ≤ c.wr.getD i 0 → c.rd.getD i [] = [] ∨ c.rd.getD i [] = [c.wr.getD i 0])
def goodLk (c : Lk) : Prop := c.rd.length = 4 ∧ c.wr.length = 4 ∧ (∀ x ∈ c.ov, 0 ≤ x ∧ x ≤ 3) ∧ c.ov.Nodup ∧ (∀ i, i < 4 → rowQ c i) ∧ ∀ i, i < 4 → c.wr.getD i 0 ∉ c.ov ∧ ∀ x ∈ c.rd.getD i [], x ∉ c.ov
instance (c : Lk) (i : Nat) : Decidable (rowQ c i) := by unfold rowQ; infer_instance
instance (c : Lk) : Decidable (goodLk c) := by unfold goodLk; infer_instance
def goodK (c : Lk) : Bool := decide (goodLk c)
theorem goodK_no {c : Lk} (h : ¬ goodLk c) : goodK c = false := decide_eq_false h
theorem isDealer_eq (n : Int) (h : Heap) : call p 384 [vi n] h = some (.bool (decide (0 ≤ n ∧ n ≤ 3)), h) := by
  refine go_eq (fn := g384) rfl rfl fun R hR => ?_
  simp [g384, -Bool.decide_and]; exact hR
theorem isItem_eq (n : Int) (h : Heap) : call p 405 [vi n] h = some (.bool (decide (0 ≤ n ∧ n ≤ 3)), h) := by
  refine go_eq (fn := g405) rfl rfl fun R hR => ?_
  simp [g405, -Bool.decide_and]; exact hR
theorem ris4_len {r : List Int} (h : risB 0 3 r = true) : r.length ≤ 4 := by
  obtain ⟨h1, h2⟩ := risB_facts h
  exact rising_len (n := 4) h2 fun x hx => by have := h1 x hx; omega

theorem GoodLocks_ok {h : Heap} {v : V} {c : Lk} {F : List Nat} (hc : LkV h v c F) : ∃ r h', call p 286 [v] h = some (r, h') ∧ r = .bool (goodK c) ∧ Keeps h h' ∧ h.length ≤ h'.length := by
  obtain ⟨x, y, z, F1, F2, F3, rfl, _, hx, hy, hz⟩ := hc
  refine go (fn := g286) rfl rfl fun R hR => ?_
  have bad : ¬ goodLk c → ∀ h', Keeps h h' → h.length ≤ h'.length → R (.bool false) h' := fun hb h' hk hl => hR _ _ ⟨by rw [goodK_no hb], hk, hl⟩
  by_cases c1 : c.rd.length = 4
  · have c1i : (c.rd.length : Int) = 4 := by omega
    by_cases c2 : c.wr.length = 4
    · have c2i : (c.wr.length : Int) = 4 := by omega
      simp [g286, hx.cells, hx.cell, hy.cells, hy.cell, hz.cells, hz.cell, upd, hx.len, hy.len, hz.len, c1i, c2i]
      refine Wc_upM (M := [2, 3, 4, 21, 22, 23, 24, 25, 26, 27, 28, 29, 30, 31, 32, 33, 34, 35, 36, 37]) rfl c.ov.length (fun i s => i ≤ c.ov.length ∧ s.σ 21 = .v (vi i) ∧ s.L 1 = (1, [x, y, z]) ∧ s.h = h ∧ (∀ x ∈ c.ov.take i, 0 ≤ x ∧ x ≤ 3) ∧ (c.ov.take i).Nodup) 0
        ⟨by omega, by simp, by simp [upd], by simp, by simp, by simp⟩ fun i s ⟨gi, g21, gL, gh, ha, hn⟩ hM J hJ => ?_
      by_cases hi : i < c.ov.length
      · have ix := hz.idx 1 .i64 i hi
        simp only [Nat.mul_one] at ix
        have ld := hz.sl.loadI i hi
        have st := hz.step hi
        obtain ⟨pu, Gp, ep, spre, _⟩ := hz.pre (i := i) (by omega)
        have hmem : c.ov[i] ∈ c.ov := List.getElem_mem hi
        have e1 := containsI_eq spre.sl c.ov[i]
        have e2 := isDealer_eq c.ov[i] h
        have htk := List.take_succ_eq_append_getElem hi
        by_cases hd : 0 ≤ c.ov[i] ∧ c.ov[i] ≤ 3
        · simp only [decide_eq_true hd] at e2
          by_cases hdup : c.ov[i] ∈ c.ov.take i
          · simp only [decide_eq_true hdup] at e1
            have hb : ¬ goodLk c := fun hg => by
              have h4 := hg.2.2.2.1
              rw [← List.take_append_drop i c.ov, List.drop_eq_getElem_cons hi, List.nodup_append] at h4
              exact h4.2.2 _ hdup _ (List.mem_cons_self) rfl
            generalize c.ov[i] = w at *
            simp [g286_0, hM, g21, gL, gh, hi, ix, ld, e2, bounds, takeB, ep, e1]
            exact bad hb _ (Keeps.refl _) (Nat.le_refl _)
          · simp only [decide_eq_false hdup] at e1
            have hn2 : (c.ov.take (i + 1)).Nodup := by
              rw [htk, List.nodup_append]
              exact ⟨hn, by simp, fun a ha b hb e => by simp at hb; subst hb; subst e; exact hdup ha⟩
            have ha2 : ∀ x ∈ c.ov.take (i + 1), 0 ≤ x ∧ x ≤ 3 := fun x hx => by
              rcases (mem_take_succ hi).1 hx with h | h
              · exact ha x h
              · rw [h]; exact hd
            generalize c.ov[i] = w at *
            simp [g286_0, hM, g21, gL, gh, hi, ix, ld, e2, bounds, takeB, ep, e1, st]
            exact hJ _ hi ⟨hi, by simp, by simp [gL], rfl, ha2, hn2⟩
        · simp only [decide_eq_false hd] at e2
          have hb : ¬ goodLk c := fun hg => hd (hg.2.2.1 _ hmem)
          generalize c.ov[i] = w at *
          simp [g286_0, hM, g21, gL, gh, hi, ix, ld, e2]
          exact bad hb _ (Keeps.refl _) (Nat.le_refl _)
      · have : i = c.ov.length := by omega
        subst this
        rw [List.take_length] at ha hn
        simp [g286_0, hM, g21, gL, gh, hx.len, c1i]
        refine Wc_upM (M := [2, 5, 6, 7, 41, 42, 43, 44, 45, 46, 47, 48, 49, 50, 51, 52, 53, 54, 55, 56, 57, 58, 59, 60, 61, 62, 63, 64, 65, 66, 67, 68, 69, 70, 71, 72, 73, 74, 75, 76, 77, 78, 79, 80, 81, 82, 83, 84, 85, 86, 87]) rfl 4 (fun i s => i ≤ 4 ∧ s.σ 41 = .v (vi i) ∧ s.L 1 = (1, [x, y, z]) ∧ Keeps h s.h ∧ h.length ≤ s.h.length ∧ (∀ j, j < i → rowQ c j) ∧ ∀ j, j < i → c.wr.getD j 0 ∉ c.ov ∧ ∀ x ∈ c.rd.getD j [], x ∉ c.ov) 0
          ⟨by omega, by simp, by simp [gL], Keeps.refl _, Nat.le_refl _, by omega, by omega⟩ fun i t ⟨gi, g41, gL2, hk, hl, hr, ho⟩ hM2 J2 hJ2 => ?_
        by_cases hi : i < 4
        · have hi' : (i : Int) < 4 := by omega
          have i1 : i < c.rd.length := by omega
          have i2 : i < c.wr.length := by omega
          obtain ⟨zr, Fr, lr, hzr, _⟩ := (hx.keep hk).loadL i i1
          have ir := hx.idx 1 .i64 i i1
          have iw := hy.idx 1 .i64 i i2
          simp only [Nat.mul_one] at ir iw
          have lw := (hy.keep hk).sl.loadI i i2
          have st : IntKind.i64.wrap ((i : Int) + 1) = (i + 1 : Nat) := by rw [IntWalk.i64_in] <;> omega
          have hrQ : rowQ c i ↔ risB 0 3 c.rd[i] = true ∧ (-1 ≤ c.wr[i] ∧ c.wr[i] ≤ 3) ∧ (0 ≤ c.wr[i] → c.rd[i] = [] ∨ c.rd[i] = [c.wr[i]]) := by
            unfold rowQ; rw [getD_in i1, getD_at i2]
          have hoQ : (c.wr.getD i 0 ∉ c.ov ∧ ∀ x ∈ c.rd.getD i [], x ∉ c.ov) ↔ (c.wr[i] ∉ c.ov ∧ ∀ x ∈ c.rd[i], x ∉ c.ov) := by rw [getD_in i1, getD_at i2]
          have hbr : ¬ rowQ c i → ¬ goodLk c := fun hq hg => hq (hg.2.2.2.2.1 i hi)
          have hbo : ¬ (c.wr.getD i 0 ∉ c.ov ∧ ∀ x ∈ c.rd.getD i [], x ∉ c.ov) → ¬ goodLk c := fun hq hg => hq (hg.2.2.2.2.2 i hi)
          rw [hrQ] at hbr
          rw [hoQ] at hbo
          have e1 := isRising_eq hzr.sl 0 3
          have hz2 := hz.keep hk
          have e5 := containsI_eq hz2.sl c.wr[i]
          have ext : ∀ (q : rowQ c i) (q2 : c.wr.getD i 0 ∉ c.ov ∧ ∀ x ∈ c.rd.getD i [], x ∉ c.ov), (∀ j, j < i + 1 → rowQ c j) ∧ ∀ j, j < i + 1 → c.wr.getD j 0 ∉ c.ov ∧ ∀ x ∈ c.rd.getD j [], x ∉ c.ov := fun q q2 =>
            ⟨fun j hj => by
              by_cases e : j = i
              · subst e; exact q
              · exact hr j (by omega), fun j hj => by
              by_cases e : j = i
              · subst e; exact q2
              · exact ho j (by omega)⟩
          rw [hrQ, hoQ] at ext
          generalize hrow : c.rd[i] = row at *
          generalize hwr : c.wr[i] = w at *
          cases hris : risB 0 3 row with
          | false =>
            rw [hris] at e1
            simp [g286_1, hM2, hM, g41, gL2, c1i, hi, hi', ir, iw, lr, lw, e1]
            exact bad (hbr fun q => by rw [hris] at q; cases q.1) _ hk hl
          | true =>
            rw [hris] at e1
            have hrl := ris4_len hris
            by_cases hw : -1 ≤ w ∧ w ≤ 3
            · have last : ∀ (h2 : Heap), Keeps t.h h2 → t.h.length ≤ h2.length → (0 ≤ w → row = [] ∨ row = [w]) → ∃ r3 h3, call p 301 [z, vi w] h2 = some (.bool (decide (w ∈ c.ov)), h2) ∧ call p 336 [zr, z] h2 = some (r3, h3) ∧ lenV r3 = some (row.filter fun n => decide (n ∈ c.ov)).length ∧ Keeps h h3 ∧ h.length ≤ h3.length := fun h2 k2 l2 _ => by
                obtain ⟨r3, h3, e3, F3', s3, _, k3, l3⟩ := both_ok (hzr.keep k2).sl (hz2.keep k2).sl (by omega)
                exact ⟨r3, h3, containsI_eq (hz2.keep k2).sl w, e3, s3.len, (hk.trans k2).trans k3, by omega⟩
              have fin : ∀ (h2 : Heap), Keeps t.h h2 → t.h.length ≤ h2.length → (0 ≤ w → row = [] ∨ row = [w]) →
                  (w ∈ c.ov ∧ call p 301 [z, vi w] h2 = some (.bool true, h2) ∧ R (.bool false) h2) ∨ (w ∉ c.ov ∧ call p 301 [z, vi w] h2 = some (.bool false, h2) ∧ ∃ r3 h3 n, call p 336 [zr, z] h2 = some (r3, h3) ∧ lenV r3 = some n ∧ ((0 < n ∧ R (.bool false) h3) ∨ (n = 0 ∧ Keeps h h3 ∧ h.length ≤ h3.length ∧ (∀ j, j < i + 1 → rowQ c j) ∧ ∀ j, j < i + 1 → c.wr.getD j 0 ∉ c.ov ∧ ∀ x ∈ c.rd.getD j [], x ∉ c.ov))) := fun h2 k2 l2 hq => by
                obtain ⟨r3, h3, q1, q2, q3, q4, q5⟩ := last h2 k2 l2 hq
                by_cases hm : w ∈ c.ov
                · left; rw [decide_eq_true hm] at q1
                  exact ⟨hm, q1, bad (hbo fun q => q.1 hm) _ (hk.trans k2) (by omega)⟩
                · right; rw [decide_eq_false hm] at q1
                  refine ⟨hm, q1, r3, h3, _, q2, q3, ?_⟩
                  by_cases hn0 : (row.filter fun n => decide (n ∈ c.ov)).length = 0
                  · right
                    have hnil := List.length_eq_zero_iff.1 hn0
                    have hno : ∀ x ∈ row, x ∉ c.ov := fun x hx hxo => by
                      have := List.filter_eq_nil_iff.1 hnil x hx
                      simp [hxo] at this
                    exact ⟨hn0, q4, q5, ext ⟨hris, hw, hq⟩ ⟨hm, hno⟩⟩
                  · left
                    refine ⟨by omega, bad (hbo fun q => hn0 ?_) _ q4 q5⟩
                    rw [List.length_eq_zero_iff, List.filter_eq_nil_iff]
                    intro x hx; simp [q.2 x hx]
              by_cases hw0 : 0 ≤ w
              · by_cases hr0 : row.length = 0
                · have hnil : row = [] := List.length_eq_zero_iff.1 hr0
                  have hr0i : ¬ (0 : Int) < row.length := by omega
                  have zl := hzr.len
                  rcases fin t.h (Keeps.refl _) (Nat.le_refl _) (fun _ => .inl hnil) with ⟨hm, q1, q2⟩ | ⟨hm, q1, r3, h3, n, q2, q3, ⟨q4, q5⟩ | ⟨q4, q5, q6, q7⟩⟩
                  · simp [g286_1, hM2, hM, g41, gL2, c1i, hi, hi', ir, iw, lr, lw, e1, hw, hw0, zl, hr0, hr0i, q1, -Bool.decide_and]
                    exact q2
                  · have q4i : (0 : Int) < n := by omega
                    simp [g286_1, hM2, hM, g41, gL2, c1i, hi, hi', ir, iw, lr, lw, e1, hw, hw0, zl, hr0, hr0i, q1, q2, q3, q4, q4i, -Bool.decide_and]
                    exact q5
                  · subst q4
                    simp [g286_1, hM2, hM, g41, gL2, c1i, hi, hi', ir, iw, lr, lw, e1, hw, hw0, zl, hr0, hr0i, q1, q2, q3, st, -Bool.decide_and, -Int.natCast_add]
                    exact hJ2 _ hi ⟨hi, by simp, by simp [gL2], q5, q6, q7⟩
                · have hr0i : (0 : Int) < row.length := by omega
                  have hr0n : 0 < row.length := by omega
                  have zl := hzr.len
                  have kl : Keeps t.h (t.h ++ [⟨.own, [vi w]⟩]) := Keeps.append _ _
                  have sl1 := Sl.lit (h := t.h) [w] 1 rfl [vi w] rfl (.k 1) (by simp)
                  have e6 := Equal_eq (hzr.keep kl).sl sl1
                  by_cases hrw : row = [w]
                  · rw [decide_eq_true hrw] at e6
                    rcases fin _ kl (by simp) (fun _ => .inr hrw) with ⟨hm, q1, q2⟩ | ⟨hm, q1, r3, h3, n, q2, q3, ⟨q4, q5⟩ | ⟨q4, q5, q6, q7⟩⟩
                    · simp [g286_1, hM2, hM, g41, gL2, c1i, hi, hi', ir, iw, lr, lw, e1, hw, hw0, zl, hr0n, hr0i, fillL, e6, q1, -Bool.decide_and]
                      exact q2
                    · have q4i : (0 : Int) < n := by omega
                      simp [g286_1, hM2, hM, g41, gL2, c1i, hi, hi', ir, iw, lr, lw, e1, hw, hw0, zl, hr0n, hr0i, fillL, e6, q1, q2, q3, q4, q4i, -Bool.decide_and]
                      exact q5
                    · subst q4
                      simp [g286_1, hM2, hM, g41, gL2, c1i, hi, hi', ir, iw, lr, lw, e1, hw, hw0, zl, hr0n, hr0i, fillL, e6, q1, q2, q3, st, -Bool.decide_and, -Int.natCast_add]
                      exact hJ2 _ hi ⟨hi, by simp, by simp [gL2], q5, q6, q7⟩
                  · rw [decide_eq_false hrw] at e6
                    simp [g286_1, hM2, hM, g41, gL2, c1i, hi, hi', ir, iw, lr, lw, e1, hw, hw0, zl, hr0n, hr0i, fillL, e6, -Bool.decide_and]
                    exact bad (hbr fun q => by
                      rcases q.2.2 hw0 with h | h
                      · rw [h] at hr0; exact hr0 rfl
                      · exact hrw h) _ (hk.trans kl) (by simp; omega)
              · rcases fin t.h (Keeps.refl _) (Nat.le_refl _) (fun h => absurd h hw0) with ⟨hm, q1, q2⟩ | ⟨hm, q1, r3, h3, n, q2, q3, ⟨q4, q5⟩ | ⟨q4, q5, q6, q7⟩⟩
                · simp [g286_1, hM2, hM, g41, gL2, c1i, hi, hi', ir, iw, lr, lw, e1, hw, hw0, q1, -Bool.decide_and]
                  exact q2
                · have q4i : (0 : Int) < n := by omega
                  simp [g286_1, hM2, hM, g41, gL2, c1i, hi, hi', ir, iw, lr, lw, e1, hw, hw0, q1, q2, q3, q4, q4i, -Bool.decide_and]
                  exact q5
                · subst q4
                  simp [g286_1, hM2, hM, g41, gL2, c1i, hi, hi', ir, iw, lr, lw, e1, hw, hw0, q1, q2, q3, st, -Bool.decide_and, -Int.natCast_add]
                  exact hJ2 _ hi ⟨hi, by simp, by simp [gL2], q5, q6, q7⟩
            · simp [g286_1, hM2, hM, g41, gL2, c1i, hi, hi', ir, iw, lr, lw, e1, hw, -Bool.decide_and]
              exact bad (hbr fun q => hw q.2.1) _ hk hl
        · have : i = 4 := by omega
          subst this
          simp [g286_1, hM2, hM, g41, c1i]
          exact hR _ _ ⟨by rw [goodK, decide_eq_true ⟨c1, c2, ha, hn, hr, ho⟩], hk, hl⟩
    · have c2i : ¬ (c.wr.length : Int) = 4 := by omega
      simp [g286, hx.cells, hx.cell, hy.cells, hy.cell, hz.cells, hz.cell, upd, hx.len, hy.len, hz.len, c1i, c2i]
      exact bad (fun hg => c2 hg.2.1) _ (Keeps.refl _) (Nat.le_refl _)
  · have c1i : ¬ (c.rd.length : Int) = 4 := by omega
    simp [g286, hx.cells, hx.cell, hy.cells, hy.cell, hz.cells, hz.cell, upd, hx.len, hy.len, hz.len, c1i]
    exact bad (fun hg => c1 hg.1) _ (Keeps.refl _) (Nat.le_refl _)
end GL

namespace GL
open Go

theorem upTo_filter (q : Int → Bool) (i : Nat) : (upTo (i + 1)).filter q = if q i = true then (upTo i).filter q ++ [(i : Int)] else (upTo i).filter q := by
  rw [upTo_succ, List.filter_append]
  cases h : q i <;> simp [h]
theorem upTo_flen (q : Int → Bool) (i : Nat) : ((upTo i).filter q).length ≤ i := Nat.le_trans (List.length_filter_le ..) (by rw [upTo_len]; omega)
def heldQ (c : Lk) (who k : Int) : Bool := decide (c.wr.getD k.toNat 0 = who) || decide (who ∈ c.rd.getD k.toNat [])
def heldL (c : Lk) (who : Int) (n : Nat) : List Int := (upTo n).filter (heldQ c who)
def keepQ (c : Lk) (a : Ak) (k : Int) : Bool := decide (k ≠ a.who) && (decide (c.wr.getD a.item.toNat 0 = k) || (a.w && decide (k ∈ c.rd.getD a.item.toNat [])))
def keepL (c : Lk) (a : Ak) (n : Nat) : List Int := (upTo n).filter (keepQ c a)
def askK (c : Lk) (a : Ak) : Bool := decide (0 ≤ a.who ∧ a.who ≤ 3) && !decide (a.who ∈ c.ov) && decide (0 ≤ a.item ∧ a.item ≤ 3) && (!a.e || (decide (a.item = 0) && !a.w))

theorem l8Held_ok {h : Heap} {v : V} {c : Lk} {F : List Nat} (hc : LkV h v c F) (h1 : c.rd.length = 4) (h2 : c.wr.length = 4) (who : Int) :
    ∃ r h', call p 408 [v, vi who] h = some (r, h') ∧ Out h.length h' r (heldL c who 4) ∧ Keeps h h' ∧ h.length ≤ h'.length := by
  obtain ⟨x, y, z, F1, F2, F3, rfl, _, hx, hy, hz⟩ := hc
  have c2i : (c.wr.length : Int) = 4 := by omega
  refine go (fn := g408) rfl rfl fun R hR => ?_
  simp [g408, hx.cells, hx.cell, hy.cells, hy.cell, hz.cells, hz.cell, upd, hy.len, c2i]
  refine Wc_upM (M := [5, 6, 10, 11, 12, 13, 14, 15, 16, 17, 18, 19, 20, 21, 22, 23, 24, 25, 26, 27, 28, 29, 30, 31, 32, 33]) rfl 4 (fun i s => i ≤ 4 ∧ s.σ 10 = .v (vi i) ∧ s.L 2 = (1, [x, y, z]) ∧ (∃ v5, s.σ 5 = .v v5 ∧ Out h.length s.h v5 (heldL c who i)) ∧ Keeps h s.h ∧ h.length ≤ s.h.length) 0
    ⟨by omega, by simp, by simp [upd], ⟨.nils, by simp, Out.nil (Nat.le_refl _)⟩, Keeps.refl _, Nat.le_refl _⟩ fun i s ⟨gi, g10, gL, ⟨v5, g5, ho⟩, hk, hl⟩ hM J hJ => ?_
  by_cases hi : i < 4
  · have hi' : (i : Int) < 4 := by omega
    have i1 : i < c.rd.length := by omega
    have i2 : i < c.wr.length := by omega
    obtain ⟨zr, Fr, lr, hzr, _⟩ := (hx.keep hk).loadL i i1
    have ir := hx.idx 1 .i64 i i1
    have iw := hy.idx 1 .i64 i i2
    simp only [Nat.mul_one] at ir iw
    have lw := (hy.keep hk).sl.loadI i i2
    have st : IntKind.i64.wrap ((i : Int) + 1) = (i + 1 : Nat) := by rw [IntWalk.i64_in] <;> omega
    have e1 := l1Has_eq hzr.sl who
    have hs := upTo_filter (heldQ c who) i
    have hq : heldQ c who i = (decide (c.wr[i] = who) || decide (who ∈ c.rd[i])) := by
      simp [heldQ, List.getElem?_eq_getElem i1, List.getElem?_eq_getElem i2]
    have hln := upTo_flen (heldQ c who) i
    obtain ⟨v', h3, e3, o3, k3, l3⟩ := ho.one (i : Int) (by show ((upTo i).filter _).length ≤ _; omega)
    generalize c.rd[i] = row at *
    generalize c.wr[i] = w at *
    by_cases hw : w = who
    · subst hw
      rw [if_pos (by rw [hq]; simp)] at hs
      simp [g408_0, hM, g10, gL, g5, c2i, hi, hi', ir, iw, lw, fillL, rdS_last, e3, st, -Int.natCast_add]
      exact hJ _ hi ⟨hi, by simp, by simp [gL], ⟨v', by simp, by rw [heldL, hs]; exact o3⟩, ho.far hk k3 (Nat.le_refl _), by show h.length ≤ h3.length; omega⟩
    · by_cases hm : who ∈ row
      · rw [if_pos (by rw [hq]; simp [hm])] at hs
        rw [decide_eq_true hm] at e1
        simp [g408_0, hM, g10, gL, g5, c2i, hi, hi', ir, iw, lr, lw, hw, e1, fillL, rdS_last, e3, st, -Int.natCast_add]
        exact hJ _ hi ⟨hi, by simp, by simp [gL], ⟨v', by simp, by rw [heldL, hs]; exact o3⟩, ho.far hk k3 (Nat.le_refl _), by show h.length ≤ h3.length; omega⟩
      · rw [if_neg (by rw [hq]; simp [hm, hw])] at hs
        rw [decide_eq_false hm] at e1
        simp [g408_0, hM, g10, gL, g5, c2i, hi, hi', ir, iw, lr, lw, hw, e1, st, -Int.natCast_add]
        exact hJ _ hi ⟨hi, by simp, by simp [gL], ⟨v5, by simp [g5], by rw [heldL, hs]; exact ho⟩, hk, hl⟩
  · have : i = 4 := by omega
    subst this
    simp [g408_0, hM, g10, g5, c2i]
    exact hR _ _ ⟨ho, hk, hl⟩

theorem held_nil {c : Lk} {who : Int} : heldL c who 4 = [] ↔ ∀ i, i < 4 → c.wr.getD i 0 ≠ who ∧ who ∉ c.rd.getD i [] := by
  rw [heldL, List.filter_eq_nil_iff]
  constructor
  · intro h i hi
    have := h (i : Int) (mem_upTo.2 (by omega))
    simpa [heldQ] using this
  · intro h k hk
    have hk' := mem_upTo.1 hk
    have := h k.toNat (by omega)
    simp only [heldQ, Bool.or_eq_true, decide_eq_true_eq]
    rintro (h1 | h1)
    · exact this.1 h1
    · exact this.2 h1
theorem one_or {r : List Int} {w : Int} : (r = [] ∨ r = [w]) ↔ ¬ (1 < r.length) ∧ ∀ (h : 0 < r.length), r[0] = w := by
  match r with
  | [] => simp
  | [x] => simp
  | _ :: _ :: _ => simp
theorem GoodLocksS_ok {h : Heap} {v : V} {c : Lk} {F : List Nat} (hc : LkV h v c F) : ∃ r h', call p 368 [v] h = some (r, h') ∧ r = .bool (goodK c) ∧ Keeps h h' ∧ h.length ≤ h'.length := by
  have hcc := hc
  obtain ⟨x, y, z, F1, F2, F3, rfl, _, hx, hy, hz⟩ := hc
  refine go (fn := g368) rfl rfl fun R hR => ?_
  have bad : ¬ goodLk c → ∀ h', Keeps h h' → h.length ≤ h'.length → R (.bool false) h' := fun hb h' hk hl => hR _ _ ⟨by rw [goodK_no hb], hk, hl⟩
  have e1 := l1All_eq hy.sl (-1) 3
  have e2 := l1All_eq hz.sl 0 3
  by_cases c1 : c.rd.length = 4
  · have c1i : (c.rd.length : Int) = 4 := by omega
    by_cases c2 : c.wr.length = 4
    · have c2i : (c.wr.length : Int) = 4 := by omega
      have wfact : goodLk c → (c.wr.all fun n => decide (-1 ≤ n ∧ n ≤ 3)) = true := fun hg => by
        rw [List.all_eq_true]; intro w hw
        obtain ⟨i, hi, rfl⟩ := List.getElem_of_mem hw
        have := (hg.2.2.2.2.1 i (by omega)).2.1
        rw [getD_at hi] at this
        simpa using this
      cases c3 : (c.wr.all fun n => decide (-1 ≤ n ∧ n ≤ 3)) with
      | false =>
        rw [c3] at e1
        simp [g368, hx.cells, hx.cell, hy.cells, hy.cell, hz.cells, hz.cell, upd, hx.len, hy.len, hz.len, c1i, c2i, e1]
        exact bad (fun hg => by rw [wfact hg] at c3; cases c3) _ (Keeps.refl _) (Nat.le_refl _)
      | true =>
        rw [c3] at e1
        cases c4 : (c.ov.all fun n => decide (0 ≤ n ∧ n ≤ 3)) with
        | false =>
          rw [c4] at e2
          simp [g368, hx.cells, hx.cell, hy.cells, hy.cell, hz.cells, hz.cell, upd, hx.len, hy.len, hz.len, c1i, c2i, e1, e2]
          exact bad (fun hg => by
            rw [List.all_eq_false] at c4
            obtain ⟨w, hw, hq⟩ := c4
            exact hq (by simpa using hg.2.2.1 w hw)) _ (Keeps.refl _) (Nat.le_refl _)
        | true =>
          rw [c4] at e2
          have hwin : ∀ i (hi : i < c.wr.length), -1 ≤ c.wr[i] ∧ c.wr[i] ≤ 3 := fun i hi => by simpa using List.all_eq_true.1 c3 _ (List.getElem_mem hi)
          have hoin : ∀ w ∈ c.ov, 0 ≤ w ∧ w ≤ 3 := fun w hw => by simpa using List.all_eq_true.1 c4 w hw
          simp [g368, hx.cells, hx.cell, hy.cells, hy.cell, hz.cells, hz.cell, upd, hx.len, hy.len, hz.len, c1i, c2i, e1, e2]
          refine Wc_upM (M := [2, 3, 4, 5, 33, 34, 35, 36, 37, 38, 39, 40, 41, 42, 43, 44, 45, 46, 47, 48, 49, 50, 51, 52, 53, 54, 55, 56, 57, 58, 59, 60, 61, 62, 63, 64, 65, 66, 67]) rfl 4 (fun i s => i ≤ 4 ∧ s.σ 33 = .v (vi i) ∧ s.L 1 = (1, [x, y, z]) ∧ s.h = h ∧ ∀ j, j < i → rowQ c j) 0
            ⟨by omega, by simp, by simp [upd], by simp, by omega⟩ fun i s ⟨gi, g33, gL, gh, hr⟩ hM J hJ => ?_
          by_cases hi : i < 4
          · have hi' : (i : Int) < 4 := by omega
            have i1 : i < c.rd.length := by omega
            have i2 : i < c.wr.length := by omega
            obtain ⟨zr, Fr, lr, hzr, _⟩ := hx.loadL i i1
            have ir := hx.idx 1 .i64 i i1
            have iw := hy.idx 1 .i64 i i2
            simp only [Nat.mul_one] at ir iw
            have lw := hy.sl.loadI i i2
            have st : IntKind.i64.wrap ((i : Int) + 1) = (i + 1 : Nat) := by rw [IntWalk.i64_in] <;> omega
            have hrQ : rowQ c i ↔ risB 0 3 c.rd[i] = true ∧ (-1 ≤ c.wr[i] ∧ c.wr[i] ≤ 3) ∧ (0 ≤ c.wr[i] → c.rd[i] = [] ∨ c.rd[i] = [c.wr[i]]) := by
              unfold rowQ; rw [getD_in i1, getD_at i2]
            have hbr : ¬ rowQ c i → ¬ goodLk c := fun hq hg => hq (hg.2.2.2.2.1 i hi)
            rw [hrQ] at hbr
            have e5 := l1Rising_eq hzr.sl 0 3
            have ext : ∀ (q : rowQ c i), (∀ j, j < i + 1 → rowQ c j) := fun q j hj => by
                by_cases e : j = i
                · subst e; exact q
                · exact hr j (by omega)
            rw [hrQ] at ext
            have hwi := hwin i i2
            have zl := hzr.len
            generalize hrow : c.rd[i] = row at *
            generalize hwr : c.wr[i] = w at *
            rw [one_or] at hbr ext
            cases hris : risB 0 3 row with
            | false =>
              rw [hris] at e5
              simp [g368_0, hM, g33, gL, gh, c1i, hi, hi', ir, iw, lr, lw, e5]
              exact bad (hbr fun q => by rw [hris] at q; cases q.1) _ (Keeps.refl _) (Nat.le_refl _)
            | true =>
              rw [hris] at e5
              by_cases hw0 : 0 ≤ w
              · by_cases hl1 : 1 < row.length
                · have hl1i : (1 : Int) < row.length := by omega
                  simp [g368_0, hM, g33, gL, gh, c1i, hi, hi', ir, iw, lr, lw, e5, hw0, zl, hl1, hl1i]
                  exact bad (hbr fun q => (q.2.2 hw0).1 hl1) _ (Keeps.refl _) (Nat.le_refl _)
                · have hl1i : ¬ (1 : Int) < row.length := by omega
                  by_cases hl0 : row.length = 1
                  · have hl0i : (row.length : Int) = 1 := by omega
                    have ix0 := hzr.idx 1 .i64 0 (by omega)
                    have ld0 := hzr.sl.loadI 0 (by omega)
                    simp only [Nat.mul_one, Nat.add_zero, Int.natCast_zero] at ix0 ld0
                    by_cases hr0 : row[0] = w
                    · rw [hr0] at ld0
                      simp [g368_0, hM, g33, gL, gh, c1i, hi, hi', ir, iw, lr, lw, e5, hw0, zl, hl1, hl1i, hl0, hl0i, ix0, ld0, st, -Int.natCast_add]
                      exact hJ _ hi ⟨hi, by simp, by simp [gL], rfl, ext ⟨hris, hwi, fun _ => ⟨hl1, fun _ => hr0⟩⟩⟩
                    · have hbr2 := bad (hbr fun q => hr0 ((q.2.2 hw0).2 (by omega)))
                      generalize row[0] = r0 at *
                      simp [g368_0, hM, g33, gL, gh, c1i, hi, hi', ir, iw, lr, lw, e5, hw0, zl, hl1, hl1i, hl0, hl0i, ix0, ld0, hr0]
                      exact hbr2 _ (Keeps.refl _) (Nat.le_refl _)
                  · have hl0i : ¬ (row.length : Int) = 1 := by omega
                    simp [g368_0, hM, g33, gL, gh, c1i, hi, hi', ir, iw, lr, lw, e5, hw0, zl, hl1, hl1i, hl0, hl0i, st, -Int.natCast_add]
                    exact hJ _ hi ⟨hi, by simp, by simp [gL], rfl, ext ⟨hris, hwi, fun _ => ⟨hl1, fun h => by omega⟩⟩⟩
              · simp [g368_0, hM, g33, gL, gh, c1i, hi, hi', ir, iw, lr, lw, e5, hw0, st, -Int.natCast_add]
                exact hJ _ hi ⟨hi, by simp, by simp [gL], rfl, ext ⟨hris, hwi, fun h => absurd h hw0⟩⟩
          · have : i = 4 := by omega
            subst this
            simp [g368_0, hM, g33, gL, gh, c1i, hz.len]
            refine Wc_upM (M := [2, 6, 7, 71, 72, 73, 74, 75, 76, 77, 78, 79, 80, 81, 82, 83, 84, 85, 86, 87, 88, 89]) rfl c.ov.length (fun i s => i ≤ c.ov.length ∧ s.σ 71 = .v (vi i) ∧ s.L 1 = (1, [x, y, z]) ∧ Keeps h s.h ∧ h.length ≤ s.h.length ∧ (c.ov.take i).Nodup ∧ ∀ w ∈ c.ov.take i, heldL c w 4 = []) 0
              ⟨by omega, by simp, by simp [gL], Keeps.refl _, Nat.le_refl _, by simp, by simp⟩ fun i t ⟨gi, g71, gL2, hk, hl, hn, hh⟩ hM2 J2 hJ2 => ?_
            by_cases hi : i < c.ov.length
            · have hz2 := hz.keep hk
              have ix := hz2.idx 1 .i64 i hi
              simp only [Nat.mul_one] at ix
              have ld := hz2.sl.loadI i hi
              have st := hz2.step hi
              obtain ⟨pu, Gp, ep, spre, _⟩ := hz2.pre (i := i) (by omega)
              have hmem : c.ov[i] ∈ c.ov := List.getElem_mem hi
              have e5 := l1Has_eq spre.sl c.ov[i]
              obtain ⟨rh, h3, e6, o3, k3, l3⟩ := l8Held_ok (hcc.keep hk) c1 c2 c.ov[i]
              have htk := List.take_succ_eq_append_getElem hi
              have ol := o3.sl.len
              have hbh : heldL c c.ov[i] 4 ≠ [] → ¬ goodLk c := fun hne hg => hne (held_nil.2 fun j hj => ⟨fun e => (hg.2.2.2.2.2 j hj).1 (e ▸ hmem), fun hm => (hg.2.2.2.2.2 j hj).2 _ hm hmem⟩)
              by_cases hdup : c.ov[i] ∈ c.ov.take i
              · simp only [decide_eq_true hdup] at e5
                have hb : ¬ goodLk c := fun hg => by
                  have h4 := hg.2.2.2.1
                  rw [← List.take_append_drop i c.ov, List.drop_eq_getElem_cons hi, List.nodup_append] at h4
                  exact h4.2.2 _ hdup _ (List.mem_cons_self) rfl
                generalize c.ov[i] = w at *
                simp [g368_1, hM2, hM, g71, gL2, hi, ix, ld, bounds, takeB, ep, e5]
                exact bad hb _ hk hl
              · simp only [decide_eq_false hdup] at e5
                have hn2 : (c.ov.take (i + 1)).Nodup := by
                  rw [htk, List.nodup_append]
                  exact ⟨hn, by simp, fun a ha b hb e => by simp at hb; subst hb; subst e; exact hdup ha⟩
                have hh2 : heldL c c.ov[i] 4 = [] → ∀ w ∈ c.ov.take (i + 1), heldL c w 4 = [] := fun h0 w hw => by
                  rcases (mem_take_succ hi).1 hw with h | h
                  · exact hh w h
                  · rw [h]; exact h0
                by_cases hnil : heldL c c.ov[i] 4 = []
                · have hh3 := hh2 hnil
                  rw [hnil] at ol
                  generalize c.ov[i] = w at *
                  simp [g368_1, hM2, hM, g71, gL2, hi, ix, ld, bounds, takeB, ep, e5, e6, ol, st]
                  exact hJ2 _ hi ⟨hi, by simp, by simp [gL2], hk.trans k3, by show h.length ≤ h3.length; omega, hn2, hh3⟩
                · have hb := hbh hnil
                  have hpos : 0 < (heldL c c.ov[i] 4).length := by
                    rcases Nat.eq_zero_or_pos (heldL c c.ov[i] 4).length with h | h
                    · exact absurd (List.length_eq_zero_iff.1 h) hnil
                    · exact h
                  have hposi : (0 : Int) < (heldL c c.ov[i] 4).length := by omega
                  generalize c.ov[i] = w at *
                  simp [g368_1, hM2, hM, g71, gL2, hi, ix, ld, bounds, takeB, ep, e5, e6, ol, hpos, hposi]
                  exact bad hb _ (hk.trans k3) (by omega)
            · have : i = c.ov.length := by omega
              subst this
              rw [List.take_length] at hn hh
              simp [g368_1, hM2, hM, g71]
              refine hR _ _ ⟨by rw [goodK, decide_eq_true ⟨c1, c2, hoin, hn, hr, fun i hi => ⟨fun hm => ?_, fun x hx hxo => ?_⟩⟩], hk, hl⟩
              · exact (held_nil.1 (hh _ hm) i hi).1 rfl
              · exact (held_nil.1 (hh _ hxo) i hi).2 hx
    · have c2i : ¬ (c.wr.length : Int) = 4 := by omega
      simp [g368, hx.cells, hx.cell, hy.cells, hy.cell, hz.cells, hz.cell, upd, hx.len, hy.len, hz.len, c1i, c2i]
      exact bad (fun hg => c2 hg.2.1) _ (Keeps.refl _) (Nat.le_refl _)
  · have c1i : ¬ (c.rd.length : Int) = 4 := by omega
    simp [g368, hx.cells, hx.cell, hy.cells, hy.cell, hz.cells, hz.cell, upd, hx.len, hy.len, hz.len, c1i]
    exact bad (fun hg => c1 hg.1) _ (Keeps.refl _) (Nat.le_refl _)
end GL

namespace GL
open Go

theorem isAsk_eq {h : Heap} {v : V} {c : Lk} {F : List Nat} (hc : LkV h v c F) (a : Ak) : call p 379 [v, av a] h = some (.bool (askK c a), h) := by
  obtain ⟨x, y, z, F1, F2, F3, rfl, _, hx, hy, hz⟩ := hc
  obtain ⟨who, item, w, e⟩ := a
  have e1 := containsI_eq hz.sl who
  refine go_eq (fn := g379) rfl rfl fun R hR => ?_
  simp only [askK] at hR
  by_cases h1 : 0 ≤ who ∧ who ≤ 3
  · by_cases h2 : who ∈ c.ov
    · simp only [decide_eq_true h1, decide_eq_true h2] at hR
      rw [decide_eq_true h2] at e1
      simp [g379, hx.cells, hx.cell, hy.cells, hy.cell, hz.cells, hz.cell, upd, isDealer_eq, isItem_eq, h1, e1, -Bool.decide_and]
      simpa using hR
    · simp only [decide_eq_true h1, decide_eq_false h2] at hR
      rw [decide_eq_false h2] at e1
      by_cases h3 : 0 ≤ item ∧ item ≤ 3
      · simp only [decide_eq_true h3] at hR
        by_cases h4 : item = 0
        · subst h4
          cases w <;> cases e <;> simp [g379, hx.cells, hx.cell, hy.cells, hy.cell, hz.cells, hz.cell, upd, isDealer_eq, isItem_eq, h1, e1, -Bool.decide_and] <;> simpa using hR
        · cases w <;> cases e <;> simp [g379, hx.cells, hx.cell, hy.cells, hy.cell, hz.cells, hz.cell, upd, isDealer_eq, isItem_eq, h1, e1, h3, h4, -Bool.decide_and] <;> simpa [h4] using hR
      · simp only [decide_eq_false h3] at hR
        simp [g379, hx.cells, hx.cell, hy.cells, hy.cell, hz.cells, hz.cell, upd, isDealer_eq, isItem_eq, h1, e1, h3, -Bool.decide_and]
        simpa using hR
  · simp only [decide_eq_false h1] at hR
    simp [g379, hx.cells, hx.cell, hy.cells, hy.cell, hz.cells, hz.cell, upd, isDealer_eq, isItem_eq, h1, -Bool.decide_and]
    simpa using hR
theorem l8Ask_eq {h : Heap} {v : V} {c : Lk} {F : List Nat} (hc : LkV h v c F) (a : Ak) : call p 381 [v, av a] h = some (.bool (askK c a), h) := by
  obtain ⟨x, y, z, F1, F2, F3, rfl, _, hx, hy, hz⟩ := hc
  obtain ⟨who, item, w, e⟩ := a
  have e1 := l1Has_eq hz.sl who
  refine go_eq (fn := g381) rfl rfl fun R hR => ?_
  simp only [askK] at hR
  by_cases h1 : 0 ≤ who ∧ who ≤ 3
  · by_cases h2 : who ∈ c.ov
    · simp only [decide_eq_true h1, decide_eq_true h2] at hR
      rw [decide_eq_true h2] at e1
      simp [g381, hx.cells, hx.cell, hy.cells, hy.cell, hz.cells, hz.cell, upd, h1, e1, -Bool.decide_and]
      simpa using hR
    · simp only [decide_eq_true h1, decide_eq_false h2] at hR
      rw [decide_eq_false h2] at e1
      by_cases h3 : 0 ≤ item ∧ item ≤ 3
      · simp only [decide_eq_true h3] at hR
        by_cases h4 : item = 0
        · subst h4
          cases w <;> cases e <;> simp [g381, hx.cells, hx.cell, hy.cells, hy.cell, hz.cells, hz.cell, upd, h1, e1, -Bool.decide_and] <;> simpa using hR
        · cases w <;> cases e <;> simp [g381, hx.cells, hx.cell, hy.cells, hy.cell, hz.cells, hz.cell, upd, h1, e1, h3, h4, -Bool.decide_and] <;> simpa [h4] using hR
      · simp only [decide_eq_false h3] at hR
        simp [g381, hx.cells, hx.cell, hy.cells, hy.cell, hz.cells, hz.cell, upd, h1, e1, h3, -Bool.decide_and]
        simpa using hR
  · simp only [decide_eq_false h1] at hR
    simp [g381, hx.cells, hx.cell, hy.cells, hy.cell, hz.cells, hz.cell, upd, h1, -Bool.decide_and]
    simpa using hR

theorem keepers_ok {h : Heap} {v : V} {c : Lk} {F : List Nat} (hc : LkV h v c F) (h1 : c.rd.length = 4) (h2 : c.wr.length = 4) {a : Ak} (ha : 0 ≤ a.item ∧ a.item ≤ 3) :
    ∃ r h', call p 380 [v, av a] h = some (r, h') ∧ Out h.length h' r (keepL c a 4) ∧ Keeps h h' ∧ h.length ≤ h'.length := by
  obtain ⟨x, y, z, F1, F2, F3, rfl, _, hx, hy, hz⟩ := hc
  obtain ⟨who, item, w, e⟩ := a
  simp only at ha
  obtain ⟨m, rfl⟩ : ∃ m : Nat, item = m := ⟨item.toNat, by omega⟩
  refine go (fn := g380) rfl rfl fun R hR => ?_
  simp [g380, hx.cells, hx.cell, hy.cells, hy.cell, hz.cells, hz.cell, upd]
  refine Wc_upM (M := [5, 6, 8, 9, 10, 11, 12, 13, 14, 15, 16, 17, 18, 19, 20, 21, 22, 23, 24, 25, 26, 27, 28, 29, 30, 31, 32, 33, 34, 35, 36, 37, 38, 39, 40, 41, 42, 43]) rfl 4 (fun i s => i ≤ 4 ∧ s.σ 8 = .v (vi i) ∧ s.L 2 = (1, [x, y, z]) ∧ s.L 3 = (1, [vi who, vi m, .bool w, .bool e]) ∧ (∃ v5, s.σ 5 = .v v5 ∧ Out h.length s.h v5 (keepL c ⟨who, m, w, e⟩ i)) ∧ Keeps h s.h ∧ h.length ≤ s.h.length) 0
    ⟨by omega, by simp, by simp [upd], by simp [upd], ⟨.slice h.length 0 0 (.k 0), by simp, Out.empty (Nat.le_refl _) (by simp)⟩, Keeps.append _ _, by simp⟩ fun i s ⟨gi, g8, gL, gL3, ⟨v5, g5, ho⟩, hk, hl⟩ hM J hJ => ?_
  by_cases hi : i < 4
  · have hi' : (i : Int) < 4 := by omega
    have i1 : m < c.rd.length := by omega
    have i2 : m < c.wr.length := by omega
    obtain ⟨zr, Fr, lr, hzr, _⟩ := (hx.keep hk).loadL m i1
    have ir := hx.idx 1 .i64 m i1
    have iw := hy.idx 1 .i64 m i2
    simp only [Nat.mul_one] at ir iw
    have lw := (hy.keep hk).sl.loadI m i2
    have st : IntKind.i64.wrap ((i : Int) + 1) = (i + 1 : Nat) := by rw [IntWalk.i64_in] <;> omega
    have e1 := containsI_eq hzr.sl (i : Int)
    have hs := upTo_filter (keepQ c ⟨who, m, w, e⟩) i
    have hq : keepQ c ⟨who, m, w, e⟩ i = (decide ((i : Int) ≠ who) && (decide (c.wr[m] = (i : Int)) || (w && decide ((i : Int) ∈ c.rd[m])))) := by
      simp [keepQ, List.getElem?_eq_getElem i1, List.getElem?_eq_getElem i2]
    have hln := upTo_flen (keepQ c ⟨who, m, w, e⟩) i
    obtain ⟨v', h3, e3, o3, k3, l3⟩ := ho.one (i : Int) (by show ((upTo i).filter _).length ≤ _; omega)
    have yes : keepQ c ⟨who, m, w, e⟩ i = true → ∀ s' : S, s'.h = h3 → s'.σ 8 = .v (vi (i + 1 : Nat)) → s'.σ 5 = .v v' → s'.L 2 = (1, [x, y, z]) → s'.L 3 = (1, [vi who, vi m, .bool w, .bool e]) → J s' := fun hq s' q1 q2 q3 q4 q5 => by
      rw [if_pos hq] at hs
      exact hJ s' hi ⟨hi, q2, q4, q5, ⟨v', q3, by rw [q1, keepL, hs]; exact o3⟩, by rw [q1]; exact ho.far hk k3 (Nat.le_refl _), by rw [q1]; omega⟩
    have no : keepQ c ⟨who, m, w, e⟩ i = false → ∀ s' : S, s'.h = s.h → s'.σ 8 = .v (vi (i + 1 : Nat)) → s'.σ 5 = .v v5 → s'.L 2 = (1, [x, y, z]) → s'.L 3 = (1, [vi who, vi m, .bool w, .bool e]) → J s' := fun hq s' q1 q2 q3 q4 q5 => by
      rw [if_neg (by rw [hq]; simp)] at hs
      exact hJ s' hi ⟨hi, q2, q4, q5, ⟨v5, q3, by rw [q1, keepL, hs]; exact ho⟩, by rw [q1]; exact hk, by rw [q1]; exact hl⟩
    rw [hq] at yes no
    have hm4 : m < 4 := by omega
    generalize c.rd[m] = row at *
    generalize c.wr[m] = wv at *
    by_cases hw : (i : Int) = who
    · subst hw
      simp [g380_0, hM, g8, gL, gL3, g5, hi, hi', st, -Int.natCast_add]
      refine no (by simp) _ ?_ ?_ ?_ ?_ ?_ <;> simp [g5, gL, gL3]
    · by_cases hv : wv = (i : Int)
      · subst hv
        simp [g380_0, hM, g8, gL, gL3, g5, hi, hi', hw, iw, lw, fillL, rdS_last, e3, st, -Int.natCast_add]
        refine yes (by simp [hw]) _ ?_ ?_ ?_ ?_ ?_ <;> simp [gL, gL3]
      · cases w with
        | false =>
          simp [g380_0, hM, g8, gL, gL3, g5, hi, hi', hw, iw, lw, hv, st, -Int.natCast_add]
          refine no (by simp [hw, hv]) _ ?_ ?_ ?_ ?_ ?_ <;> simp [g5, gL, gL3]
        | true =>
          by_cases hm : (i : Int) ∈ row
          · rw [decide_eq_true hm] at e1
            simp [g380_0, hM, g8, gL, gL3, g5, hi, hi', hw, iw, lw, hv, ir, lr, e1, fillL, rdS_last, e3, st, -Int.natCast_add]
            refine yes (by simp [hw, hm]) _ ?_ ?_ ?_ ?_ ?_ <;> simp [gL, gL3]
          · rw [decide_eq_false hm] at e1
            simp [g380_0, hM, g8, gL, gL3, g5, hi, hi', hw, iw, lw, hv, ir, lr, e1, st, -Int.natCast_add]
            refine no (by simp [hw, hv, hm]) _ ?_ ?_ ?_ ?_ ?_ <;> simp [g5, gL, gL3]
  · have : i = 4 := by omega
    subst this
    simp [g380_0, hM, g8, g5]
    exact hR _ _ ⟨ho, hk, hl⟩
theorem l8Waits_ok {h : Heap} {v : V} {c : Lk} {F : List Nat} (hc : LkV h v c F) (h1 : c.rd.length = 4) (h2 : c.wr.length = 4) {a : Ak} (ha : 0 ≤ a.item ∧ a.item ≤ 3) :
    ∃ r h', call p 382 [v, av a] h = some (r, h') ∧ Out h.length h' r (keepL c a 4) ∧ Keeps h h' ∧ h.length ≤ h'.length := by
  obtain ⟨x, y, z, F1, F2, F3, rfl, _, hx, hy, hz⟩ := hc
  obtain ⟨who, item, w, e⟩ := a
  simp only at ha
  obtain ⟨m, rfl⟩ : ∃ m : Nat, item = m := ⟨item.toNat, by omega⟩
  refine go (fn := g382) rfl rfl fun R hR => ?_
  simp [g382, hx.cells, hx.cell, hy.cells, hy.cell, hz.cells, hz.cell, upd]
  refine Wc_upM (M := [5, 6, 7, 8, 9, 10, 11, 12, 13, 14, 15, 16, 17, 18, 19, 20, 21, 22, 23, 24, 25, 26, 27, 28, 29, 30, 31, 32, 33, 34, 35, 36, 37, 38, 39, 40, 41, 42]) rfl 4 (fun i s => i ≤ 4 ∧ s.σ 6 = .v (vi i) ∧ s.L 2 = (1, [x, y, z]) ∧ s.L 3 = (1, [vi who, vi m, .bool w, .bool e]) ∧ (∃ v5, s.σ 5 = .v v5 ∧ Out h.length s.h v5 (keepL c ⟨who, m, w, e⟩ i)) ∧ Keeps h s.h ∧ h.length ≤ s.h.length) 0
    ⟨by omega, by simp, by simp [upd], by simp [upd], ⟨.nils, by simp, Out.nil (Nat.le_refl _)⟩, Keeps.refl _, Nat.le_refl _⟩ fun i s ⟨gi, g8, gL, gL3, ⟨v5, g5, ho⟩, hk, hl⟩ hM J hJ => ?_
  by_cases hi : i < 4
  · have hi' : (i : Int) < 4 := by omega
    have i1 : m < c.rd.length := by omega
    have i2 : m < c.wr.length := by omega
    obtain ⟨zr, Fr, lr, hzr, _⟩ := (hx.keep hk).loadL m i1
    have ir := hx.idx 1 .i64 m i1
    have iw := hy.idx 1 .i64 m i2
    simp only [Nat.mul_one] at ir iw
    have lw := (hy.keep hk).sl.loadI m i2
    have st : IntKind.i64.wrap ((i : Int) + 1) = (i + 1 : Nat) := by rw [IntWalk.i64_in] <;> omega
    have e1 := l1Has_eq hzr.sl (i : Int)
    have hs := upTo_filter (keepQ c ⟨who, m, w, e⟩) i
    have hq : keepQ c ⟨who, m, w, e⟩ i = (decide ((i : Int) ≠ who) && (decide (c.wr[m] = (i : Int)) || (w && decide ((i : Int) ∈ c.rd[m])))) := by
      simp [keepQ, List.getElem?_eq_getElem i1, List.getElem?_eq_getElem i2]
    have hln := upTo_flen (keepQ c ⟨who, m, w, e⟩) i
    obtain ⟨v', h3, e3, o3, k3, l3⟩ := ho.one (i : Int) (by show ((upTo i).filter _).length ≤ _; omega)
    have yes : keepQ c ⟨who, m, w, e⟩ i = true → ∀ s' : S, s'.h = h3 → s'.σ 6 = .v (vi (i + 1 : Nat)) → s'.σ 5 = .v v' → s'.L 2 = (1, [x, y, z]) → s'.L 3 = (1, [vi who, vi m, .bool w, .bool e]) → J s' := fun hq s' q1 q2 q3 q4 q5 => by
      rw [if_pos hq] at hs
      exact hJ s' hi ⟨hi, q2, q4, q5, ⟨v', q3, by rw [q1, keepL, hs]; exact o3⟩, by rw [q1]; exact ho.far hk k3 (Nat.le_refl _), by rw [q1]; omega⟩
    have no : keepQ c ⟨who, m, w, e⟩ i = false → ∀ s' : S, s'.h = s.h → s'.σ 6 = .v (vi (i + 1 : Nat)) → s'.σ 5 = .v v5 → s'.L 2 = (1, [x, y, z]) → s'.L 3 = (1, [vi who, vi m, .bool w, .bool e]) → J s' := fun hq s' q1 q2 q3 q4 q5 => by
      rw [if_neg (by rw [hq]; simp)] at hs
      exact hJ s' hi ⟨hi, q2, q4, q5, ⟨v5, q3, by rw [q1, keepL, hs]; exact ho⟩, by rw [q1]; exact hk, by rw [q1]; exact hl⟩
    rw [hq] at yes no
    have hm4 : m < 4 := by omega
    generalize c.rd[m] = row at *
    generalize c.wr[m] = wv at *
    by_cases hw : (i : Int) = who
    · subst hw
      simp [g382_0, hM, g8, gL, gL3, g5, hi, hi', st, -Int.natCast_add]
      refine no (by simp) _ ?_ ?_ ?_ ?_ ?_ <;> simp [g5, gL, gL3]
    · by_cases hv : wv = (i : Int)
      · subst hv
        simp [g382_0, hM, g8, gL, gL3, g5, hi, hi', hw, iw, lw, fillL, rdS_last, e3, st, -Int.natCast_add]
        refine yes (by simp [hw]) _ ?_ ?_ ?_ ?_ ?_ <;> simp [gL, gL3]
      · cases w with
        | false =>
          simp [g382_0, hM, g8, gL, gL3, g5, hi, hi', hw, iw, lw, hv, st, -Int.natCast_add]
          refine no (by simp [hw, hv]) _ ?_ ?_ ?_ ?_ ?_ <;> simp [g5, gL, gL3]
        | true =>
          by_cases hm : (i : Int) ∈ row
          · rw [decide_eq_true hm] at e1
            simp [g382_0, hM, g8, gL, gL3, g5, hi, hi', hw, iw, lw, hv, ir, lr, e1, fillL, rdS_last, e3, st, -Int.natCast_add]
            refine yes (by simp [hw, hm]) _ ?_ ?_ ?_ ?_ ?_ <;> simp [gL, gL3]
          · rw [decide_eq_false hm] at e1
            simp [g382_0, hM, g8, gL, gL3, g5, hi, hi', hw, iw, lw, hv, ir, lr, e1, st, -Int.natCast_add]
            refine no (by simp [hw, hv, hm]) _ ?_ ?_ ?_ ?_ ?_ <;> simp [g5, gL, gL3]
  · have : i = 4 := by omega
    subst this
    simp [g382_0, hM, g8, g5]
    exact hR _ _ ⟨ho, hk, hl⟩
end GL

namespace GL
open Go

theorem cloneO {h : Heap} {v : V} {xs : List Int} (hs : Sl h v xs) (hl : xs.length ≤ 2 ^ 20) : ∃ r h', call p 389 [v] h = some (r, h') ∧ Out h.length h' r xs ∧ Keeps h h' ∧ h.length ≤ h'.length := by
  refine go (fn := g389) rfl rfl fun R hR => ?_
  have hs' := hs.keeps (Keeps.append h [⟨.own, []⟩])
  have e1 := hs'.rdS xs.length (Nat.le_refl _)
  rw [List.take_length] at e1
  change rdS _ 1 _ _ = _ at e1
  have hlen := hs.len
  rcases hs with ⟨_, ⟨rfl, rfl⟩ | ⟨b, off, cap, rfl, _⟩⟩
  · simp [g389]
    exact hR _ _ ⟨Out.nil (Nat.le_refl _), Keeps.refl _, Nat.le_refl _⟩
  · by_cases h0 : xs = []
    · subst h0
      have ap : ∀ b H, appH 1 8 (.slice b 0 0 (.k 0)) 0 [] H = some (.slice b 0 0 (.k 0), H) := fun _ _ => rfl
      have e1' : rdS (h ++ [⟨.own, []⟩]) 1 (.slice b off 0 cap) 0 = some [] := e1
      simp [g389, fillL, e1', ap]
      exact hR _ _ ⟨Out.empty (Nat.le_refl _) (by simp), Keeps.append _ _, by simp⟩
    · have n0 : 0 < xs.length := List.length_pos_iff.2 h0
      have ho : Out h.length (h ++ [⟨.own, []⟩]) (.slice h.length 0 0 (.k 0)) ([] : List Int) := Out.empty (Nat.le_refl _) (by simp)
      obtain ⟨r, h', e, o', k', l', b'⟩ := ho.app xs n0 (bytes := 8) (by decide) (by simp; omega) (k := 1) rfl rfl rfl
      simp only [List.nil_append] at o'
      simp [g389, fillL, e1, e]
      exact hR _ _ ⟨o', ho.far (Keeps.append _ _) k' (Nat.le_refl _), by simp at l'; omega⟩

/-- locks of one's own, in memory -/
def LkO (lo : Nat) (h : Heap) (x y z : V) (c : Lk) (F1 F2 : List Nat) : Prop := SdF h x c.rd F1 ∧ SdF h y c.wr F2 ∧ Out lo h z c.ov ∧ Fresh lo h (F1 ++ F2) ∧ ∀ i, vB z i → i ∉ F1 ++ F2
section
variable {lo : Nat} {h h' : Heap} {x y z : V} {c : Lk} {F1 F2 : List Nat}
theorem LkO.keeps {P : Nat → Prop} (o : LkO lo h x y z c F1 F2) (hk : KeepsP P h h') (hp : ∀ i ∈ F1 ++ F2, P i) (hz : ∀ i, vB z i → P i) (hl : h.length ≤ h'.length) : LkO lo h' x y z c F1 F2 := by
  obtain ⟨h1, h2, h3, h4, h5⟩ := o
  exact ⟨h1.keeps (hk.mono fun i hi => hp i (by simp [hi])), h2.keeps (hk.mono fun i hi => hp i (by simp [hi])), h3.keeps hk hz hl, h4.keeps (hk.mono hp), h5⟩
theorem LkO.keep (o : LkO lo h x y z c F1 F2) (hk : Keeps h h') (hl : h.length ≤ h'.length) : LkO lo h' x y z c F1 F2 := o.keeps (hk.p fun _ => True) (fun _ _ => trivial) (fun _ _ => trivial) hl
theorem LkO.v (o : LkO lo h x y z c F1 F2) : ∃ F, LkV h (.agg [x, y, z]) c F ∧ Fresh lo h F ∧ ∀ i ∈ F, i ∈ F1 ++ F2 ∨ vB z i := by
  obtain ⟨h1, h2, h3, h4, h5⟩ := o
  have h3' := h3
  obtain ⟨_, _, ⟨rfl, hov⟩ | ⟨b1, rfl, hb1, _⟩ | ⟨b1, rfl, hov, _⟩⟩ := h3
  · exact ⟨F1 ++ F2 ++ [], ⟨x, y, .nils, F1, F2, [], rfl, rfl, h1, h2, by rw [hov]; exact .nil⟩, by simpa using h4, fun i hi => .inl (by simpa using hi)⟩
  · obtain ⟨F, hF, hF2, hF3⟩ := h3'.sl.sdF h3'.cap
    refine ⟨F1 ++ F2 ++ F, ⟨x, y, _, F1, F2, F, rfl, rfl, h1, h2, hF⟩, ⟨List.nodup_append.2 ⟨h4.nodup, hF.flatF.2.1, fun a ha b hb e => ?_⟩, fun i hi => ?_, fun i hi => ?_⟩, fun i hi => ?_⟩
    · subst e; exact h5 a (hF2 a hb).2 ha
    · rcases List.mem_append.1 hi with hi | hi
      · exact h4.ge i hi
      · exact (h3'.ge (hF2 i hi).2).1
    · rcases List.mem_append.1 hi with hi | hi
      · exact h4.own i hi
      · have := (hF2 i hi).1; simp [bOf] at this; subst this; exact ⟨_, hb1⟩
    · rcases List.mem_append.1 hi with hi | hi
      · exact .inl hi
      · exact .inr (hF2 i hi).2
  · exact ⟨F1 ++ F2 ++ [], ⟨x, y, _, F1, F2, [], rfl, rfl, h1, h2, by rw [hov]; exact ⟨by simp, .inr ⟨b1, 0, .k 0, rfl, Nat.le_refl _, .inl ⟨rfl, rfl⟩⟩⟩⟩, by simpa using h4, fun i hi => .inl (by simpa using hi)⟩
theorem LkO.setW (o : LkO lo h x y z c F1 F2) {k : Nat} (hk : k < c.wr.length) (n : Int) : ∃ h', wrH h (bOf y) (oOf y + k) [vi n] = some h' ∧ LkO lo h' x y z ⟨c.rd, c.wr.set k n, c.ov⟩ F1 F2 ∧ KeepsP (fun i => i ∉ F1 ++ F2) h h' ∧ h'.length = h.length ∧ ∀ i, OwnB h i → OwnB h' i := by
  obtain ⟨h1, h2, h3, h4, h5⟩ := o
  have hb : bOf y ∈ F2 := h2.bIn hk
  obtain ⟨h', e, q1, q2, q3, q4⟩ := h2.putI (fun i hi => h4.own i (by simp [hi])) hk n
  have hd : ∀ i ∈ F1, i ≠ bOf y := fun i hi e => (List.nodup_append.1 h4.nodup).2.2 i hi _ hb e
  refine ⟨h', e, ⟨h1.keeps (q2.mono hd), q1, h3.keeps q2 (fun i hi e => h5 i hi (by rw [e]; simp [hb])) (by omega), ⟨h4.nodup, h4.ge, fun i hi => q4 i (h4.own i hi)⟩, h5⟩, q2.mono fun i hi e => hi (by rw [e]; simp [hb]), q3, q4⟩
end
/-- a list of lists of one's own: one of them anew -/
theorem SdF.putL {h : Heap} {v : V} {xs : List (List Int)} {F : List Nat} (hs : SdF h v xs F) (hn : F.Nodup) (ho : ∀ b ∈ F, OwnB h b) {i : Nat} (hi : i < xs.length) {w : V} {ys : List Int} {G : List Nat} (hw : SdF h w ys G) (hg : G.Nodup) (hd : ∀ b ∈ G, b ∉ F) :
    ∃ h' F', wrH h (bOf v) (oOf v + i) [w] = some h' ∧ SdF h' v (xs.set i ys) F' ∧ F'.Nodup ∧ (∀ b ∈ F', b ∈ F ∨ b ∈ G) ∧ KeepsP (fun b => b ≠ bOf v) h h' ∧ h'.length = h.length ∧ ∀ b, OwnB h b → OwnB h' b := by
  have hbv := hs.bIn hi
  obtain ⟨hlen0, hs⟩ := hs
  have hsz : Data.sz (List Int) = 1 := rfl
  rcases hs with ⟨rfl, rfl, _⟩ | ⟨b, off, cap, rfl, hcap, hs⟩
  · simp at hi
  · rcases hs with ⟨rfl, _⟩ | ⟨blk, cs, G0, rfl, h1, h2, h3, h4⟩
    · simp at hi
    · obtain ⟨ds, hds⟩ := ho b (by simp)
      rw [hds] at h1; cases h1
      obtain ⟨F1, F2, F3, rfl, r2, r1, r3⟩ := h4.get i hi
      have hcl := h4.len
      rw [hsz, Nat.mul_one] at hcl h3
      simp only [hsz, Nat.mul_one] at r1 r2 r3
      have hn' := List.nodup_cons.1 hn
      have hbG : b ∉ G := fun h => hd b h (by simp)
      have hcut := h3
      simp only [cut] at hcut
      by_cases hle : off + xs.length ≤ ds.length
      · rw [if_pos hle] at hcut
        have hcs : (ds.drop off).take xs.length = cs := Option.some.inj hcut
        have hlay : lay ds (off + i) [w] = some (ds.set (off + i) w) := by
          simp only [lay, List.length_singleton]
          rw [if_pos (by omega)]
          congr 1
          rw [List.set_eq_take_append_cons_drop, if_pos (by omega)]; simp
        have kb : KeepsP (fun c => c ≠ b) h (h.set b ⟨.own, ds.set (off + i) w⟩) := fun c blk hc hb _ => by rw [List.getElem?_set_ne (Ne.symm hc)]; exact hb
        have hnF : b ∉ F1 ∧ b ∉ F2 ∧ b ∉ F3 := by
          have := hn'.1; simp only [List.mem_append, not_or] at this; exact ⟨this.1.1, this.1.2, this.2⟩
        have hw' : SdF (h.set b ⟨.own, ds.set (off + i) w⟩) w ys G := hw.keeps (kb.mono fun c hc e => hbG (e ▸ hc))
        refine ⟨h.set b ⟨.own, ds.set (off + i) w⟩, b :: (F1 ++ G ++ F3), ?_, ⟨by simpa using hlen0, .inr ⟨b, off, cap, by simp, by simpa using hcap, .inr ⟨⟨.own, ds.set (off + i) w⟩, cs.set i w, _, rfl, by simp [get_lt hds], by simp, ?_, ?_⟩⟩⟩, ?_, fun c hc => ?_, kb, by simp, fun c hc => ?_⟩
        · simp only [bOf, oOf]; rw [wrH_at hds rfl, hlay]; rfl
        · rw [hsz, Nat.mul_one]
          simp only [cut, List.length_set]
          rw [if_pos hle, List.drop_set, if_neg (by omega), show off + i - off = i by omega, List.take_set, hcs]
        · have hcsl : i < cs.length := by omega
          have hset : cs.set i w = cs.take i ++ [w] ++ cs.drop (i + 1) := by rw [List.set_eq_take_append_cons_drop, if_pos hcsl]; simp
          have hset2 : xs.set i ys = xs.take i ++ [ys] ++ xs.drop (i + 1) := by rw [List.set_eq_take_append_cons_drop, if_pos hi]; simp
          rw [hset, hset2]
          exact ((r1.keeps (kb.mono fun c hc e => hnF.1 (e ▸ hc))).append (.one ⟨w, rfl, hw'⟩)).append (r3.keeps (kb.mono fun c hc e => hnF.2.2 (e ▸ hc)))
        · have n2 := hn'.2
          rw [List.nodup_append, List.nodup_append] at n2
          obtain ⟨⟨a1, a2, a3⟩, a4, a5⟩ := n2
          refine List.nodup_cons.2 ⟨by simp only [List.mem_append, not_or]; exact ⟨⟨hnF.1, hbG⟩, hnF.2.2⟩, ?_⟩
          rw [List.nodup_append, List.nodup_append]
          refine ⟨⟨a1, hg, fun u hu w hw e => ?_⟩, a4, fun u hu w hw e => ?_⟩
          · subst e; exact hd u hw (by simp [hu])
          · subst e
            rcases List.mem_append.1 hu with hu | hu
            · exact a5 u (by simp [hu]) u hw rfl
            · exact hd u hu (by simp [hw])
        · simp only [List.mem_cons, List.mem_append] at hc ⊢
          rcases hc with h | (h | h) | h <;> simp [h]
        · exact hc.set (get_lt hds)
      · rw [if_neg hle] at hcut; cases hcut
section
variable {lo : Nat} {h h' : Heap} {x y z : V} {c : Lk} {F1 F2 : List Nat}
theorem LkO.setR (o : LkO lo h x y z c F1 F2) {k : Nat} (hk : k < c.rd.length) {w : V} {ys : List Int} {G : List Nat} (hw : SdF h w ys G) (hg : Fresh lo h G) (hd : ∀ b ∈ G, b ∉ F1 ++ F2 ∧ ¬ vB z b) :
    ∃ h' F1', wrH h (bOf x) (oOf x + k) [w] = some h' ∧ LkO lo h' x y z ⟨c.rd.set k ys, c.wr, c.ov⟩ F1' F2 ∧ (∀ i ∈ F1', i ∈ F1 ∨ i ∈ G) ∧ KeepsP (fun i => i ∉ F1 ++ F2) h h' ∧ h'.length = h.length ∧ ∀ i, OwnB h i → OwnB h' i := by
  obtain ⟨h1, h2, h3, h4, h5⟩ := o
  have hb : bOf x ∈ F1 := h1.bIn hk
  have n4 := List.nodup_append.1 h4.nodup
  obtain ⟨h', F1', e, q1, q2, q3, q4, q5, q6⟩ := h1.putL n4.1 (fun i hi => h4.own i (by simp [hi])) hk hw hg.nodup (fun i hi => fun hm => (hd i hi).1 (by simp [hm]))
  refine ⟨h', F1', e, ⟨q1, h2.keeps (q4.mono fun i hi e => n4.2.2 _ hb i hi e.symm), h3.keeps q4 (fun i hi e => h5 i hi (by rw [e]; simp [hb])) (by omega), ⟨List.nodup_append.2 ⟨q2, n4.2.1, fun u hu w hw e => ?_⟩, fun i hi => ?_, fun i hi => ?_⟩, fun i hi hm => ?_⟩, q3, q4.mono fun i hi e => hi (by rw [e]; simp [hb]), q5, q6⟩
  · subst e
    rcases q3 u hu with h | h
    · exact n4.2.2 u h u hw rfl
    · exact (hd u h).1 (by simp [hw])
  · rcases List.mem_append.1 hi with hi | hi
    · rcases q3 i hi with h | h
      · exact h4.ge i (by simp [h])
      · exact hg.ge i h
    · exact h4.ge i (by simp [hi])
  · rcases List.mem_append.1 hi with hi | hi
    · rcases q3 i hi with h | h
      · exact q6 i (h4.own i (by simp [h]))
      · exact q6 i (hg.own i h)
    · exact q6 i (h4.own i (by simp [hi]))
  · rcases List.mem_append.1 hm with hm | hm
    · rcases q3 i hm with h | h
      · exact h5 i hi (by simp [h])
      · exact (hd i h).2 hi
    · exact h5 i hi (by simp [hm])
theorem LkO.push (o : LkO lo h x y z c F1 F2) (n : Int) (hl : c.ov.length ≤ 2 ^ 20) :
    ∃ z' h', appH 1 8 z 1 [vi n] (h ++ [⟨.own, [vi n]⟩]) = some (z', h') ∧ LkO lo h' x y z' ⟨c.rd, c.wr, c.ov ++ [n]⟩ F1 F2 ∧ KeepsP (fun i => ¬ vB z i) h h' ∧ h.length < h'.length ∧ z'.cells = [z'] ∧ z'.cell = true ∧ ∀ i, vB z' i → h.length ≤ i := by
  obtain ⟨h1, h2, h3, h4, h5⟩ := o
  obtain ⟨z', h', e, q1, q2, q3, q4⟩ := oneB h3 n hl
  have hz : ∀ i ∈ F1 ++ F2, ¬ vB z i := fun i hi hv => h5 i hv hi
  refine ⟨z', h', e, ⟨h1.keeps (q2.mono fun i hi => hz i (by simp [hi])), h2.keeps (q2.mono fun i hi => hz i (by simp [hi])), q1, h4.keeps (q2.mono hz), fun i hi hm => ?_⟩, q2, q3, q1.sl.cells, q1.sl.cell, q4⟩
  have := q4 i hi
  have := (h4.own i hm).lt
  omega
end
end GL

namespace GL
open Go

def putS (row : List Int) (n : Int) : List Int := (upTo 4).filter fun x => decide (x ∈ row) || decide (x = n)
theorem putS_ris (row : List Int) (n : Int) : (putS row n).Pairwise (· < ·) := (range_rising 4).filter _
theorem putS_ext {row : List Int} {n : Int} (hr : ∀ x ∈ row, 0 ≤ x ∧ x ≤ 3) (hn : 0 ≤ n ∧ n ≤ 3) {ys : List Int} (hy : ys.Pairwise (· < ·)) (hm : ∀ x, x ∈ ys ↔ x ∈ row ∨ x = n) : ys = putS row n := by
  refine rising_ext hy (putS_ris _ _) fun x => ?_
  rw [hm, putS, List.mem_filter, mem_upTo]
  simp only [Bool.or_eq_true, decide_eq_true_eq]
  constructor
  · intro h
    refine ⟨?_, h⟩
    rcases h with h | h
    · have := hr x h; omega
    · omega
  · exact fun h => h.2
def dropS (n : Int) (row : List Int) : List Int := row.filter fun x => !decide (x = n)
def endW (n : Int) (w : Int) : Int := if w = n then -1 else w
def endC (c : Lk) (n : Int) (i : Nat) : Lk := ⟨(c.rd.take i).map (dropS n) ++ c.rd.drop i, (c.wr.take i).map (endW n) ++ c.wr.drop i, c.ov⟩
def lkStep (c : Lk) (a : Ak) : Lk :=
  if a.e = true then ⟨c.rd.map (dropS a.who), c.wr.map (endW a.who), c.ov ++ [a.who]⟩
  else if a.w = true then ⟨c.rd, c.wr.set a.item.toNat a.who, c.ov⟩
  else ⟨c.rd.set a.item.toNat (putS (c.rd.getD a.item.toNat []) a.who), c.wr, c.ov⟩
def lkCan (c : Lk) (a : Ak) : Bool := askK c a && (a.e || decide (keepL c a 4 = []))
/-- the form of locks -/
def shapeK (c : Lk) : Prop := c.rd.length = 4 ∧ c.wr.length = 4 ∧ c.ov.length ≤ 2 ^ 19 ∧ ∀ r ∈ c.rd, risB 0 3 r = true
theorem shape_row {c : Lk} (h : shapeK c) {i : Nat} (hi : i < c.rd.length) : risB 0 3 c.rd[i] = true := h.2.2.2 _ (List.getElem_mem hi)
theorem map_step {α : Type} {f : α → α} {xs : List α} {i : Nat} (hi : i < xs.length) : (xs.take (i + 1)).map f ++ xs.drop (i + 1) = ((xs.take i).map f ++ xs.drop i).set i (f xs[i]) := by
  apply List.ext_getElem
  · simp; omega
  · intro k h1 h2
    rw [List.getElem_set]
    by_cases hk : i = k
    · subst hk
      rw [if_pos rfl, List.getElem_append_left (by simp; omega)]
      simp
    · rw [if_neg hk]
      by_cases hlt : k < i
      · rw [List.getElem_append_left (by simp; omega), List.getElem_append_left (by simp; omega)]; simp
      · rw [List.getElem_append_right (by simp; omega), List.getElem_append_right (by simp; omega)]
        simp only [List.length_map, List.length_take, List.getElem_drop]
        congr 1
        simp at h1; omega
theorem map_at {α : Type} {f : α → α} {xs : List α} {i : Nat} (hi : i < xs.length) (h2 : i < ((xs.take i).map f ++ xs.drop i).length) : ((xs.take i).map f ++ xs.drop i)[i] = xs[i] := by
  rw [List.getElem_append_right (by simp; omega)]
  simp only [List.length_map, List.length_take, List.getElem_drop]
  congr 1
  omega
theorem map_len {α : Type} {f : α → α} (xs : List α) (i : Nat) : ((xs.take i).map f ++ xs.drop i).length = xs.length := by simp; omega

theorem end_ok {h : Heap} {x y z : V} {c : Lk} {F1 F2 : List Nat} {bb lo : Nat} (hb : h[bb]? = some ⟨.own, [x, y, z]⟩) (o : LkO lo h x y z c F1 F2) (hs : shapeK c) (hbF : bb ∉ F1 ++ F2) (hbz : ¬ vB z bb) (hlo : lo ≤ bb) (n : Int) :
    ∃ r h', call p 411 [.ptr bb 0, vi n] h = some (r, h') ∧ ∃ z' F1', r = .tup [] ∧ h'[bb]? = some ⟨.own, [x, y, z']⟩ ∧ LkO lo h' x y z' ⟨c.rd.map (dropS n), c.wr.map (endW n), c.ov ++ [n]⟩ F1' F2 ∧ bb ∉ F1' ++ F2 ∧ ¬ vB z' bb ∧ KeepsP (fun i => i < lo) h h' ∧ h.length ≤ h'.length := by
  obtain ⟨s1, s2, s3, s4⟩ := hs
  refine go (fn := g411) rfl rfl fun R hR => ?_
  simp [g411]
  have e0 : endC c n 0 = c := by simp [endC]
  have hbl := get_lt hb
  refine Wc_upM (M := [4, 5, 6, 7, 8, 9, 10, 11, 12, 13, 14, 15, 16, 17, 18, 19, 20, 21, 22, 23, 24, 25, 26, 27, 28, 29, 30, 31, 32, 33, 34, 35, 36, 37, 38, 39]) rfl 4 (fun i s => i ≤ 4 ∧ s.σ 5 = .v (vi i) ∧ s.h[bb]? = some ⟨.own, [x, y, z]⟩ ∧ (∃ G1, LkO lo s.h x y z (endC c n i) G1 F2 ∧ bb ∉ G1 ++ F2) ∧ KeepsP (fun i => i < lo) h s.h ∧ h.length ≤ s.h.length) 0
    ⟨by omega, by simp, hb, ⟨F1, by rw [e0]; exact o, hbF⟩, KeepsP.refl _ _, Nat.le_refl _⟩ fun i s ⟨gi, g5, gb, ⟨G1, go', gbF⟩, hk, hl⟩ hM J hJ => ?_
  have r0 := rdH_at (off := 0) (n := 1) gb (by simp)
  have r1 := rdH_at (off := 1) (n := 1) gb (by simp)
  have r2 := rdH_at (off := 2) (n := 1) gb (by simp)
  by_cases hi : i < 4
  · have hi' : (i : Int) < 4 := by omega
    have i1 : i < c.rd.length := by omega
    have i2 : i < c.wr.length := by omega
    have j1 : i < (endC c n i).rd.length := by simp only [endC]; rw [map_len]; exact i1
    have j2 : i < (endC c n i).wr.length := by simp only [endC]; rw [map_len]; exact i2
    have st : IntKind.i64.wrap ((i : Int) + 1) = (i + 1 : Nat) := by rw [IntWalk.i64_in] <;> omega
    obtain ⟨zr, Fr, lr, hzr, _⟩ := go'.1.loadL i j1
    have hrow : (endC c n i).rd[i] = c.rd[i] := map_at i1 j1
    have hwv : (endC c n i).wr[i] = c.wr[i] := map_at i2 j2
    rw [hrow] at hzr
    have ir := go'.1.idx 1 .i64 i j1
    have iw := go'.2.1.idx 1 .i64 i j2
    simp only [Nat.mul_one] at ir iw
    have hris := s4 _ (List.getElem_mem i1)
    have hrl := ris4_len hris
    have kl : Keeps s.h (s.h ++ [⟨.own, [vi n]⟩]) := Keeps.append _ _
    have sl1 := Sl.lit (h := s.h) [n] 1 rfl [vi n] rfl (.k 1) (by simp)
    obtain ⟨w2, h2, e2, G2, t2, f2, k2, l2⟩ := without_ok (hzr.keep kl).sl sl1 (by omega)
    have hflt : (c.rd[i].filter fun m => !decide (m ∈ [n])) = dropS n c.rd[i] := by simp [dropS]
    rw [hflt] at t2
    simp at l2
    have k12 := kl.trans k2
    have go2 := go'.keep k12 (by omega)
    have gb2 := k12 _ _ gb (by simp)
    have hlG : ∀ b ∈ G1 ++ F2, b < s.h.length := fun b hb => (go'.2.2.2.1.own b hb).lt
    obtain ⟨h3, G3, e3, o3, q3, k3, l3, w3⟩ := go2.setR j1 t2 (f2.mono (by have := go'.2.2.1.2.1; rw [List.length_append]; omega)) (fun b hb => ⟨fun hm => by have := hlG b hm; have := f2.ge b hb; simp at this; omega, fun hv => by have := (go'.2.2.1.ge hv).2; have := f2.ge b hb; simp at this; omega⟩)
    have hbl2 : bb < s.h.length := get_lt gb
    have gb3 : h3[bb]? = some ⟨.own, [x, y, z]⟩ := k3 _ _ gbF gb2 (by simp)
    have gbF3 : bb ∉ G3 ++ F2 := fun hm => by
      rcases List.mem_append.1 hm with hm | hm
      · rcases q3 bb hm with h | h
        · exact gbF (by simp [h])
        · have := f2.ge bb h; simp at this; omega
      · exact gbF (by simp [hm])
    have hk3 : KeepsP (fun i => i < lo) h h3 := (hk.trans (k12.p _)).trans (k3.mono fun j hj hm => by have := go'.2.2.2.1.ge j hm; omega)
    have r12 := rdH_at (off := 1) (n := 1) gb3 (by simp)
    have lw := o3.2.1.sl.loadI i j2
    rw [hwv] at lw
    have hms := map_step (f := dropS n) i1
    have hmw := map_step (f := endW n) i2
    have cr0 := rdH_keep kl r0
    have crr := rdH_keep kl lr
    have cr02 := rdH_keep k12 r0
    have t2c := t2.cells
    have t2l := t2.cell
    by_cases hw : c.wr[i] = n
    · have ew : endW n c.wr[i] = -1 := by simp [endW, hw]
      obtain ⟨h4, e4, o4, k4, l4, w4⟩ := o3.setW j2 (-1)
      have gb4 : h4[bb]? = some ⟨.own, [x, y, z]⟩ := k4 _ _ gbF3 gb3 (by simp)
      have hc : endC c n (i + 1) = ⟨(endC c n i).rd.set i (dropS n c.rd[i]), (endC c n i).wr.set i (-1), c.ov⟩ := by
        simp only [endC]; rw [hms, hmw, ew]
      rw [hw] at lw
      generalize c.rd[i] = row at *
      simp [g411_0, hM, g5, hi, hi', r0, ir, lr, fillL, stable, stab1, cr0, crr, e2, cr02, t2c, t2l, e3, r12, iw, lw, e4, st, -Int.natCast_add]
      exact hJ _ hi ⟨hi, by simp, gb4, ⟨G3, by rw [hc]; exact o4, gbF3⟩, hk3.trans (k4.mono fun j hj hm => by have := o3.2.2.2.1.ge j hm; omega), by show h.length ≤ h4.length; omega⟩
    · have ew : endW n c.wr[i] = c.wr[i] := by simp [endW, hw]
      have hc : endC c n (i + 1) = ⟨(endC c n i).rd.set i (dropS n c.rd[i]), (endC c n i).wr, c.ov⟩ := by
        simp only [endC]; rw [hms, hmw, ew]
        congr 1
        have := List.set_getElem_self (as := (c.wr.take i).map (endW n) ++ c.wr.drop i) (i := i) j2
        rw [map_at i2 j2] at this; exact this
      generalize c.rd[i] = row at *
      generalize c.wr[i] = wv at *
      simp [g411_0, hM, g5, hi, hi', r0, ir, lr, fillL, stable, stab1, cr0, crr, e2, cr02, t2c, t2l, e3, r12, iw, lw, hw, st, -Int.natCast_add]
      exact hJ _ hi ⟨hi, by simp, gb3, ⟨G3, by rw [hc]; exact o3, gbF3⟩, hk3, by show h.length ≤ h3.length; omega⟩
  · have : i = 4 := by omega
    subst this
    have e4 : endC c n 4 = ⟨c.rd.map (dropS n), c.wr.map (endW n), c.ov⟩ := by
      simp only [endC]
      rw [List.take_of_length_le (by omega), List.take_of_length_le (by omega), List.drop_of_length_le (by omega), List.drop_of_length_le (by omega), List.append_nil, List.append_nil]
    rw [e4] at go'
    obtain ⟨z', h3, e3, o3, k3, l3, zc, zl, zb⟩ := go'.push n (show c.ov.length ≤ 2 ^ 20 by omega)
    have gb3 : h3[bb]? = some ⟨.own, [x, y, z]⟩ := k3 _ _ hbz gb (by simp)
    have hw4 := wrH_at (off := 2) (xs := [z']) gb3 rfl
    have hlay : lay [x, y, z] 2 [z'] = some [x, y, z'] := by simp [lay]
    rw [hlay] at hw4
    simp only [Option.bind_some] at hw4
    have kb : KeepsP (fun i => i ≠ bb) h3 (h3.set bb ⟨.own, [x, y, z']⟩) := fun c hc hb h1 _ => by rw [List.getElem?_set_ne (Ne.symm hb)]; exact h1
    have hbl2 : bb < s.h.length := get_lt gb
    have hnz : ¬ vB z' bb := fun hv => by have := zb bb hv; omega
    simp [g411_0, hM, g5, r2, fillL, rdS_last, e3, zc, zl, hw4, resVs]
    exact hR _ _ ⟨z', G1, rfl, by rw [List.getElem?_set_self (by omega)], o3.keeps kb (fun i hi e => gbF (e ▸ hi)) (fun i hi e => hnz (e ▸ hi)) (by simp), gbF, hnz, (hk.trans (k3.mono fun j hj hv => by have := (go'.2.2.1.ge hv).1; omega)).trans (kb.mono fun j hj => by omega), by simp; omega⟩
end GL

namespace GL
open Go

/-- no list is too long -/
def smK (c : Lk) : Prop := c.rd.length ≤ 2 ^ 20 ∧ (∀ r ∈ c.rd, r.length ≤ 2 ^ 20) ∧ c.wr.length ≤ 2 ^ 20 ∧ c.ov.length ≤ 2 ^ 20
theorem mkOwn {h0 h1 h2 h3 : Heap} {x y z : V} {c : Lk} {F1 F2 : List Nat} (hy : SdF h1 y c.wr F2) (fy : Fresh h0.length h1 F2) (l1 : h0.length ≤ h1.length) (k2 : Keeps h1 h2) (l2 : h1.length ≤ h2.length) (hz : Out h1.length h2 z c.ov) (k3 : Keeps h2 h3) (l3 : h2.length ≤ h3.length) (hx : SdF h3 x c.rd F1) (fx : Fresh h2.length h3 F1) :
    LkO h0.length h3 x y z c F1 F2 := by
  have hz3 : Out h0.length h3 z c.ov := (hz.keeps (k3.p fun _ => True) (fun _ _ => trivial) l3).mono l1
  refine ⟨hx, hy.keep (k2.trans k3), hz3, ⟨List.nodup_append.2 ⟨fx.nodup, fy.nodup, fun a ha b hb e => ?_⟩, fun i hi => ?_, fun i hi => ?_⟩, fun i hi hm => ?_⟩
  · subst e; have := fx.ge a ha; have := (fy.own a hb).lt; omega
  · rcases List.mem_append.1 hi with h | h
    · have := fx.ge i h; omega
    · exact fy.ge i h
  · rcases List.mem_append.1 hi with h | h
    · exact fx.own i h
    · exact (fy.own i h).keep (k2.trans k3)
  · rcases List.mem_append.1 hm with h | h
    · have := fx.ge i h; have := (hz.ge hi).2; omega
    · have := (fy.own i h).lt; have := (hz.ge hi).1; omega

theorem clonedK_ok {h : Heap} {v : V} {c : Lk} {F : List Nat} (hc : LkV h v c F) (hs : smK c) :
    ∃ r h', call p 372 [v] h = some (r, h') ∧ ∃ x y z F1 F2, r = .agg [x, y, z] ∧ LkO h.length h' x y z c F1 F2 ∧ Keeps h h' ∧ h.length ≤ h'.length := by
  obtain ⟨x, y, z, F1, F2, F3, rfl, _, hx, hy, hz⟩ := hc
  obtain ⟨s1, s2, s3, s4⟩ := hs
  obtain ⟨y1, h1, e1, o1, k1, l1⟩ := cloneO hy.sl s3
  obtain ⟨z1, h2, e2, o2, k2, l2⟩ := cloneO (hz.keep k1).sl s4
  obtain ⟨G2, q2, f2⟩ := o1.fr
  have k12 := k1.trans k2
  refine go (fn := g372) rfl rfl fun R hR => ?_
  simp [g372, hx.cells, hx.cell, hy.cells, hy.cell, hz.cells, hz.cell, upd, e1, e2, fillL, o1.sl.cells, o1.sl.cell, o2.sl.cells, o2.sl.cell, hx.len]
  refine Wc_upM (M := [5, 16, 17, 18, 19, 20, 21, 22, 23, 24, 25, 26, 27]) rfl c.rd.length (fun i s => i ≤ c.rd.length ∧ s.σ 16 = .v (vi i) ∧ (∃ r G, s.L 3 = (1, [r, y1, z1]) ∧ OdF h2.length s.h r (c.rd.take i) G) ∧ s.L 2 = (1, [.nils, .nils, .nils]) ∧ Keeps h2 s.h ∧ h2.length ≤ s.h.length) 0
    ⟨by omega, by simp, ⟨.nils, [], by simp [upd], OdF.nil (Nat.le_refl _)⟩, by simp [upd], Keeps.refl _, Nat.le_refl _⟩ fun i s ⟨gi, g16, ⟨r, G, gL, ho⟩, gL2, hk, hl⟩ hM J hJ => ?_
  obtain ⟨Fr, sr, fr⟩ := ho.fresh
  by_cases hi : i < c.rd.length
  · obtain ⟨zr, Fz, lr, hzr, _⟩ := (hx.keep (k12.trans hk)).loadL i hi
    have ir := hx.idx 1 .i64 i hi
    simp only [Nat.mul_one] at ir
    have st := hx.step hi
    obtain ⟨w, h3, e3, G3, w3, f3, k3, l3⟩ := cloneI_ok hzr.sl (s2 _ (List.getElem_mem hi))
    obtain ⟨v', h4, e4, o4, kk4, l4⟩ := ho.one k3 l3 f3 (x := c.rd[i]) (cs := [w]) ⟨w, rfl, w3⟩ (by rw [List.length_take]; omega) (k := 1) (bytes := 24) rfl (by decide)
    rw [← List.take_succ_eq_append_getElem hi] at o4
    obtain ⟨F4, s4', _⟩ := o4.fresh
    simp [g372_0, hM, g16, gL, hi, ir, lr, e3, fillL, w3.cells, w3.cell, rdS_last, e4, s4'.cells, s4'.cell, upd, st]
    exact hJ _ hi ⟨hi, by simp, ⟨v', _, by simp [upd, gL], o4⟩, by simp [upd, gL2], kk4 h2 hk (Nat.le_refl _), by show h2.length ≤ h4.length; omega⟩
  · have : i = c.rd.length := by omega
    subst this
    rw [List.take_length] at sr
    simp [g372_0, hM, g16, gL, gL2, upd, sr.cells, sr.cell, o1.sl.cells, o1.sl.cell, o2.sl.cells, o2.sl.cell, resV, mkV]
    exact hR _ _ ⟨r, y1, z1, Fr, G2, rfl, mkOwn q2 f2 l1 k2 l2 o2 hk hl sr fr, k12.trans hk, by omega⟩

theorem ask_ok {h : Heap} {x y z : V} {c : Lk} {F1 F2 : List Nat} {bb lo : Nat} (hb : h[bb]? = some ⟨.own, [x, y, z]⟩) (o : LkO lo h x y z c F1 F2) (hs : shapeK c) (hbF : bb ∉ F1 ++ F2) (hbz : ¬ vB z bb) (hlo : lo ≤ bb) (a : Ak) :
    ∃ r h', call p 373 [.ptr bb 0, av a] h = some (r, h') ∧ r = .bool (lkCan c a) ∧ (lkCan c a = true → ∃ z' F1', h'[bb]? = some ⟨.own, [x, y, z']⟩ ∧ LkO lo h' x y z' (lkStep c a) F1' F2) ∧ KeepsP (fun i => i < lo) h h' ∧ h.length ≤ h'.length := by
  obtain ⟨F, hv, _, _⟩ := o.v
  have hx := o.1
  have hy := o.2.1
  have hz := o.2.2.1
  have r3 := rdH_at (off := 0) (n := 3) hb (by simp)
  have e1 := isAsk_eq hv a
  obtain ⟨who, item, w, e⟩ := a
  refine go (fn := g373) rfl rfl fun R hR => ?_
  cases ha : askK c ⟨who, item, w, e⟩ with
  | false =>
    rw [ha] at e1
    have hk : lkCan c ⟨who, item, w, e⟩ = false := by simp [lkCan, ha]
    rw [hk] at hR
    simp [g373, upd, r3, e1]
    exact hR _ _ ⟨rfl, by simp, KeepsP.refl _ _, Nat.le_refl _⟩
  | true =>
    rw [ha] at e1
    have ha' := ha
    simp only [askK, Bool.and_eq_true, decide_eq_true_eq, Bool.not_eq_true'] at ha'
    obtain ⟨⟨⟨hw, hov⟩, hit⟩, hend⟩ := ha'
    cases e with
    | true =>
      have hk : lkCan c ⟨who, item, w, true⟩ = true := by simp [lkCan, ha]
      rw [hk] at hR
      obtain ⟨_, h1, e2, z', F1', rfl, q1, q2, _, _, q5, q6⟩ := end_ok hb o hs hbF hbz hlo who
      simp [g373, upd, r3, e1, e2]
      exact hR _ _ ⟨rfl, fun _ => ⟨z', F1', q1, by simpa [lkStep] using q2⟩, q5, q6⟩
    | false =>
      obtain ⟨s1, s2, s3, s4⟩ := hs
      obtain ⟨r, h1, e2, o1, k1, l1⟩ := keepers_ok hv s1 s2 (a := ⟨who, item, w, false⟩) hit
      have ol := o1.sl.len
      have hKk : lkCan c ⟨who, item, w, false⟩ = decide (keepL c ⟨who, item, w, false⟩ 4 = []) := by simp [lkCan, ha]
      rw [hKk] at hR
      by_cases hnil : keepL c ⟨who, item, w, false⟩ 4 = []
      · rw [decide_eq_true hnil] at hR
        rw [hnil] at ol
        have hb1 := k1 _ _ hb (by simp)
        have o1' := o.keep k1 l1
        have t0 := rdH_at (off := 0) (n := 1) hb1 (by simp)
        have t1 := rdH_at (off := 1) (n := 1) hb1 (by simp)
        obtain ⟨m, rfl⟩ : ∃ m : Nat, item = m := ⟨item.toNat, by omega⟩
        have m1 : m < c.rd.length := by omega
        have m2 : m < c.wr.length := by omega
        have iw := hy.idx 1 .i64 m m2
        have ir := hx.idx 1 .i64 m m1
        simp only [Nat.mul_one] at iw ir
        have hm : (0 : Int) ≤ (m : Int) ∧ (m : Int) < 4 := by omega
        cases w with
        | true =>
          obtain ⟨h2, e3, o2, k2, l2, _⟩ := o1'.setW m2 who
          simp [g373, upd, r3, e1, e2, ol, t1, iw, e3]
          exact hR _ _ ⟨rfl, fun _ => ⟨z, F1, k2 _ _ hbF hb1 (by simp), by simpa [lkStep] using o2⟩, (k1.p _).trans (k2.mono fun j hj hm => by have := o1'.2.2.2.1.ge j hm; omega), by omega⟩
        | false =>
          obtain ⟨zr, Fz, lr, hzr, _⟩ := o1'.1.loadL m m1
          have hrl := ris4_len (shape_row ⟨s1, s2, s3, s4⟩ m1)
          have hrf := risB_facts (shape_row ⟨s1, s2, s3, s4⟩ m1)
          have kl : Keeps h1 (h1 ++ [⟨.own, [vi who]⟩]) := Keeps.append _ _
          have sl1 := Sl.lit (h := h1) [who] 1 rfl [vi who] rfl (.k 1) (by simp)
          obtain ⟨G1, sd1, _⟩ := Sl.sdF sl1 (Nat.le_refl 1)
          obtain ⟨w2, h2, e3, zs, G2, t2, f2, rr2, mm2, k2, l2⟩ := together_ok (hzr.keep kl) sd1 (by simp; omega)
          have hzs : zs = putS c.rd[m] who := putS_ext hrf.1 (by omega) rr2 (fun u => by rw [mm2]; simp)
          simp at l2
          have k12 := kl.trans k2
          have o2 := o1'.keep k12 (by omega)
          obtain ⟨h3, G3, e4, o3, _, k3, l3, _⟩ := o2.setR m1 t2 (f2.mono (by have := o1'.2.2.1.2.1; rw [List.length_append]; omega)) (fun b hb => ⟨fun hm => by have := (o1'.2.2.2.1.own b hm).lt; have := f2.ge b hb; simp at this; omega, fun hv => by have := (o1'.2.2.1.ge hv).2; have := f2.ge b hb; simp at this; omega⟩)
          rw [hzs] at o3
          have cr0 := rdH_keep kl t0
          have crr := rdH_keep kl lr
          have cr02 := rdH_keep k12 t0
          simp [g373, upd, r3, e1, e2, ol, t0, ir, lr, fillL, stable, stab1, cr0, crr, e3, cr02, t2.cells, t2.cell, e4]
          have hgd : c.rd.getD m [] = c.rd[m] := getD_in m1 []
          exact hR _ _ ⟨rfl, fun _ => ⟨z, G3, k3 _ _ hbF (k12 _ _ hb1 (by simp)) (by simp), by simpa [lkStep, List.getElem?_eq_getElem m1] using o3⟩, ((k1.trans k12).p _).trans (k3.mono fun j hj hm => by have := o1'.2.2.2.1.ge j hm; omega), by omega⟩
      · rw [decide_eq_false hnil] at hR
        have hpos : 0 < (keepL c ⟨who, item, w, false⟩ 4).length := List.length_pos_iff.2 hnil
        have hposi : (0 : Int) < (keepL c ⟨who, item, w, false⟩ 4).length := by omega
        simp [g373, upd, r3, e1, e2, ol, hpos, hposi]
        exact hR _ _ ⟨rfl, by simp, k1.p _, l1⟩
end GL

namespace GL
open Go

theorem own_tail {h H : Heap} {x z1 y1 : V} {c : Lk} {F1 G2 : List Nat} (hx : SdF h x c.rd F1) (hs : smK c) (kH : Keeps h H) (lH : h.length ≤ H.length) (s0 : S) (K : Ex → S → Prop) (hH : s0.h = H) (gL : s0.L 3 = (1, [.nils, y1, z1])) (gL2 : s0.L 2 = (1, [.nils, .nils, .nils])) (g3 : s0.σ 3 = .lp 3 1 0) (g2 : s0.σ 2 = .lp 2 1 0) (g16 : s0.σ 16 = .v x) (g17 : s0.σ 17 = .v (vi c.rd.length)) (g18 : s0.σ 18 = .v (vi 0))
    (hK : ∀ s r F, SdF s.h r c.rd F → Fresh H.length s.h F → Keeps H s.h → H.length ≤ s.h.length → s.L 3 = (1, [r, y1, z1]) → s.L 2 = (1, [.nils, .nils, .nils]) → s.σ 3 = .lp 3 1 0 → s.σ 2 = .lp 2 1 0 → K (.exit 0) s) : Wc p (.loop g369_0) s0 K := by
  obtain ⟨s1, s2, _, _⟩ := hs
  refine Wc_upM (M := [5, 18, 19, 20, 21, 22, 23, 24, 25, 26, 27, 28, 29, 30]) rfl c.rd.length (fun i s => i ≤ c.rd.length ∧ s.σ 18 = .v (vi i) ∧ (∃ r G, s.L 3 = (1, [r, y1, z1]) ∧ OdF H.length s.h r (c.rd.take i) G) ∧ s.L 2 = (1, [.nils, .nils, .nils]) ∧ Keeps H s.h ∧ H.length ≤ s.h.length) 0
    ⟨by omega, by simpa using g18, ⟨.nils, [], gL, by rw [hH]; exact OdF.nil (Nat.le_refl _)⟩, gL2, by rw [hH]; exact Keeps.refl _, by rw [hH]; exact Nat.le_refl _⟩ fun i s ⟨gi, g18, ⟨r, G, gL, ho⟩, gL2, hk, hl⟩ hM J hJ => ?_
  obtain ⟨Fr, sr, fr⟩ := ho.fresh
  by_cases hi : i < c.rd.length
  · obtain ⟨zr, Fz, lr, hzr, _⟩ := (hx.keep (kH.trans hk)).loadL i hi
    have ir := hx.idx 1 .i64 i hi
    simp only [Nat.mul_one] at ir
    have st := hx.step hi
    obtain ⟨e3, w, h3, e4, G3, w3, f3, k3, l3⟩ := appNew hzr.sl (s2 _ (List.getElem_mem hi)) (k := 1) (bytes := 8) rfl (by decide)
    obtain ⟨v', h4, e5, o4, kk4, l4⟩ := ho.one k3 l3 f3 (x := c.rd[i]) (cs := [w]) ⟨w, rfl, w3⟩ (by rw [List.length_take]; omega) (k := 1) (bytes := 24) rfl (by decide)
    rw [← List.take_succ_eq_append_getElem hi] at o4
    obtain ⟨F4, s4', _⟩ := o4.fresh
    simp [g369_0, hM, g16, g17, g18, gL, g3, hi, ir, lr, hzr.len, e3, e4, fillL, w3.cells, w3.cell, rdS_last, e5, s4'.cells, s4'.cell, upd, st]
    exact hJ _ hi ⟨hi, by simp, ⟨v', _, by simp [upd, gL], o4⟩, by simp [upd, gL2], kk4 H hk (Nat.le_refl _), by show H.length ≤ h4.length; omega⟩
  · have : i = c.rd.length := by omega
    subst this
    rw [List.take_length] at sr
    simp [g369_0, hM, g17, g18]
    exact hK _ r Fr sr fr hk hl gL gL2 (by simp [hM, g3]) (by simp [hM, g2])

theorem l8Own_ok {h : Heap} {v : V} {c : Lk} {F : List Nat} (hc : LkV h v c F) (hs : smK c) (n1 : 0 < c.wr.length) :
    ∃ r h', call p 369 [v] h = some (r, h') ∧ ∃ x y z F1 F2, r = .agg [x, y, z] ∧ LkO h.length h' x y z c F1 F2 ∧ Keeps h h' ∧ h.length ≤ h'.length := by
  obtain ⟨x, y, z, F1, F2, F3, rfl, _, hx, hy, hz⟩ := hc
  have hs' := hs
  obtain ⟨s1, s2, s3, s4⟩ := hs
  have k1 : Keeps h (h ++ [⟨.own, []⟩, deadBlk]) := Keeps.append h _
  have k2 : Keeps h (h ++ [⟨.own, []⟩, ⟨.own, []⟩, ⟨.own, flats c.wr⟩]) := Keeps.append h _
  have e1 := (hy.keep k1).sl.rdS _ (Nat.le_refl _)
  have e2 := (hz.keep k2).sl.rdS _ (Nat.le_refl _)
  rw [List.take_length] at e1 e2
  have e1' : rdS (h ++ [⟨.own, []⟩, deadBlk]) 1 y c.wr.length = some (flats c.wr) := e1
  have e2' : rdS (h ++ [⟨.own, []⟩, ⟨.own, []⟩, ⟨.own, flats c.wr⟩]) 1 z c.ov.length = some (flats c.ov) := e2
  refine go (fn := g369) rfl rfl fun R hR => ?_
  have iD : isDead [⟨.own, []⟩, deadBlk, ⟨.own, flats c.wr⟩] 1 = true := rfl
  have iD0 : isDead [deadBlk, deadBlk] 0 = true := rfl
  have a0 := isDeadA h [deadBlk, deadBlk] 0
  have s0 := setA h [deadBlk, deadBlk] 0 ⟨.own, []⟩
  have a1 := isDeadA h [⟨.own, []⟩, deadBlk, ⟨.own, flats c.wr⟩] 1
  have s1' := setA h [⟨.own, []⟩, deadBlk, ⟨.own, flats c.wr⟩] 1 ⟨.own, []⟩
  simp only [Nat.add_zero, List.set_cons_zero, List.set_cons_succ] at a0 s0 a1 s1'
  have ad : allDead (h ++ [⟨.own, []⟩, deadBlk]) h.length (upd (fun _ => false) 0 true) [1] = true := by simp only [allDead, List.all_cons, List.all_nil, isDeadA]; rfl
  have ad2 : allDead (h ++ [⟨.own, []⟩, deadBlk, ⟨.own, flats c.wr⟩]) h.length (upd (fun _ => false) 0 true) [1] = true := by simp only [allDead, List.all_cons, List.all_nil, isDeadA]; rfl
  by_cases h0 : c.ov = []
  · have hk3 : Keeps h (h ++ [⟨.own, []⟩, ⟨.own, []⟩, ⟨.own, flats c.wr⟩]) := Keeps.append h _
    have f1 : SdF (h ++ [⟨.own, []⟩, ⟨.own, []⟩, ⟨.own, flats c.wr⟩]) (.slice (h.length + 2) 0 c.wr.length (.o 1)) c.wr [h.length + 2] := sdF_new (by simp) (by omega) rfl
    have fr1 : Fresh h.length (h ++ [⟨.own, []⟩, ⟨.own, []⟩, ⟨.own, flats c.wr⟩]) [h.length + 2] := ⟨by simp, by simp, fun b hb => by simp at hb; subst hb; exact ⟨flats c.wr, by simp⟩⟩
    have oz : Out h.length (h ++ [⟨.own, []⟩, ⟨.own, []⟩, ⟨.own, flats c.wr⟩]) (.slice (h.length + 1) 0 0 (.k 0)) c.ov := by rw [h0]; exact Out.empty (by omega) (by simp)
    have zl : lenV z = some 0 := by have := hz.len; rw [h0] at this; exact this
    rw [h0] at e2'
    have ap : ∀ b H, appH 1 8 (.slice b 0 0 (.k 0)) 0 (flats ([] : List Int)) H = some (.slice b 0 0 (.k 0), H) := fun _ _ => rfl
    have e2'' : rdS (h ++ [⟨.own, []⟩, ⟨.own, []⟩, ⟨.own, flats c.wr⟩]) 1 z 0 = some (flats ([] : List Int)) := e2'
    simp [ad, ad2, g369, fillL, upd, begin_two, xop_m, a0, s0, a1, s1', iD, iD0, hx.cells, hx.cell, hy.cells, hy.cell, hz.cells, hz.cell, hy.len, zl, hx.len, e1', e2'', appH_first n1 s3, ap]
    refine own_tail (y1 := .slice (h.length + 2) 0 c.wr.length (.o 1)) (z1 := .slice (h.length + 1) 0 0 (.k 0)) (G2 := [h.length + 2]) (H := h ++ [⟨.own, []⟩, ⟨.own, []⟩, ⟨.own, flats c.wr⟩]) hx hs' hk3 (by simp) _ _ rfl (by simp [upd]) (by simp [upd]) (by simp) (by simp) (by simp) (by simp) (by simp) fun s r Fr q1 q2 q3 q4 q5 q6 q7 q8 => ?_
    simp [q5, q6, q7, q8, q1.cells, q1.cell, upd, resV, mkV]
    refine hR _ _ ⟨r, _, _, Fr, [h.length + 2], rfl, ?_, hk3.trans q3, by simp at q4; omega⟩
    have oz3 : Out h.length s.h (.slice (h.length + 1) 0 0 (.k 0)) c.ov := oz.keeps (q3.p fun _ => True) (fun _ _ => trivial) q4
    refine ⟨q1, f1.keep q3, oz3, ⟨List.nodup_append.2 ⟨q2.nodup, by simp, fun a ha b hb e => ?_⟩, fun i hi => ?_, fun i hi => ?_⟩, fun i hi hm => ?_⟩
    · simp at hb; subst hb; subst e; have := q2.ge _ ha; simp at this
    · rcases List.mem_append.1 hi with h | h
      · have := q2.ge i h; simp at this; omega
      · simp at h; omega
    · rcases List.mem_append.1 hi with h | h
      · exact q2.own i h
      · exact (fr1.own i h).keep q3
    · obtain ⟨_, _, _, e⟩ := hi
      cases e
      rcases List.mem_append.1 hm with h | h
      · have := q2.ge _ h; simp at this
      · simp at h
  · have n2 : 0 < c.ov.length := List.length_pos_iff.2 h0
    have hk3 : Keeps h (h ++ [⟨.own, []⟩, ⟨.own, []⟩, ⟨.own, flats c.wr⟩, ⟨.own, flats c.ov⟩]) := Keeps.append h _
    have f1 : SdF (h ++ [⟨.own, []⟩, ⟨.own, []⟩, ⟨.own, flats c.wr⟩, ⟨.own, flats c.ov⟩]) (.slice (h.length + 2) 0 c.wr.length (.o 1)) c.wr [h.length + 2] := sdF_new (by simp) (by omega) rfl
    have fr1 : Fresh h.length (h ++ [⟨.own, []⟩, ⟨.own, []⟩, ⟨.own, flats c.wr⟩, ⟨.own, flats c.ov⟩]) [h.length + 2] := ⟨by simp, by simp, fun b hb => by simp at hb; subst hb; exact ⟨flats c.wr, by simp⟩⟩
    have oz : Out h.length (h ++ [⟨.own, []⟩, ⟨.own, []⟩, ⟨.own, flats c.wr⟩, ⟨.own, flats c.ov⟩]) (.slice (h.length + 3) 0 c.ov.length (.o 1)) c.ov := ⟨by omega, by simp, .inr (.inl ⟨h.length + 3, rfl, by simp, by omega⟩)⟩
    simp [ad, ad2, g369, fillL, upd, begin_two, xop_m, a0, s0, a1, s1', iD, iD0, hx.cells, hx.cell, hy.cells, hy.cell, hz.cells, hz.cell, hy.len, hz.len, hx.len, e1', e2', appH_first n1 s3, appH_first n2 s4]
    refine own_tail (y1 := .slice (h.length + 2) 0 c.wr.length (.o 1)) (z1 := .slice (h.length + 3) 0 c.ov.length (.o 1)) (G2 := [h.length + 2]) (H := h ++ [⟨.own, []⟩, ⟨.own, []⟩, ⟨.own, flats c.wr⟩, ⟨.own, flats c.ov⟩]) hx hs' hk3 (by simp) _ _ rfl (by simp [upd]) (by simp [upd]) (by simp) (by simp) (by simp) (by simp) (by simp) fun s r Fr q1 q2 q3 q4 q5 q6 q7 q8 => ?_
    simp [q5, q6, q7, q8, q1.cells, q1.cell, upd, resV, mkV]
    refine hR _ _ ⟨r, _, _, Fr, [h.length + 2], rfl, ?_, hk3.trans q3, by simp at q4; omega⟩
    have oz3 : Out h.length s.h (.slice (h.length + 3) 0 c.ov.length (.o 1)) c.ov := oz.keeps (q3.p fun _ => True) (fun _ _ => trivial) q4
    refine ⟨q1, f1.keep q3, oz3, ⟨List.nodup_append.2 ⟨q2.nodup, by simp, fun a ha b hb e => ?_⟩, fun i hi => ?_, fun i hi => ?_⟩, fun i hi hm => ?_⟩
    · simp at hb; subst hb; subst e; have := q2.ge _ ha; simp at this
    · rcases List.mem_append.1 hi with h | h
      · have := q2.ge i h; simp at this; omega
      · simp at h; omega
    · rcases List.mem_append.1 hi with h | h
      · exact q2.own i h
      · exact (fr1.own i h).keep q3
    · obtain ⟨_, _, _, e⟩ := hi
      cases e
      rcases List.mem_append.1 hm with h | h
      · have := q2.ge _ h; simp at this
      · simp at h
end GL

namespace GL
open Go

theorem l1Put2_ok {h : Heap} {v : V} {xs : List Int} {F : List Nat} (hs : SdF h v xs F) (hr : xs.Pairwise (· < ·)) (hl : xs.length ≤ 2 ^ 20) (n : Int) :
    ∃ r h', call p 410 [v, vi n] h = some (r, h') ∧ ∃ ys, ys.Pairwise (· < ·) ∧ (∀ x, x ∈ ys ↔ x ∈ xs ∨ x = n) ∧ ((r = v ∧ h' = h ∧ ys = xs) ∨ ∃ G, SdF h' r ys G ∧ Fresh h.length h' G) ∧ Keeps h h' ∧ h.length ≤ h'.length := by
  refine go (fn := g410) rfl rfl fun R hR => ?_
  have hsl := hs.sl
  simp only [g410]
  simp
  refine Wc_upM (M := [5, 7, 8, 9, 10, 11, 12, 13, 14, 15, 16, 17, 18, 19, 20]) rfl xs.length (fun i s => i ≤ xs.length ∧ s.σ 5 = .v (vi i) ∧ s.h = h ∧ ∀ y ∈ xs.take i, y < n) 0 (by simp) fun i s ⟨gi, g5, gh, hall⟩ hM J hJ => ?_
  by_cases hc : ∃ hn : i < xs.length, xs[i] < n
  · obtain ⟨hn, hlt⟩ := hc
    simp [g410_0, hM, g5, gh, hsl.len, hn, hsl.idx, hsl.loadI, hlt, hsl.step hn]
    exact hJ _ hn ⟨hn, by simp, rfl, (all_take_succ hn).2 ⟨hall, hlt⟩⟩
  · -- all behind are greater, or equal
    have hge : ∀ y ∈ xs.drop i, n ≤ y := fun y hy => by
      obtain ⟨q, hq, rfl⟩ := List.getElem_of_mem hy
      rw [List.length_drop] at hq
      rw [List.getElem_drop]
      have hi : i < xs.length := by omega
      have a : ¬ xs[i] < n := fun h => hc ⟨hi, h⟩
      by_cases e : q = 0
      · subst e; simp only [Nat.add_zero]; omega
      · have := (List.pairwise_iff_getElem.1 hr) i (i + q) hi (by omega) (by omega); omega
    have new : (∀ hi : i < xs.length, xs[i] ≠ n) → (xs.take i ++ [n] ++ xs.drop i).Pairwise (· < ·) := fun hne => by
      rw [List.append_assoc, List.pairwise_append]
      refine ⟨hr.sublist (List.take_sublist ..), ?_, fun a ha b hb => ?_⟩
      · rw [List.singleton_append, List.pairwise_cons]
        refine ⟨fun y hy => ?_, hr.sublist (List.drop_sublist ..)⟩
        have h1 := hge y hy
        obtain ⟨q, hq, rfl⟩ := List.getElem_of_mem hy
        rw [List.length_drop] at hq
        rw [List.getElem_drop] at h1 ⊢
        by_cases e : q = 0
        · subst e
          have := hne (by omega)
          simp only [Nat.add_zero] at h1 ⊢; omega
        · have hi : i < xs.length := by omega
          have := (List.pairwise_iff_getElem.1 hr) i (i + q) hi (by omega) (by omega)
          have a : ¬ xs[i] < n := fun h => hc ⟨hi, h⟩
          omega
      · have h1 := hall a ha
        rcases List.mem_append.1 hb with hb | hb
        · simp at hb; omega
        · have := hge b hb; omega
    have mem : ∀ x, x ∈ xs.take i ++ [n] ++ xs.drop i ↔ x ∈ xs ∨ x = n := fun x => by
      conv => rhs; rw [← List.take_append_drop i xs]
      simp only [List.mem_append, List.mem_singleton]
      constructor
      · rintro ((h | h) | h)
        · exact .inl (.inl h)
        · exact .inr h
        · exact .inl (.inr h)
      · rintro ((h | h) | h)
        · exact .inl (.inl h)
        · exact .inr h
        · exact .inl (.inr h)
    -- the three parts
    obtain ⟨v1, F1, s1, t1, m1, b1⟩ := hs.sub (lo := none) (hi := some i) (i := 0) (j := i) rfl rfl (Nat.zero_le _) gi (k := 1) rfl
    obtain ⟨v2, F2, s2, t2, m2, b2⟩ := hs.sub (lo := some i) (hi := none) (i := i) (j := xs.length) rfl rfl gi (Nat.le_refl _) (k := 1) rfl
    rw [List.drop_zero] at t1
    rw [List.take_length] at t2
    have ka : Keeps h (h ++ [⟨.own, []⟩]) := Keeps.append _ _
    have o0 : Out h.length (h ++ [⟨.own, []⟩]) (.slice h.length 0 0 (.k 0)) ([] : List Int) := Out.empty (Nat.le_refl _) (by simp)
    have hl1 : (xs.take i).length = i := by simp; omega
    obtain ⟨ys1, w1, h2, e3, e4, o1, k2, l2⟩ := o0.appS (t1.keep ka).sl (bytes := 8) (by decide) (by simp; omega) (k := 1) rfl (n := i) hl1.symm
    have k02 : Keeps h h2 := Keeps.far (n := h.length) ka k2 (Nat.le_refl _) fun i hi hv => by have := (o0.ge hv).1; omega
    simp only [List.nil_append] at o1
    obtain ⟨w2, h3, e5, o2, k3, l3⟩ := o1.one n (by simp; omega)
    have k03 := o1.far k02 k3 (Nat.le_refl _)
    have hl2 : (xs.drop i).length = xs.length - i := by simp
    obtain ⟨ys2, w3, h4, e6, e7, o3, k4, l4⟩ := o2.appS (t2.keep k03).sl (bytes := 8) (by decide) (by simp; omega) (k := 1) rfl (n := xs.length - i) hl2.symm
    have k04 := o2.far k03 k4 (Nat.le_refl _)
    obtain ⟨G, q1, q2⟩ := o3.fr
    have len1 := t1.len
    have len2 := t2.len
    rw [hl1] at len1
    rw [hl2] at len2
    by_cases hn : i < xs.length
    · have hlt : ¬ xs[i] < n := fun h => hc ⟨hn, h⟩
      by_cases he : xs[i] = n
      · simp [g410_0, hM, g5, gh, hsl.len, hn, hsl.idx, hsl.loadI, he]
        refine hR _ _ ⟨xs, hr, fun x => ⟨.inl, ?_⟩, .inl ⟨rfl, rfl, rfl⟩, Keeps.refl _, Nat.le_refl _⟩
        rintro (h | h)
        · exact h
        · rw [h, ← he]; exact List.getElem_mem _
      · simp [g410_0, hM, g5, gh, hsl.len, hn, hsl.idx, hsl.loadI, hlt, he, fillL, bounds, takeB, s1, s2, len1, len2, e3, e4, rdS_last, e5, e6, e7]
        exact hR _ _ ⟨_, new fun _ => he, mem, .inr ⟨G, q1, q2⟩, k04, by simp at l2; omega⟩
    · simp [g410_0, hM, g5, gh, hsl.len, hn, fillL, bounds, takeB, s1, s2, len1, len2, e3, e4, rdS_last, e5, e6, e7]
      exact hR _ _ ⟨_, new fun h => absurd h hn, mem, .inr ⟨G, q1, q2⟩, k04, by simp at l2; omega⟩

/-- what is written stands there already -/
theorem wr_same {h : Heap} {b o : Nat} {w : V} (ho : OwnB h b) (hr : rdH h b o 1 = some [w]) : wrH h b o [w] = some h := by
  obtain ⟨cs, hb⟩ := ho
  rw [rdH_at hb (by simp)] at hr
  simp only [cut] at hr
  by_cases hl : o + 1 ≤ cs.length
  · rw [if_pos hl, List.drop_eq_getElem_cons (by omega)] at hr
    have hw : cs[o] = w := (List.cons.inj (Option.some.inj hr)).1
    rw [wrH_at hb rfl]
    have hlay : lay cs o [w] = some cs := by
      simp only [lay, List.length_singleton]
      rw [if_pos hl]
      congr 1
      rw [← hw, List.append_assoc, List.singleton_append, ← List.drop_eq_getElem_cons (by omega), List.take_append_drop]
    rw [hlay]
    show some (h.set b ⟨.own, cs⟩) = some h
    congr 1
    apply List.ext_getElem?
    intro i
    rw [List.getElem?_set]
    by_cases hib : b = i
    · subst hib; rw [if_pos rfl, if_pos (get_lt hb), hb]
    · rw [if_neg hib]
  · rw [if_neg hl] at hr; cases hr
theorem l8Drop_ok {h : Heap} {v : V} {xs : List Int} (hs : Sl h v xs) (hl : xs.length ≤ 2 ^ 20) (n : Int) : ∃ r h', call p 409 [v, vi n] h = some (r, h') ∧ Out h.length h' r (dropS n xs) ∧ Keeps h h' ∧ h.length ≤ h'.length := by
  refine go (fn := g409) rfl rfl fun R hR => ?_
  simp [g409, hs.len]
  refine Wc_upM (M := [5, 7, 10, 11, 12, 13, 14, 15, 16, 17, 18, 19, 20, 21]) rfl xs.length (fun i s => i ≤ xs.length ∧ s.σ 10 = .v (vi i) ∧ (∃ v, s.σ 5 = .v v ∧ Out h.length s.h v (dropS n (xs.take i))) ∧ Keeps h s.h ∧ h.length ≤ s.h.length) 0
    ⟨by omega, by simp, ⟨.nils, by simp, Out.nil (Nat.le_refl _)⟩, Keeps.refl _, Nat.le_refl _⟩ fun i s ⟨gi, g10, ⟨v5, g5, ho⟩, hk, hln⟩ hM J hJ => ?_
  by_cases hi : i < xs.length
  · have ix := hs.idx 1 .i64 i hi
    simp only [Nat.mul_one] at ix
    have ld := (hs.keeps hk).loadI i hi
    have st := hs.step hi
    have htk : dropS n (xs.take (i + 1)) = dropS n (xs.take i) ++ (if xs[i] = n then [] else [xs[i]]) := by
      rw [List.take_succ_eq_append_getElem hi, dropS, List.filter_append]
      by_cases h : xs[i] = n <;> simp [h, dropS]
    have hln2 : (dropS n (xs.take i)).length ≤ 2 ^ 20 := Nat.le_trans (List.length_filter_le ..) (by rw [List.length_take]; omega)
    obtain ⟨v', h3, e3, o3, k3, l3⟩ := ho.one xs[i] hln2
    generalize xs[i] = x at *
    by_cases hx : x = n
    · rw [if_pos hx, List.append_nil] at htk
      simp [g409_0, hM, g10, g5, hi, ix, ld, hx, st]
      exact hJ _ hi ⟨hi, by simp, ⟨v5, by simp [g5], by rw [htk]; exact ho⟩, hk, hln⟩
    · rw [if_neg hx] at htk
      simp [g409_0, hM, g10, g5, hi, ix, ld, hx, fillL, rdS_last, e3, st]
      exact hJ _ hi ⟨hi, by simp, ⟨v', by simp, by rw [htk]; exact o3⟩, ho.far hk k3 (Nat.le_refl _), by show h.length ≤ h3.length; omega⟩
  · have : i = xs.length := by omega
    subst this
    rw [List.take_length] at ho
    simp [g409_0, hM, g10, g5]
    exact hR _ _ ⟨ho, hk, hln⟩

theorem l8Step_ok {h : Heap} {x y z : V} {c : Lk} {F1 F2 : List Nat} {lo : Nat} (o : LkO lo h x y z c F1 F2) (hs : shapeK c) (a : Ak) :
    ∃ r h', call p 370 [.agg [x, y, z], av a] h = some (r, h') ∧ ∃ z' F1', r = .tup [.agg [x, y, z'], .bool (lkCan c a)] ∧ z'.cells = [z'] ∧ z'.cell = true ∧ (lkCan c a = true → LkO lo h' x y z' (lkStep c a) F1' F2) ∧ KeepsP (fun i => i < lo) h h' ∧ h.length ≤ h'.length := by
  obtain ⟨F, hv, _, _⟩ := o.v
  have hx := o.1
  have hy := o.2.1
  have hz := o.2.2.1
  have e1 := l8Ask_eq hv a
  have zc := hz.sl.cells
  have zl := hz.sl.cell
  obtain ⟨who, item, w, e⟩ := a
  refine go (fn := g370) rfl rfl fun R hR => ?_
  cases ha : askK c ⟨who, item, w, e⟩ with
  | false =>
    rw [ha] at e1
    have hk : lkCan c ⟨who, item, w, e⟩ = false := by simp [lkCan, ha]
    rw [hk] at hR
    simp [g370, upd, hx.cells, hx.cell, hy.cells, hy.cell, zc, zl, e1, resV, mkV]
    exact hR _ _ ⟨z, F1, rfl, zc, zl, by simp, KeepsP.refl _ _, Nat.le_refl _⟩
  | true =>
    rw [ha] at e1
    have ha' := ha
    simp only [askK, Bool.and_eq_true, decide_eq_true_eq, Bool.not_eq_true'] at ha'
    obtain ⟨⟨⟨hw, hov⟩, hit⟩, hend⟩ := ha'
    obtain ⟨s1, s2, s3, s4⟩ := hs
    cases e with
    | true =>
      have hk : lkCan c ⟨who, item, w, true⟩ = true := by simp [lkCan, ha]
      rw [hk] at hR
      have c2i : (c.wr.length : Int) = 4 := by omega
      have e0 : endC c who 0 = c := by simp [endC]
      simp [g370, upd, hx.cells, hx.cell, hy.cells, hy.cell, zc, zl, e1, hy.len, c2i]
      refine Wc_upM (M := [6, 33, 34, 35, 36, 37, 38, 39, 40, 41, 42, 43, 44, 45, 46, 47, 48, 49, 50, 51, 52, 53, 54, 55, 56, 57, 58, 59, 60]) rfl 4 (fun i s => i ≤ 4 ∧ s.σ 33 = .v (vi i) ∧ s.L 2 = (1, [x, y, z]) ∧ s.L 3 = (1, [vi who, vi item, .bool w, .bool true]) ∧ s.L 4 = (1, [.nils, .nils, .nils]) ∧ (∃ G1, LkO lo s.h x y z (endC c who i) G1 F2) ∧ KeepsP (fun i => i < lo) h s.h ∧ h.length ≤ s.h.length) 0
        ⟨by omega, by simp, by simp [upd], by simp [upd], by simp [upd], ⟨F1, by rw [e0]; exact o⟩, KeepsP.refl _ _, Nat.le_refl _⟩ fun i s ⟨gi, g33, gL2, gL3, gL4, ⟨G1, go'⟩, hk, hl⟩ hM J hJ => ?_
      by_cases hi : i < 4
      · have hi' : (i : Int) < 4 := by omega
        have i1 : i < c.rd.length := by omega
        have i2 : i < c.wr.length := by omega
        have j1 : i < (endC c who i).rd.length := by simp only [endC]; rw [map_len]; exact i1
        have j2 : i < (endC c who i).wr.length := by simp only [endC]; rw [map_len]; exact i2
        have st : IntKind.i64.wrap ((i : Int) + 1) = (i + 1 : Nat) := by rw [IntWalk.i64_in] <;> omega
        obtain ⟨zr, Fr, lr, hzr, _⟩ := go'.1.loadL i j1
        have hrow : (endC c who i).rd[i] = c.rd[i] := map_at i1 j1
        have hwv : (endC c who i).wr[i] = c.wr[i] := map_at i2 j2
        rw [hrow] at hzr
        have ir := go'.1.idx 1 .i64 i j1
        have iw := go'.2.1.idx 1 .i64 i j2
        simp only [Nat.mul_one] at ir iw
        have hris := s4 _ (List.getElem_mem i1)
        have hrl := ris4_len hris
        obtain ⟨w2, h2, e2, o2, k2, l2⟩ := l8Drop_ok hzr.sl (by omega) who
        obtain ⟨G2, t2, f2⟩ := o2.fr
        have go2 := go'.keep k2 l2
        obtain ⟨h3, G3, e3, o3, q3, k3, l3, w3⟩ := go2.setR j1 t2 (f2.mono (by have := go'.2.2.1.2.1; omega)) (fun b hb => ⟨fun hm => by have := (go'.2.2.2.1.own b hm).lt; have := f2.ge b hb; omega, fun hv => by have := (go'.2.2.1.ge hv).2; have := f2.ge b hb; omega⟩)
        have hk3 : KeepsP (fun i => i < lo) h h3 := (hk.trans (k2.p _)).trans (k3.mono fun j hj hm => by have := go'.2.2.2.1.ge j hm; omega)
        have lw := o3.2.1.sl.loadI i j2
        rw [hwv] at lw
        have hms := map_step (f := dropS who) i1
        have hmw := map_step (f := endW who) i2
        have t2c := t2.cells
        have t2l := t2.cell
        by_cases hw : c.wr[i] = who
        · have ew : endW who c.wr[i] = -1 := by simp [endW, hw]
          obtain ⟨h4, e4, o4, k4, l4, w4⟩ := o3.setW j2 (-1)
          have hc : endC c who (i + 1) = ⟨(endC c who i).rd.set i (dropS who c.rd[i]), (endC c who i).wr.set i (-1), c.ov⟩ := by
            simp only [endC]; rw [hms, hmw, ew]
          rw [hw] at lw
          generalize c.rd[i] = row at *
          simp [g370_0, hM, g33, gL2, gL3, hi, hi', ir, lr, e2, t2c, t2l, e3, iw, lw, e4, st, -Int.natCast_add]
          exact hJ _ hi ⟨hi, by simp, by simp [gL2], by simp [gL3], by simp [gL4], ⟨G3, by rw [hc]; exact o4⟩, hk3.trans (k4.mono fun j hj hm => by have := o3.2.2.2.1.ge j hm; omega), by show h.length ≤ h4.length; omega⟩
        · have ew : endW who c.wr[i] = c.wr[i] := by simp [endW, hw]
          have hc : endC c who (i + 1) = ⟨(endC c who i).rd.set i (dropS who c.rd[i]), (endC c who i).wr, c.ov⟩ := by
            simp only [endC]; rw [hms, hmw, ew]
            congr 1
            have := List.set_getElem_self (as := (c.wr.take i).map (endW who) ++ c.wr.drop i) (i := i) j2
            rw [map_at i2 j2] at this; exact this
          generalize c.rd[i] = row at *
          generalize c.wr[i] = wv at *
          simp [g370_0, hM, g33, gL2, gL3, hi, hi', ir, lr, e2, t2c, t2l, e3, iw, lw, hw, st, -Int.natCast_add]
          exact hJ _ hi ⟨hi, by simp, by simp [gL2], by simp [gL3], by simp [gL4], ⟨G3, by rw [hc]; exact o3⟩, hk3, by show h.length ≤ h3.length; omega⟩
      · have : i = 4 := by omega
        subst this
        have e4 : endC c who 4 = ⟨c.rd.map (dropS who), c.wr.map (endW who), c.ov⟩ := by
          simp only [endC]
          rw [List.take_of_length_le (by omega), List.take_of_length_le (by omega), List.drop_of_length_le (by omega), List.drop_of_length_le (by omega), List.append_nil, List.append_nil]
        rw [e4] at go'
        obtain ⟨z', h3, e3, o3, k3, l3, zc', zl', zb⟩ := go'.push who (show c.ov.length ≤ 2 ^ 20 by omega)
        simp [g370_0, hM, g33, gL2, gL3, gL4, fillL, rdS_last, e3, zc', zl', upd, hx.cells, hx.cell, hy.cells, hy.cell, resV, mkV]
        exact hR _ _ ⟨z', G1, rfl, zc', zl', fun _ => by simpa [lkStep] using o3, hk.trans (k3.mono fun j hj hv => by have := (go'.2.2.1.ge hv).1; omega), by omega⟩
    | false =>
      obtain ⟨r, h1, e2, o1, k1, l1⟩ := l8Waits_ok hv s1 s2 (a := ⟨who, item, w, false⟩) hit
      have ol := o1.sl.len
      have hKk : lkCan c ⟨who, item, w, false⟩ = decide (keepL c ⟨who, item, w, false⟩ 4 = []) := by simp [lkCan, ha]
      rw [hKk] at hR
      by_cases hnil : keepL c ⟨who, item, w, false⟩ 4 = []
      · rw [decide_eq_true hnil] at hR
        rw [hnil] at ol
        have o1' := o.keep k1 l1
        obtain ⟨m, rfl⟩ : ∃ m : Nat, item = m := ⟨item.toNat, by omega⟩
        have m1 : m < c.rd.length := by omega
        have m2 : m < c.wr.length := by omega
        have iw := hy.idx 1 .i64 m m2
        have ir := hx.idx 1 .i64 m m1
        simp only [Nat.mul_one] at iw ir
        cases w with
        | true =>
          obtain ⟨h2, e3, o2, k2, l2, _⟩ := o1'.setW m2 who
          simp [g370, upd, hx.cells, hx.cell, hy.cells, hy.cell, zc, zl, e1, e2, ol, iw, e3, resV, mkV]
          exact hR _ _ ⟨z, F1, rfl, zc, zl, fun _ => by simpa [lkStep] using o2, (k1.p _).trans (k2.mono fun j hj hm => by have := o1'.2.2.2.1.ge j hm; omega), by omega⟩
        | false =>
          obtain ⟨zr, Fz, lr, hzr, _⟩ := o1'.1.loadL m m1
          have hrl := ris4_len (shape_row ⟨s1, s2, s3, s4⟩ m1)
          have hrf := risB_facts (shape_row ⟨s1, s2, s3, s4⟩ m1)
          obtain ⟨w2, h2, e3, zs, rr2, mm2, hcase, k2, l2⟩ := l1Put2_ok hzr hrf.2 (by omega) who
          have hzs : zs = putS c.rd[m] who := putS_ext hrf.1 (by omega) rr2 mm2
          have hgd : c.rd.getD m [] = c.rd[m] := getD_in m1 []
          rcases hcase with ⟨rfl, rfl, rfl⟩ | ⟨G2, t2, f2⟩
          · have hown : OwnB h2 (bOf x) := o1'.2.2.2.1.own _ (by simp [o1'.1.bIn m1])
            have e4 := wr_same hown lr
            have hset : c.rd.set m (putS c.rd[m] who) = c.rd := by rw [← hzs]; exact List.set_getElem_self m1
            simp [g370, upd, hx.cells, hx.cell, hy.cells, hy.cell, zc, zl, e1, e2, ol, ir, lr, e3, hzr.cells, hzr.cell, e4, resV, mkV]
            refine hR _ _ ⟨z, F1, rfl, zc, zl, fun _ => ?_, k1.p _, by omega⟩
            have : lkStep c ⟨who, m, false, false⟩ = c := by
              simp only [lkStep, Int.toNat_natCast, hgd, hset]; rfl
            rw [this]; exact o1'
          · have o2 := o1'.keep k2 l2
            obtain ⟨h3, G3, e4, o3, _, k3, l3, _⟩ := o2.setR m1 t2 (f2.mono (by have := o1'.2.2.1.2.1; omega)) (fun b hb => ⟨fun hm => by have := (o1'.2.2.2.1.own b hm).lt; have := f2.ge b hb; omega, fun hv => by have := (o1'.2.2.1.ge hv).2; have := f2.ge b hb; omega⟩)
            rw [hzs] at o3
            simp [g370, upd, hx.cells, hx.cell, hy.cells, hy.cell, zc, zl, e1, e2, ol, ir, lr, e3, t2.cells, t2.cell, e4, resV, mkV]
            refine hR _ _ ⟨z, G3, rfl, zc, zl, fun _ => ?_, ((k1.trans k2).p _).trans (k3.mono fun j hj hm => by have := o1'.2.2.2.1.ge j hm; omega), by omega⟩
            have : lkStep c ⟨who, m, false, false⟩ = ⟨c.rd.set m (putS c.rd[m] who), c.wr, c.ov⟩ := by
              simp only [lkStep, Int.toNat_natCast, hgd]; rfl
            rw [this]; exact o3
      · rw [decide_eq_false hnil] at hR
        have hpos : 0 < (keepL c ⟨who, item, w, false⟩ 4).length := List.length_pos_iff.2 hnil
        have hposi : (0 : Int) < (keepL c ⟨who, item, w, false⟩ 4).length := by omega
        simp [g370, upd, hx.cells, hx.cell, hy.cells, hy.cell, zc, zl, e1, e2, ol, hpos, hposi, resV, mkV]
        exact hR _ _ ⟨z, F1, rfl, zc, zl, by simp, k1.p _, by omega⟩
end GL

namespace GL
open Go

def zLk : Lk := ⟨[], [], []⟩
def lkOK (c : Lk) (a : Ak) : Bool := goodK c && lkCan c a
def lkR (c : Lk) (a : Ak) : Lk := if lkOK c a = true then lkStep c a else zLk
theorem zK_v (h : Heap) : LkV h (.agg [.nils, .nils, .nils]) zLk [] := ⟨.nils, .nils, .nils, [], [], [], rfl, rfl, .nil, .nil, .nil⟩
theorem good_shape {c : Lk} (h : goodK c = true) : shapeK c ∧ smK c ∧ 0 < c.wr.length ∧ c.ov.length ≤ 4 := by
  obtain ⟨h1, h2, h3, h4, h5, h6⟩ := of_decide_eq_true h
  have ho : c.ov.length ≤ 4 := nodup_len (n := 4) h4 fun x hx => by have := h3 x hx; omega
  have hr : ∀ r ∈ c.rd, risB 0 3 r = true := fun r hr => by
    obtain ⟨i, hi, rfl⟩ := List.getElem_of_mem hr
    have := (h5 i (by omega)).1
    rwa [getD_in hi] at this
  exact ⟨⟨h1, h2, by omega, hr⟩, ⟨by omega, fun r h => by have := ris4_len (hr r h); omega, by omega, by omega⟩, by omega, ho⟩
theorem putS_good (r : List Int) (n : Int) : risB 0 3 (putS r n) = true := by
  simp only [risB, decide_eq_true_eq]
  exact ⟨fun x hx => by have := mem_upTo.1 (List.mem_filter.1 hx).1; omega, putS_ris _ _⟩
theorem dropS_good {r : List Int} (h : risB 0 3 r = true) (n : Int) : risB 0 3 (dropS n r) = true := by
  obtain ⟨h1, h2⟩ := risB_facts h
  simp only [risB, decide_eq_true_eq]
  exact ⟨fun x hx => h1 x (List.mem_filter.1 hx).1, h2.filter _⟩
theorem step_shape {c : Lk} (h : shapeK c) (ho : c.ov.length ≤ 2 ^ 18) (a : Ak) : (lkStep c a).rd.length = 4 ∧ (lkStep c a).wr.length = 4 ∧ (lkStep c a).ov.length ≤ c.ov.length + 1 ∧ ∀ r ∈ (lkStep c a).rd, risB 0 3 r = true := by
  obtain ⟨h1, h2, h3, h4⟩ := h
  simp only [lkStep]
  split
  · refine ⟨by simpa using h1, by simpa using h2, by simp, fun r hr => ?_⟩
    obtain ⟨r0, hr0, rfl⟩ := List.mem_map.1 hr
    exact dropS_good (h4 _ hr0) _
  · split
    · exact ⟨h1, by simpa using h2, by simp, h4⟩
    · refine ⟨by simpa using h1, h2, by simp, fun r hr => ?_⟩
      rcases List.mem_or_eq_of_mem_set hr with h | h
      · exact h4 r h
      · rw [h]; exact putS_good _ _
theorem askR_sm (c : Lk) (a : Ak) : (lkR c a).rd.length ≤ 4 ∧ (∀ r ∈ (lkR c a).rd, r.length ≤ 4) ∧ (lkR c a).wr.length ≤ 4 ∧ (lkR c a).ov.length ≤ 5 := by
  unfold lkR
  split
  · rename_i h
    simp only [lkOK, Bool.and_eq_true] at h
    obtain ⟨s1, s2, s3, s4⟩ := good_shape h.1
    obtain ⟨q1, q2, q3, q4⟩ := step_shape s1 (by omega) a
    exact ⟨by omega, fun r hr => ris4_len (q4 r hr), by omega, by omega⟩
  · simp [zLk]

theorem AskLock_ok {h : Heap} {v : V} {c : Lk} {F : List Nat} (hc : LkV h v c F) (a : Ak) :
    ∃ r h', call p 276 [v, av a] h = some (r, h') ∧ ∃ o G, r = .tup [o, .bool (lkOK c a)] ∧ LkV h' o (lkR c a) G ∧ Fresh h.length h' G ∧ Keeps h h' ∧ h.length ≤ h'.length := by
  have hcc := hc
  obtain ⟨_, h1, e1, rfl, k1, l1⟩ := GoodLocks_ok hc
  obtain ⟨x, y, z, F1, F2, F3, rfl, _, hx, hy, hz⟩ := hc
  obtain ⟨who, item, w, e⟩ := a
  refine go (fn := g276) rfl rfl fun R hR => ?_
  have bad : lkOK c ⟨who, item, w, e⟩ = false → ∀ h', Keeps h h' → h.length ≤ h'.length → R (.tup [.agg [.nils, .nils, .nils], .bool false]) h' := fun hb h' hk hl => hR _ _ ⟨_, [], by rw [hb], by rw [lkR, hb]; exact zK_v h', Fresh.nil, hk, hl⟩
  cases hg : goodK c with
  | false =>
    rw [hg] at e1
    simp [g276, hx.cells, hx.cell, hy.cells, hy.cell, hz.cells, hz.cell, upd, e1, fillL, resV, mkV]
    exact bad (by simp [lkOK, hg]) _ k1 l1
  | true =>
    rw [hg] at e1
    obtain ⟨s1, s2, s3, s4⟩ := good_shape hg
    obtain ⟨_, h2, e2, x2, y2, z2, G1, G2, rfl, o2, k2, l2⟩ := clonedK_ok (hcc.keep k1) s2
    have k12 := k1.trans k2
    have kl : Keeps h2 (h2 ++ [⟨.own, [x2, y2, z2]⟩]) := Keeps.append _ _
    have o3 := o2.keep kl (by simp)
    have c2 := o2.1.cell
    have c3 := o2.2.1.cell
    have c4 := o2.2.2.1.sl.cell
    have hbF : h2.length ∉ G1 ++ G2 := fun hm => by have := (o2.2.2.2.1.own _ hm).lt; omega
    have hbz : ¬ vB z2 h2.length := fun hv => by have := (o2.2.2.1.ge hv).2; omega
    obtain ⟨_, h3, e3, rfl, hok, k3, l3⟩ := ask_ok (h := h2 ++ [⟨.own, [x2, y2, z2]⟩]) (bb := h2.length) (lo := h1.length) (by simp) o3 s1 hbF hbz l2 ⟨who, item, w, e⟩
    have kf : Keeps h h3 := Keeps.far (n := h1.length) (k12.trans kl) k3 l1 fun i hi => by omega
    have hst := wrH_at (h := h2 ++ [⟨.own, [.nils, .nils, .nils]⟩]) (b := h2.length) (off := 0) (blk := ⟨.own, [.nils, .nils, .nils]⟩) (xs := [x2, y2, z2]) (by simp) rfl
    have hlay : lay [V.nils, V.nils, V.nils] 0 [x2, y2, z2] = some [x2, y2, z2] := by simp [lay]
    rw [hlay] at hst
    simp only [Option.bind_some] at hst
    have hset : (h2 ++ [(⟨.own, [.nils, .nils, .nils]⟩ : Blk)]).set h2.length ⟨.own, [x2, y2, z2]⟩ = h2 ++ [⟨.own, [x2, y2, z2]⟩] := by simp
    rw [hset] at hst
    cases hk : lkCan c ⟨who, item, w, e⟩ with
    | false =>
      rw [hk] at e3
      simp [g276, hx.cells, hx.cell, hy.cells, hy.cell, hz.cells, hz.cell, upd, e1, e2, c2, c3, c4, hst, e3, fillL, resV, mkV]
      exact bad (by simp [lkOK, hg, hk]) _ kf (by simp at l3; omega)
    | true =>
      rw [hk] at e3
      obtain ⟨z', G1', hb3, o4⟩ := hok hk
      have ok : lkOK c ⟨who, item, w, e⟩ = true := by simp [lkOK, hg, hk]
      simp only [lkR, ok, if_true] at hR
      obtain ⟨G, hv, fv, _⟩ := o4.v
      have r3 := rdH_at (off := 0) (n := 3) hb3 (by simp)
      have d2 := o4.1.cell
      have d3 := o4.2.1.cell
      have d4 := o4.2.2.1.sl.cell
      simp [g276, hx.cells, hx.cell, hy.cells, hy.cell, hz.cells, hz.cell, upd, e1, e2, c2, c3, c4, hst, e3, r3, d2, d3, d4, fillL, resV, mkV]
      exact hR _ _ ⟨_, G, rfl, hv, fv.mono l1, kf, by simp at l3; omega⟩
theorem AskLockS_ok {h : Heap} {v : V} {c : Lk} {F : List Nat} (hc : LkV h v c F) (a : Ak) :
    ∃ r h', call p 275 [v, av a] h = some (r, h') ∧ ∃ o G, r = .tup [o, .bool (lkOK c a)] ∧ LkV h' o (lkR c a) G ∧ Fresh h.length h' G ∧ Keeps h h' ∧ h.length ≤ h'.length := by
  have hcc := hc
  obtain ⟨_, h1, e1, rfl, k1, l1⟩ := GoodLocksS_ok hc
  obtain ⟨x, y, z, F1, F2, F3, rfl, _, hx, hy, hz⟩ := hc
  obtain ⟨who, item, w, e⟩ := a
  refine go (fn := g275) rfl rfl fun R hR => ?_
  have bad : lkOK c ⟨who, item, w, e⟩ = false → ∀ h', Keeps h h' → h.length ≤ h'.length → R (.tup [.agg [.nils, .nils, .nils], .bool false]) h' := fun hb h' hk hl => hR _ _ ⟨_, [], by rw [hb], by rw [lkR, hb]; exact zK_v h', Fresh.nil, hk, hl⟩
  cases hg : goodK c with
  | false =>
    rw [hg] at e1
    simp [g275, hx.cells, hx.cell, hy.cells, hy.cell, hz.cells, hz.cell, upd, e1, fillL, resV, mkV]
    exact bad (by simp [lkOK, hg]) _ k1 l1
  | true =>
    rw [hg] at e1
    obtain ⟨s1, s2, s3, s4⟩ := good_shape hg
    obtain ⟨_, h2, e2, x2, y2, z2, G1, G2, rfl, o2, k2, l2⟩ := l8Own_ok (hcc.keep k1) s2 s3
    have k12 := k1.trans k2
    obtain ⟨_, h3, e3, z', G1', rfl, zc, zl, hok, k3, l3⟩ := l8Step_ok o2 s1 ⟨who, item, w, e⟩
    have kf : Keeps h h3 := Keeps.far (n := h1.length) k12 k3 l1 fun i hi => by omega
    have c2 := o2.1.cell
    have c3 := o2.2.1.cell
    cases hk : lkCan c ⟨who, item, w, e⟩ with
    | false =>
      rw [hk] at e3
      simp [g275, hx.cells, hx.cell, hy.cells, hy.cell, hz.cells, hz.cell, upd, e1, e2, e3, c2, c3, zl, fillL, resV, mkV]
      exact bad (by simp [lkOK, hg, hk]) _ kf (by omega)
    | true =>
      rw [hk] at e3
      have o4 := hok hk
      have ok : lkOK c ⟨who, item, w, e⟩ = true := by simp [lkOK, hg, hk]
      simp only [lkR, ok, if_true] at hR
      obtain ⟨G, hv, fv, _⟩ := o4.v
      obtain ⟨q1, q2, q3, q4⟩ := step_shape s1 (by omega) ⟨who, item, w, e⟩
      obtain ⟨_, h4, e4, x4, y4, z4, J1, J2, rfl, o5, k4, l4⟩ := l8Own_ok hv ⟨by omega, fun r hr => by have := ris4_len (q4 r hr); omega, by omega, by omega⟩ (by omega)
      obtain ⟨J, hvj, fj, _⟩ := o5.v
      simp [g275, hx.cells, hx.cell, hy.cells, hy.cell, hz.cells, hz.cell, upd, e1, e2, e3, c2, c3, zl, e4, o5.1.cell, o5.2.1.cell, o5.2.2.1.sl.cell, fillL, resV, mkV]
      exact hR _ _ ⟨_, J, rfl, hvj, fj.mono (by omega), kf.trans k4, by omega⟩

/-! the frame of the exact law -/
theorem toAsk_eq (a : Ak) (h : Heap) : call p 274 [av a] h = some (av a, h) := by
  obtain ⟨who, item, w, e⟩ := a
  refine go_eq (fn := g274) rfl rfl fun R hR => ?_
  simp [g274, upd, resV, mkV]; exact hR
def smL (c : Lk) : Prop := c.rd.length + numN c.rd ≤ 2 ^ 20 ∧ c.wr.length ≤ 2 ^ 20 ∧ c.ov.length ≤ 2 ^ 20
theorem szLocks_eq {h : Heap} {v : V} {c : Lk} {F : List Nat} (hc : LkV h v c F) : ∃ r : Int, call p 272 [v, vi 1048576] h = some (vi r, h) ∧ (r < 0 ∨ smL c) := by
  obtain ⟨x, y, z, F1, F2, F3, rfl, _, hx, hy, hz⟩ := hc
  obtain ⟨n, e1, hn⟩ := szIntSS_eq hx (l0 := 1048576) (by decide)
  by_cases hneg : n < 0
  · refine ⟨-1, ?_, .inl (by decide)⟩
    refine go_eq (fn := g272) rfl rfl fun R hR => ?_
    simp [g272, hx.cells, hx.cell, hy.cells, hy.cell, hz.cells, hz.cell, upd, e1, hneg]
    exact hR
  · obtain ⟨hn0, hsum⟩ : 0 ≤ n ∧ c.rd.length + numN c.rd + n = 1048576 := by
      rcases hn with h | h
      · exact absurd h hneg
      · exact h
    have e2 := szIntS_eq hy.sl (left := n) (by omega)
    by_cases h2 : n < c.wr.length
    · rw [if_pos h2] at e2
      refine ⟨-1, ?_, .inl (by decide)⟩
      refine go_eq (fn := g272) rfl rfl fun R hR => ?_
      simp [g272, hx.cells, hx.cell, hy.cells, hy.cell, hz.cells, hz.cell, upd, e1, hneg, e2]
      exact hR
    · rw [if_neg h2] at e2
      have e3 := szIntS_eq hz.sl (left := n - c.wr.length) (by omega)
      have n2 : ¬ n - (c.wr.length : Int) < 0 := by omega
      by_cases h3 : n - c.wr.length < c.ov.length
      · rw [if_pos h3] at e3
        refine ⟨-1, ?_, .inl (by decide)⟩
        refine go_eq (fn := g272) rfl rfl fun R hR => ?_
        simp [g272, hx.cells, hx.cell, hy.cells, hy.cell, hz.cells, hz.cell, upd, e1, hneg, e2, n2, e3]
        exact hR
      · rw [if_neg h3] at e3
        have n3 : ¬ n - (c.wr.length : Int) - (c.ov.length : Int) < 0 := by omega
        refine ⟨n - c.wr.length - c.ov.length, ?_, .inr ⟨by omega, by omega, by omega⟩⟩
        refine go_eq (fn := g272) rfl rfl fun R hR => ?_
        simp [g272, hx.cells, hx.cell, hy.cells, hy.cell, hz.cells, hz.cell, upd, e1, hneg, e2, n2, e3, n3]
        exact hR
theorem toLocks_ok {h : Heap} {v : V} {c : Lk} {F : List Nat} (hc : LkV h v c F) (hs : smL c) : ∃ r h', call p 273 [v] h = some (r, h') ∧ ∃ G, LkV h' r c G ∧ Fresh h.length h' G ∧ Keeps h h' ∧ h.length ≤ h'.length := by
  obtain ⟨x, y, z, F1, F2, F3, rfl, _, hx, hy, hz⟩ := hc
  obtain ⟨s1, s2, s3⟩ := hs
  obtain ⟨x1, h1, e1, G1, p1, f1, k1, l1⟩ := toIntSS_ok hx (by omega) (fun r hr => by have := numN_mem hr; omega)
  obtain ⟨y1, h2, e2, G2, p2, f2, k2, l2⟩ := toIntS_ok (hy.keep k1).sl s2
  obtain ⟨z1, h3, e3, G3, p3, f3, k3, l3⟩ := toIntS_ok ((hz.keep k1).keep k2).sl s3
  refine go (fn := g273) rfl rfl fun R hR => ?_
  simp [g273, upd, hx.cells, hx.cell, hy.cells, hy.cell, hz.cells, hz.cell, e1, p1.cells, p1.cell, e2, p2.cells, p2.cell, e3, p3.cells, p3.cell, resV, mkV]
  exact hR _ _ ⟨G1 ++ G2 ++ G3, ⟨x1, y1, z1, G1, G2, G3, rfl, rfl, p1.keep (k2.trans k3), p2.keep k3, p3⟩, (f1.app f2 k2 l1).app f3 k3 (by omega), (k1.trans k2).trans k3, by omega⟩
theorem eqLocks_same {h : Heap} {v w : V} {c : Lk} {F G : List Nat} (hc : LkV h v c F) (hd : LkV h w c G) : call p 277 [v, w] h = some (.bool true, h) := by
  obtain ⟨x, y, z, F1, F2, F3, rfl, _, hx, hy, hz⟩ := hc
  obtain ⟨x2, y2, z2, G1, G2, G3, rfl, _, gx, gy, gz⟩ := hd
  have e1 := eqIntSS_same hx gx
  have e2 := eqIntS_eq hy.sl gy.sl
  have e3 := eqIntS_eq hz.sl gz.sl
  rw [decide_eq_true rfl] at e2 e3
  refine go_eq (fn := g277) rfl rfl fun R hR => ?_
  simp [g277, upd, hx.cells, hx.cell, hy.cells, hy.cell, hz.cells, hz.cell, gx.cells, gx.cell, gy.cells, gy.cell, gz.cells, gz.cell, e1, e2, e3]
  exact hR
def mkLk (c : Lk) : Lk := ⟨mkL 1 c.rd, mkI (1 + numN c.rd) c.wr.length, mkI (1 + numN c.rd + c.wr.length) c.ov.length⟩
def cntLk (c : Lk) : Int := 1 + numN c.rd + c.wr.length + c.ov.length
theorem markLocks_ok {h : Heap} {v : V} {c : Lk} {F : List Nat} {lo : Nat} (hc : LkV h v c F) (fr : Fresh lo h F) (hs : smL c) :
    ∃ r h', call p 278 [v, vi 1] h = some (r, h') ∧ r = vi (cntLk c) ∧ LkV h' v (mkLk c) F ∧ KeepsP (fun b => b ∉ F) h h' ∧ h'.length = h.length := by
  obtain ⟨x, y, z, F1, F2, F3, rfl, rfl, hx, hy, hz⟩ := hc
  obtain ⟨s1, s2, s3⟩ := hs
  have hnd := List.nodup_append.1 fr.nodup
  have hnd1 := List.nodup_append.1 hnd.1
  have n12 : ∀ b ∈ F1, b ∉ F2 := fun b hb hb2 => hnd1.2.2 b hb b hb2 rfl
  have n13 : ∀ b ∈ F1, b ∉ F3 := fun b hb hb2 => hnd.2.2 b (List.mem_append_left _ hb) b hb2 rfl
  have n23 : ∀ b ∈ F2, b ∉ F3 := fun b hb hb2 => hnd.2.2 b (List.mem_append_right _ hb) b hb2 rfl
  obtain ⟨_, h1, e1, rfl, p1, k1, l1, _, o1⟩ := markIntSS_ok hx (show Fresh lo h F1 from ⟨hnd1.1, fun b hb => fr.ge b (by simp [hb]), fun b hb => fr.own b (by simp [hb])⟩) (k := 1) (by decide) s1
  have hy' := hy.keeps (k1.mono fun b hb hb2 => n12 b hb2 hb)
  obtain ⟨_, h2, e2, rfl, p2, k2, l2, o2⟩ := markIntS_ok hy' (fun b hb => o1 b (fr.own b (by simp [hb]))) (k := 1 + numN c.rd) (by omega) (by omega)
  have hz' := (hz.keeps (k1.mono fun b hb hb2 => n13 b hb2 hb)).keeps (k2.mono fun b hb hb2 => n23 b hb2 hb)
  obtain ⟨_, h3, e3, rfl, p3, k3, l3, o3⟩ := markIntS_ok hz' (fun b hb => o2 b (o1 b (fr.own b (by simp [hb])))) (k := 1 + numN c.rd + c.wr.length) (by omega) (by omega)
  have q1 := (p1.keeps (k2.mono fun b hb => n12 b hb)).keeps (k3.mono fun b hb => n13 b hb)
  have q2 := p2.keeps (k3.mono fun b hb => n23 b hb)
  refine go (fn := g278) rfl rfl fun R hR => ?_
  simp [g278, upd, hx.cells, hx.cell, hy.cells, hy.cell, hz.cells, hz.cell, e1, e2, e3]
  exact hR _ _ ⟨rfl, ⟨x, y, z, F1, F2, F3, rfl, rfl, q1, q2, p3⟩, ((k1.mono fun b hb hb2 => hb (by simp [hb2])).trans (k2.mono fun b hb hb2 => hb (by simp [hb2]))).trans (k3.mono fun b hb hb2 => hb (by simp [hb2])), by omega⟩
theorem heldLocks_eq {h : Heap} {v : V} {c : Lk} {F : List Nat} (hc : LkV h v (mkLk c) F) (hs : smL c) : call p 279 [v, vi 1] h = some (vi (cntLk c), h) := by
  obtain ⟨x, y, z, F1, F2, F3, rfl, rfl, hx, hy, hz⟩ := hc
  obtain ⟨s1, s2, s3⟩ := hs
  have e1 := heldIntSS_eq (k := 1) (by decide) hx s1
  have e2 := heldIntS_eq hy.sl (by omega) (by omega)
  have e3 := heldIntS_eq hz.sl (by omega) (by omega)
  have n1 : ¬ 1 + (numN c.rd : Int) < 0 := by omega
  have n2 : ¬ 1 + (numN c.rd : Int) + c.wr.length < 0 := by omega
  have n3 : ¬ 1 + (numN c.rd : Int) + c.wr.length + c.ov.length < 0 := by omega
  refine go_eq (fn := g279) rfl rfl fun R hR => ?_
  simp [g279, upd, hx.cells, hx.cell, hy.cells, hy.cell, hz.cells, hz.cell, e1, e2, e3, n1, n2, n3]; exact hR
end GL

namespace GL
open Go

instance lkData : Data Lk where
  sz := 3
  pos := by decide
  rep := fun h c cs F => ∃ x y z F1 F2 F3, cs = [x, y, z] ∧ F = F1 ++ F2 ++ F3 ∧ SdF h x c.rd F1 ∧ SdF h y c.wr F2 ∧ SdF h z c.ov F3
  len := by rintro h a cs F ⟨x, y, z, F1, F2, F3, rfl, _⟩; rfl
  ok := by rintro h a cs F ⟨x, y, z, F1, F2, F3, rfl, _, h1, h2, h3⟩; simp [allCell, h1.cell, h2.cell, h3.cell]
  keeps := by
    rintro h h' a cs F ⟨x, y, z, F1, F2, F3, rfl, rfl, h1, h2, h3⟩ hk
    exact ⟨x, y, z, F1, F2, F3, rfl, rfl, h1.keeps (hk.mono fun b hb => by simp [hb]), h2.keeps (hk.mono fun b hb => by simp [hb]), h3.keeps (hk.mono fun b hb => by simp [hb])⟩
  lt := by
    rintro h a cs F b ⟨x, y, z, F1, F2, F3, rfl, rfl, h1, h2, h3⟩ hb
    rcases List.mem_append.1 hb with hb | hb
    · rcases List.mem_append.1 hb with hb | hb
      · exact h1.lt hb
      · exact h2.lt hb
    · exact h3.lt hb
def Lk.of (p : List (List Int) × List Int × List Int) : Lk := ⟨p.1, p.2.1, p.2.2⟩
theorem Lk.of_rep (h : Heap) (p : List (List Int) × List Int × List Int) (cs : List V) (F : List Nat) (hr : Data.rep h p cs F) : Data.rep h (Lk.of p) cs F := by
  obtain ⟨c, d, F1, F2, rfl, rfl, ⟨x, rfl, hx⟩, e, f, G1, G2, rfl, rfl, ⟨y, rfl, hy⟩, ⟨z, rfl, hz⟩⟩ := hr
  exact ⟨x, y, z, F1, G1, G2, rfl, by simp, hx, hy, hz⟩
instance : Flat Ak := ⟨4, fun x => [vi x.who, vi x.item, .bool x.w, .bool x.e], fun _ => rfl, fun _ => rfl, by decide⟩
def Ak.of (p : Int × Int × Bool × Bool) : Ak := ⟨p.1, p.2.1, p.2.2.1, p.2.2.2⟩
theorem Ak.of_rep (h : Heap) (p : Int × Int × Bool × Bool) (cs : List V) (F : List Nat) (hr : Data.rep h p cs F) : Data.rep h (Ak.of p) cs F := by
  obtain ⟨c, d, F1, F2, rfl, rfl, ⟨rfl, rfl⟩, e, f, G1, G2, rfl, rfl, ⟨rfl, rfl⟩, e2, f2, G3, G4, rfl, rfl, ⟨rfl, rfl⟩, rfl, rfl⟩ := hr
  exact ⟨rfl, rfl⟩

theorem numN_four {n : Nat} : ∀ {xs : List (List Int)}, (∀ r ∈ xs, r.length ≤ n) → numN xs ≤ n * xs.length
  | [], _ => by simp [numN]
  | x :: xs, h => by
    have h1 := h x (by simp)
    have h2 := numN_four (xs := xs) fun r hr => h r (by simp [hr])
    have e : numN (x :: xs) = x.length + numN xs := by simp [numN]
    rw [e, List.length_cons, Nat.mul_succ]; omega
theorem FnExactAskLock_ok {h : Heap} {va : V} {c : Lk} {F : List Nat} (hc : LkV h va c F) (a : Ak) : ∃ w h', call p 271 [va, av a] h = some (w, h') ∧ w = .bool true := by
  refine go (fn := g271) rfl rfl fun R hR => ?_
  obtain ⟨n, en, hn⟩ := szLocks_eq hc
  have ea := fun hp => toAsk_eq a hp
  have hcc := hc
  obtain ⟨who, item, w, e⟩ := a
  obtain ⟨x, y, z, F1, F2, F3, rfl, hF, hx, hy, hz⟩ := hc
  by_cases hneg : n < 0
  · simp [g271, upd, hx.cells, hx.cell, hy.cells, hy.cell, hz.cells, hz.cell, en, hneg]
    exact hR _ _ rfl
  · have hsm : smL c := by
      rcases hn with h | h
      · exact absurd h hneg
      · exact h
    obtain ⟨r1, h1, e1, G1, c1, f1, k1, l1⟩ := toLocks_ok hcc hsm
    obtain ⟨_, h2, e2, o2, G2, rfl, c2, f2, k2, l2⟩ := AskLockS_ok c1 ⟨who, item, w, e⟩
    have k12 := k1.trans k2
    obtain ⟨r3, h3, e3, G3, c3, f3, k3, l3⟩ := toLocks_ok (hcc.keep k12) hsm
    obtain ⟨_, h4, e4, o4, G4, rfl, c4, f4, k4, l4⟩ := AskLock_ok c3 ⟨who, item, w, e⟩
    have k14 := (k12.trans k3).trans k4
    have hrs : smL (lkR c ⟨who, item, w, e⟩) := by
      obtain ⟨q1, q2, q3, q4⟩ := askR_sm c ⟨who, item, w, e⟩
      have := numN_four q2
      have h16 : numN (lkR c ⟨who, item, w, e⟩).rd ≤ 16 := Nat.le_trans this (Nat.mul_le_mul_left 4 q1)
      exact ⟨by omega, by omega, by omega⟩
    have c2' := c2.keep (k3.trans k4)
    have e5 := eqLocks_same c4 c2'
    obtain ⟨r6, h6, e6, G6, c6, f6, k6, l6⟩ := toLocks_ok (hcc.keep k14) hsm
    have c3' := c3.keep (k4.trans k6)
    have e7 := eqLocks_same c3' c6
    obtain ⟨_, h7, e8, rfl, c7, k7, l7⟩ := markLocks_ok c3' (f3.keeps ((k4.trans k6).p _)) hsm
    have n37 : ∀ b ∈ G4, b ∉ G3 := fun b hb h3 => by have := f4.ge b hb; have := c3.lt h3; omega
    have n27 : ∀ b ∈ G2, b ∉ G3 := fun b hb h3 => by have := f3.ge b h3; have := c2.lt hb; omega
    have c4a := (c4.keep k6).keeps (k7.mono n37)
    have c2a := (c2'.keep k6).keeps (k7.mono n27)
    have e9 := eqLocks_same c4a c2a
    have f4a := (f4.keeps (k6.p _)).keeps (k7.mono n37)
    obtain ⟨_, h8, e10, rfl, c8, k8, l8⟩ := markLocks_ok c4a f4a hrs
    have e11 := heldLocks_eq c8 hrs
    have n24 : ∀ b ∈ G2, b ∉ G4 := fun b hb h4 => by have := f4.ge b h4; have := c2.lt hb; omega
    have c2b := c2a.keeps (k8.mono n24)
    have kc : Keeps h h8 := by
      refine Keeps.far (n := h.length) (Keeps.far (n := h.length) (k14.trans k6) k7 (Nat.le_refl _) fun i hi hm => ?_) k8 (Nat.le_refl _) fun i hi hm => ?_
      · have := f3.ge i hm; omega
      · have := f4.ge i hm; omega
    obtain ⟨r9, h9, e12, G9, c9, f9, k9, l9⟩ := toLocks_ok (hcc.keep kc) hsm
    obtain ⟨_, h10, e13, o10, G10, rfl, c10, f10, k10, l10⟩ := AskLock_ok c9 ⟨who, item, w, e⟩
    have e14 := eqLocks_same c10 (c2b.keep (k9.trans k10))
    have e15 := heldLocks_eq (c8.keep (k9.trans k10)) hrs
    have m1 : ¬ cntLk c < 0 := by unfold cntLk; omega
    have m2 : ¬ cntLk (lkR c ⟨who, item, w, e⟩) < 0 := by unfold cntLk; omega
    generalize cntLk (lkR c ⟨who, item, w, e⟩) = mm at *
    generalize cntLk c = kk at *
    generalize lkOK c ⟨who, item, w, e⟩ = ok at *
    obtain ⟨x1, y1, z1, _, _, _, rfl, _, p1, q1, s1⟩ := c1
    obtain ⟨x2, y2, z2, _, _, _, rfl, _, p2, q2, s2⟩ := c2
    obtain ⟨x3, y3, z3, _, _, _, rfl, _, p3, q3, s3⟩ := c3
    obtain ⟨x4, y4, z4, _, _, _, rfl, _, p4, q4, s4⟩ := c4
    obtain ⟨x6, y6, z6, _, _, _, rfl, _, p6, q6, s6⟩ := c6
    obtain ⟨x9, y9, z9, _, _, _, rfl, _, p9, q9, s9⟩ := c9
    obtain ⟨x10, y10, z10, _, _, _, rfl, _, p10, q10, s10⟩ := c10
    simp [g271, upd, hx.cells, hx.cell, hy.cells, hy.cell, hz.cells, hz.cell, p1.cell, q1.cell, s1.cell, p2.cell, q2.cell, s2.cell, p3.cell, q3.cell, s3.cell, p4.cell, q4.cell, s4.cell, p6.cell, q6.cell, s6.cell, p9.cell, q9.cell, s9.cell, p10.cell, q10.cell, s10.cell, en, hneg, e1, ea, e2, e3, e4, e5, e6, e7, e8, m1, e9, e10, e11, m2, e12, e13, e14, e15]
    exact hR _ _ rfl
theorem FnExactAskLock_law {h : Heap} {x0 x1 : V} {c : Lk} {a : Ak} {F0 F1 : List Nat} (r0 : RepA h x0 c F0 true) (r1 : RepA h x1 a F1 true) : ∃ w h', call p 271 [x0, x1] h = some (w, h') ∧ w = .bool true := by
  obtain ⟨vs, rfl, _, x, y, z, G1, G2, G3, rfl, rfl, hx, hy, hz⟩ := r0
  obtain ⟨us, rfl, _, rfl, _⟩ := r1
  exact FnExactAskLock_ok (c := c) (F := G1 ++ G2 ++ G3) ⟨x, y, z, G1, G2, G3, rfl, rfl, hx, hy, hz⟩ a
end GL

