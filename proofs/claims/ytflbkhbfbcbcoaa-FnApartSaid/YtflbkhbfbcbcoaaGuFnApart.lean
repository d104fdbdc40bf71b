import Derived.ChangeArms
import Derived.IntWalk
import Derived.WideShapes
import Derived.Test.YtflbkhbfbcbcoaaGuFnApartA
/- What the functions of the law do, on the machine. -/
set_option linter.unusedSimpArgs false
set_option linter.unusedVariables false
set_option linter.unnecessarySimpa false
namespace GL
open Go

/-- a list of lists of one's own, each of which may grow -/
def Pcs (lo : Nat) (h : Heap) (b : Nat) (xs : List (List Int)) : Prop :=
  ∃ rs : List V, h[b]? = some ⟨.own, rs⟩ ∧ rs.length = xs.length ∧ lo ≤ b ∧ (∀ k (hr : k < rs.length) (hx : k < xs.length), Out (b + 1) h rs[k] xs[k]) ∧ ∀ j k (hj : j < rs.length) (hk : k < rs.length), j ≠ k → ∀ i, vB rs[j] i → ¬ vB rs[k] i
theorem Pcs.load {lo : Nat} {h : Heap} {b : Nat} {xs : List (List Int)} (hp : Pcs lo h b xs) {k : Nat} (hk : k < xs.length) : ∃ v, rdH h b k 1 = some [v] ∧ Out (b + 1) h v xs[k] := by
  obtain ⟨rs, hb, hl, h1, h2, h3⟩ := hp
  have hk' : k < rs.length := by omega
  refine ⟨rs[k], ?_, h2 k hk' hk⟩
  rw [rdH_at hb (by simp)]
  simp only [cut]
  rw [if_pos (by show k + 1 ≤ rs.length; omega), List.drop_eq_getElem_cons hk']; rfl
theorem reps_rows {h : Heap} {lo : Nat} : ∀ {rs : List V} {xs : List (List Int)}, rs.length = xs.length → (∀ k (hr : k < rs.length) (hx : k < xs.length), Out lo h rs[k] xs[k]) → ∃ F, Reps h xs rs F ∧ ∀ b ∈ F, lo ≤ b
  | [], [], _, _ => ⟨[], .nil, by simp⟩
  | [], _ :: _, hl, _ => by simp at hl
  | _ :: _, [], hl, _ => by simp at hl
  | r :: rs, x :: xs, hl, ho => by
    obtain ⟨F1, s1, f1⟩ := (ho 0 (by simp) (by simp)).fr
    obtain ⟨F2, s2, f2⟩ := reps_rows (rs := rs) (xs := xs) (by simpa using hl) fun k hr hx => ho (k + 1) (by simp; omega) (by simp; omega)
    refine ⟨F1 ++ F2, ⟨[r], rs, F1, F2, rfl, rfl, ⟨r, rfl, s1⟩, s2⟩, fun b hb => ?_⟩
    rcases List.mem_append.1 hb with h | h
    · exact f1.ge b h
    · exact f2 b h
theorem Pcs.sdF {lo : Nat} {h : Heap} {b : Nat} {xs : List (List Int)} (hp : Pcs lo h b xs) (hx : xs.length < 2 ^ 63) : ∃ F, SdF h (.slice b 0 xs.length (.k xs.length)) xs F ∧ ∀ i ∈ F, lo ≤ i := by
  obtain ⟨rs, hb, hl, h1, h2, h3⟩ := hp
  obtain ⟨F, hr, hF⟩ := reps_rows hl h2
  have hsz : Data.sz (List Int) = 1 := rfl
  refine ⟨b :: F, ⟨hx, .inr ⟨b, 0, .k xs.length, rfl, Nat.le_refl _, .inr ⟨_, rs, F, rfl, hb, by simp, ?_, hr⟩⟩⟩, fun i hi => ?_⟩
  · rw [hsz, Nat.mul_one, ← hl]; simp [cut]
  · rcases List.mem_cons.1 hi with h | h
    · omega
    · have := hF i h; omega
theorem Pcs.start (h : Heap) (n : Nat) : Pcs h.length (h ++ [⟨.own, List.replicate n V.nils⟩]) h.length (List.replicate n []) :=
  ⟨List.replicate n .nils, by simp, by simp, Nat.le_refl _, fun k hr hx => by rw [List.getElem_replicate, List.getElem_replicate]; exact Out.nil (by simp), fun j k hj hk _ i hv => by rw [List.getElem_replicate] at hv; obtain ⟨_, _, _, e⟩ := hv; cases e⟩

end GL

namespace GL
open Go

end GL

namespace GL
open Go

end GL

namespace GL
open Go

end GL

namespace GL
open Go

/-- a list of one's own of lists that do not change -/
def Rws (lo : Nat) (h : Heap) (b : Nat) (xs : List (List Int)) : Prop :=
  ∃ rs : List V, h[b]? = some ⟨.own, rs⟩ ∧ rs.length = xs.length ∧ lo ≤ b ∧ ∀ k (hr : k < rs.length) (hx : k < xs.length), ∃ F, SdF h rs[k] xs[k] F ∧ ∀ i ∈ F, b < i
theorem Rws.keep {lo : Nat} {h h' : Heap} {b : Nat} {xs : List (List Int)} (hp : Rws lo h b xs) (hk : Keeps h h') : Rws lo h' b xs := by
  obtain ⟨rs, h1, h2, h3, h4⟩ := hp
  exact ⟨rs, hk _ _ h1 (by simp), h2, h3, fun k hr hx => by obtain ⟨F, q1, q2⟩ := h4 k hr hx; exact ⟨F, q1.keep hk, q2⟩⟩
theorem Rws.load {lo : Nat} {h : Heap} {b : Nat} {xs : List (List Int)} (hp : Rws lo h b xs) {k : Nat} (hk : k < xs.length) : ∃ v F, rdH h b k 1 = some [v] ∧ SdF h v xs[k] F ∧ ∀ i ∈ F, b < i := by
  obtain ⟨rs, hb, hl, h1, h2⟩ := hp
  have hk' : k < rs.length := by omega
  obtain ⟨F, q1, q2⟩ := h2 k hk' hk
  refine ⟨rs[k], F, ?_, q1, q2⟩
  rw [rdH_at hb (by simp)]
  simp only [cut]
  rw [if_pos (by show k + 1 ≤ rs.length; omega), List.drop_eq_getElem_cons hk']; rfl
theorem Rws.put {lo : Nat} {h : Heap} {b : Nat} {xs : List (List Int)} (hp : Rws lo h b xs) {k : Nat} (hk : k < xs.length) {w : V} {ys : List Int} {G : List Nat} (hw : SdF h w ys G) (hG : ∀ i ∈ G, b < i) :
    ∃ h2, wrH h b k [w] = some h2 ∧ Rws lo h2 b (xs.set k ys) ∧ KeepsP (fun i => i < lo) h h2 ∧ h2.length = h.length := by
  obtain ⟨rs, hb, hl, h1, h2⟩ := hp
  have hk' : k < rs.length := by omega
  have kb : KeepsP (fun i => i ≠ b) h (h.set b ⟨.own, rs.set k w⟩) := fun i blk hi hbi _ => by rw [List.getElem?_set_ne (Ne.symm hi)]; exact hbi
  refine ⟨h.set b ⟨.own, rs.set k w⟩, ?_, ⟨rs.set k w, by rw [List.getElem?_set_self (get_lt hb)], by simp [hl], h1, fun j hj hxj => ?_⟩, kb.mono fun i hi => by omega, by simp⟩
  · rw [wrH_at hb rfl]
    simp only [lay, List.length_singleton]
    have hset : rs.set k w = rs.take k ++ [w] ++ rs.drop (k + 1) := by rw [List.set_eq_take_append_cons_drop, if_pos hk']; simp
    rw [if_pos (by show k + 1 ≤ rs.length; omega), hset]; rfl
  · simp only [List.length_set] at hj hxj
    by_cases hjk : k = j
    · subst hjk
      simp only [List.getElem_set_self]
      exact ⟨G, hw.keeps (kb.mono fun i hi => by have := hG i hi; omega), hG⟩
    · rw [List.getElem_set_ne hjk, List.getElem_set_ne hjk]
      obtain ⟨F, q1, q2⟩ := h2 j hj hxj
      exact ⟨F, q1.keeps (kb.mono fun i hi => by have := q2 i hi; omega), q2⟩
theorem reps_rws {h : Heap} {b : Nat} : ∀ {rs : List V} {xs : List (List Int)}, rs.length = xs.length → (∀ k (hr : k < rs.length) (hx : k < xs.length), ∃ F, SdF h rs[k] xs[k] F ∧ ∀ i ∈ F, b < i) → ∃ F, Reps h xs rs F ∧ ∀ i ∈ F, b < i
  | [], [], _, _ => ⟨[], .nil, by simp⟩
  | [], _ :: _, hl, _ => by simp at hl
  | _ :: _, [], hl, _ => by simp at hl
  | r :: rs, x :: xs, hl, ho => by
    obtain ⟨F1, s1, f1⟩ := ho 0 (by simp) (by simp)
    obtain ⟨F2, s2, f2⟩ := reps_rws (rs := rs) (xs := xs) (by simpa using hl) fun k hr hx => ho (k + 1) (by simp; omega) (by simp; omega)
    refine ⟨F1 ++ F2, ⟨[r], rs, F1, F2, rfl, rfl, ⟨r, rfl, s1⟩, s2⟩, fun b hb => ?_⟩
    rcases List.mem_append.1 hb with h | h
    · exact f1 b h
    · exact f2 b h
theorem Rws.sdF {lo : Nat} {h : Heap} {b : Nat} {xs : List (List Int)} (hp : Rws lo h b xs) (hx : xs.length < 2 ^ 63) : ∃ F, SdF h (.slice b 0 xs.length (.k xs.length)) xs F ∧ ∀ i ∈ F, lo ≤ i := by
  obtain ⟨rs, hb, hl, h1, h2⟩ := hp
  obtain ⟨F, hr, hF⟩ := reps_rws hl h2
  have hsz : Data.sz (List Int) = 1 := rfl
  refine ⟨b :: F, ⟨hx, .inr ⟨b, 0, .k xs.length, rfl, Nat.le_refl _, .inr ⟨_, rs, F, rfl, hb, by simp, ?_, hr⟩⟩⟩, fun i hi => ?_⟩
  · rw [hsz, Nat.mul_one, ← hl]; simp [cut]
  · rcases List.mem_cons.1 hi with h | h
    · omega
    · have := hF i h; omega
theorem Rws.start (h : Heap) (n : Nat) : Rws h.length (h ++ [⟨.own, List.replicate n V.nils⟩]) h.length (List.replicate n []) :=
  ⟨List.replicate n .nils, by simp, by simp, Nat.le_refl _, fun k hr hx => by rw [List.getElem_replicate, List.getElem_replicate]; exact ⟨[], .nil, by simp⟩⟩

end GL

namespace GL
open Go

end GL

namespace GL
open Go

end GL

namespace GL
open Go

end GL

namespace GL
open Go

end GL

namespace GL
open Go

end GL

namespace GL
open Go

structure Lk where
  rd : List (List Int)
  wr : List Int
  ov : List Int
structure Ak where
  who : Int
  item : Int
  w : Bool
  e : Bool
def LkV (h : Heap) (v : V) (c : Lk) (F : List Nat) : Prop := ∃ x y z F1 F2 F3, v = .agg [x, y, z] ∧ F = F1 ++ F2 ++ F3 ∧ SdF h x c.rd F1 ∧ SdF h y c.wr F2 ∧ SdF h z c.ov F3
section
variable {h h' : Heap} {v : V} {c : Lk} {F : List Nat}
theorem LkV.keeps (hc : LkV h v c F) (hk : KeepsP (fun b => b ∈ F) h h') : LkV h' v c F := by
  obtain ⟨x, y, z, F1, F2, F3, rfl, rfl, hx, hy, hz⟩ := hc
  exact ⟨x, y, z, F1, F2, F3, rfl, rfl, hx.keeps (hk.mono fun b hb => by simp [hb]), hy.keeps (hk.mono fun b hb => by simp [hb]), hz.keeps (hk.mono fun b hb => by simp [hb])⟩
theorem LkV.keep (hc : LkV h v c F) (hk : Keeps h h') : LkV h' v c F := hc.keeps (hk.p _)
theorem LkV.lt (hc : LkV h v c F) {b : Nat} (hb : b ∈ F) : b < h.length := by
  obtain ⟨x, y, z, F1, F2, F3, rfl, rfl, hx, hy, hz⟩ := hc
  rcases List.mem_append.1 hb with hb | hb
  · rcases List.mem_append.1 hb with hb | hb
    · exact hx.ltF hb
    · exact hy.ltF hb
  · exact hz.ltF hb
end
def rowQ (c : Lk) (i : Nat) : Prop := risB 0 3 (c.rd.getD i []) = true ∧ (-1 ≤ c.wr.getD i 0 ∧ c.wr.getD i 0 ≤ 3) ∧ (0 ≤ c.wr.getD i 0 → c.rd.getD i [] = [] ∨ c.rd.getD i [] = [c.wr.getD i 0])
def goodLk (c : Lk) : Prop := c.rd.length = 4 ∧ c.wr.length = 4 ∧ (∀ x ∈ c.ov, 0 ≤ x ∧ x ≤ 3) ∧ c.ov.Nodup ∧ (∀ i, i < 4 → rowQ c i) ∧ ∀ i, i < 4 → c.wr.getD i 0 ∉ c.ov ∧ ∀ x ∈ c.rd.getD i [], x ∉ c.ov
instance (c : Lk) (i : Nat) : Decidable (rowQ c i) := by unfold rowQ; infer_instance
instance (c : Lk) : Decidable (goodLk c) := by unfold goodLk; infer_instance
end GL

namespace GL
open Go

theorem upTo_filter (q : Int → Bool) (i : Nat) : (upTo (i + 1)).filter q = if q i = true then (upTo i).filter q ++ [(i : Int)] else (upTo i).filter q := by
  rw [upTo_succ, List.filter_append]
  cases h : q i <;> simp [h]
end GL

namespace GL
open Go

end GL

namespace GL
open Go

/-- locks of one's own, in memory -/
def LkO (lo : Nat) (h : Heap) (x y z : V) (c : Lk) (F1 F2 : List Nat) : Prop := SdF h x c.rd F1 ∧ SdF h y c.wr F2 ∧ Out lo h z c.ov ∧ Fresh lo h (F1 ++ F2) ∧ ∀ i, vB z i → i ∉ F1 ++ F2
section
variable {lo : Nat} {h h' : Heap} {x y z : V} {c : Lk} {F1 F2 : List Nat}
theorem LkO.keeps {P : Nat → Prop} (o : LkO lo h x y z c F1 F2) (hk : KeepsP P h h') (hp : ∀ i ∈ F1 ++ F2, P i) (hz : ∀ i, vB z i → P i) (hl : h.length ≤ h'.length) : LkO lo h' x y z c F1 F2 := by
  obtain ⟨h1, h2, h3, h4, h5⟩ := o
  exact ⟨h1.keeps (hk.mono fun i hi => hp i (by simp [hi])), h2.keeps (hk.mono fun i hi => hp i (by simp [hi])), h3.keeps hk hz hl, h4.keeps (hk.mono hp), h5⟩
theorem LkO.keep (o : LkO lo h x y z c F1 F2) (hk : Keeps h h') (hl : h.length ≤ h'.length) : LkO lo h' x y z c F1 F2 := o.keeps (hk.p fun _ => True) (fun _ _ => trivial) (fun _ _ => trivial) hl
theorem LkO.v (o : LkO lo h x y z c F1 F2) : ∃ F, LkV h (.agg [x, y, z]) c F ∧ Fresh lo h F ∧ ∀ i ∈ F, i ∈ F1 ++ F2 ∨ vB z i := by
  obtain ⟨h1, h2, h3, h4, h5⟩ := o
  have h3' := h3
  obtain ⟨_, _, ⟨rfl, hov⟩ | ⟨b1, rfl, hb1, _⟩ | ⟨b1, rfl, hov, _⟩⟩ := h3
  · exact ⟨F1 ++ F2 ++ [], ⟨x, y, .nils, F1, F2, [], rfl, rfl, h1, h2, by rw [hov]; exact .nil⟩, by simpa using h4, fun i hi => .inl (by simpa using hi)⟩
  · obtain ⟨F, hF, hF2, hF3⟩ := h3'.sl.sdF h3'.cap
    refine ⟨F1 ++ F2 ++ F, ⟨x, y, _, F1, F2, F, rfl, rfl, h1, h2, hF⟩, ⟨List.nodup_append.2 ⟨h4.nodup, hF.flatF.2.1, fun a ha b hb e => ?_⟩, fun i hi => ?_, fun i hi => ?_⟩, fun i hi => ?_⟩
    · subst e; exact h5 a (hF2 a hb).2 ha
    · rcases List.mem_append.1 hi with hi | hi
      · exact h4.ge i hi
      · exact (h3'.ge (hF2 i hi).2).1
    · rcases List.mem_append.1 hi with hi | hi
      · exact h4.own i hi
      · have := (hF2 i hi).1; simp [bOf] at this; subst this; exact ⟨_, hb1⟩
    · rcases List.mem_append.1 hi with hi | hi
      · exact .inl hi
      · exact .inr (hF2 i hi).2
  · exact ⟨F1 ++ F2 ++ [], ⟨x, y, _, F1, F2, [], rfl, rfl, h1, h2, by rw [hov]; exact ⟨by simp, .inr ⟨b1, 0, .k 0, rfl, Nat.le_refl _, .inl ⟨rfl, rfl⟩⟩⟩⟩, by simpa using h4, fun i hi => .inl (by simpa using hi)⟩
end
section
variable {lo : Nat} {h h' : Heap} {x y z : V} {c : Lk} {F1 F2 : List Nat}
end
end GL

namespace GL
open Go

end GL

namespace GL
open Go

end GL

namespace GL
open Go

end GL

namespace GL
open Go

end GL

namespace GL
open Go

end GL

namespace GL
open Go

instance lkData : Data Lk where
  sz := 3
  pos := by decide
  rep := fun h c cs F => ∃ x y z F1 F2 F3, cs = [x, y, z] ∧ F = F1 ++ F2 ++ F3 ∧ SdF h x c.rd F1 ∧ SdF h y c.wr F2 ∧ SdF h z c.ov F3
  len := by rintro h a cs F ⟨x, y, z, F1, F2, F3, rfl, _⟩; rfl
  ok := by rintro h a cs F ⟨x, y, z, F1, F2, F3, rfl, _, h1, h2, h3⟩; simp [allCell, h1.cell, h2.cell, h3.cell]
  keeps := by
    rintro h h' a cs F ⟨x, y, z, F1, F2, F3, rfl, rfl, h1, h2, h3⟩ hk
    exact ⟨x, y, z, F1, F2, F3, rfl, rfl, h1.keeps (hk.mono fun b hb => by simp [hb]), h2.keeps (hk.mono fun b hb => by simp [hb]), h3.keeps (hk.mono fun b hb => by simp [hb])⟩
  lt := by
    rintro h a cs F b ⟨x, y, z, F1, F2, F3, rfl, rfl, h1, h2, h3⟩ hb
    rcases List.mem_append.1 hb with hb | hb
    · rcases List.mem_append.1 hb with hb | hb
      · exact h1.lt hb
      · exact h2.lt hb
    · exact h3.lt hb
def Lk.of (p : List (List Int) × List Int × List Int) : Lk := ⟨p.1, p.2.1, p.2.2⟩
instance : Flat Ak := ⟨4, fun x => [vi x.who, vi x.item, .bool x.w, .bool x.e], fun _ => rfl, fun _ => rfl, by decide⟩
def Ak.of (p : Int × Int × Bool × Bool) : Ak := ⟨p.1, p.2.1, p.2.2.1, p.2.2.2⟩
end GL

namespace GL
open Go

end GL

namespace GL
open Go

structure Ac where
  who : Int
  item : Int
  wr : Bool
deriving DecidableEq
instance : Flat Ac := ⟨3, fun x => [vi x.who, vi x.item, .bool x.wr], fun _ => rfl, fun _ => rfl, by decide⟩
theorem LkO.mono {lo lo' : Nat} {h : Heap} {x y z : V} {c : Lk} {F1 F2 : List Nat} (o : LkO lo h x y z c F1 F2) (hl : lo' ≤ lo) : LkO lo' h x y z c F1 F2 :=
  ⟨o.1, o.2.1, o.2.2.1.mono hl, o.2.2.2.1.mono hl, o.2.2.2.2⟩

end GL

namespace GL
open Go

theorem LkO.but {lo b0 : Nat} {h h' : Heap} {x y z : V} {c : Lk} {F1 F2 : List Nat} (o : LkO lo h x y z c F1 F2) (hk : KeepsBut b0 h h') (hb : b0 < lo) (hl : h.length ≤ h'.length) : LkO lo h' x y z c F1 F2 :=
  o.keeps hk.P (fun i hi e => by have := o.2.2.2.1.ge i hi; omega) (fun i hi e => by have := (o.2.2.1.ge hi).1; omega) hl

end GL

namespace GL
open Go

end GL

namespace GL
open Go

end GL

namespace GL
open Go

end GL

namespace GL
open Go

end GL

namespace GL
open Go

/-! dependencies: columns that settle columns -/
structure Dp where
  l : List Int
  r : List Int
instance dpData : Data Dp where
  sz := 2
  pos := by decide
  rep := fun h c cs F => ∃ x y F1 F2, cs = [x, y] ∧ F = F1 ++ F2 ∧ SdF h x c.l F1 ∧ SdF h y c.r F2
  len := by rintro h a cs F ⟨x, y, F1, F2, rfl, _⟩; rfl
  ok := by rintro h a cs F ⟨x, y, F1, F2, rfl, _, h1, h2⟩; simp [allCell, h1.cell, h2.cell]
  keeps := by
    rintro h h' a cs F ⟨x, y, F1, F2, rfl, rfl, h1, h2⟩ hk
    exact ⟨x, y, F1, F2, rfl, rfl, h1.keeps (hk.mono fun b hb => List.mem_append_left _ hb), h2.keeps (hk.mono fun b hb => List.mem_append_right _ hb)⟩
  lt := by
    rintro h a cs F b ⟨x, y, F1, F2, rfl, rfl, h1, h2⟩ hb
    rcases List.mem_append.1 hb with hb | hb
    · exact h1.lt hb
    · exact h2.lt hb
theorem SdF.loadDp {h : Heap} {v : V} {xs : List Dp} {F : List Nat} (hs : SdF h v xs F) (i : Nat) (hi : i < xs.length) : ∃ x y F1 F2, rdH h (bOf v) (oOf v + i * 2) 2 = some [x, y] ∧ SdF h x xs[i].l F1 ∧ SdF h y xs[i].r F2 ∧ (∀ b ∈ F1, b ∈ F) ∧ (∀ b ∈ F2, b ∈ F) ∧ F1 ++ F2 = F1 ++ F2 := by
  obtain ⟨cs, G1, G2, G3, e, ⟨x, y, F1, F2, rfl, rfl, h1, h2⟩, rfl⟩ := hs.load i hi
  exact ⟨x, y, F1, F2, e, h1, h2, fun b hb => by simp [hb], fun b hb => by simp [hb], rfl⟩

def okDp (k : Int) (f : Dp) : Bool := risB 0 (k - 1) f.l && risB 0 (k - 1) f.r
def okDps (k : Int) (fs : List Dp) : Bool := decide (1 ≤ k ∧ k ≤ 6) && decide (fs.length ≤ 8) && fs.all (okDp k)

theorem areColumns_eq {h : Heap} {v : V} {xs : List Int} (hs : Sl h v xs) (k : Int) (hk : 1 ≤ k ∧ k ≤ 6) : call p 655 [vi k, v] h = some (.bool (risB 0 (k - 1) xs), h) := by
  have w1 : IntKind.i64.wrap (k - 1) = k - 1 := by rw [IntWalk.i64_in] <;> omega
  have e1 := isRising_eq hs 0 (k - 1)
  refine go_eq (fn := g655) rfl rfl fun R hR => ?_
  simp [g655, w1, e1, hs.cells, hs.cell]; exact hR
theorem isDep_eq {h : Heap} {x y : V} {f : Dp} (hx : Sl h x f.l) (hy : Sl h y f.r) (k : Int) (hk : 1 ≤ k ∧ k ≤ 6) : call p 656 [vi k, .agg [x, y]] h = some (.bool (okDp k f), h) := by
  have e1 := areColumns_eq hx k hk
  have e2 := areColumns_eq hy k hk
  refine go_eq (fn := g656) rfl rfl fun R hR => ?_
  unfold okDp at hR
  cases h1 : risB 0 (k - 1) f.l <;> rw [h1] at e1 hR <;> simp [g656, upd, e1, e2, hx.cells, hx.cell, hy.cells, hy.cell] <;> exact hR
theorem l5Dep_eq {h : Heap} {x y : V} {f : Dp} (hx : Sl h x f.l) (hy : Sl h y f.r) (k : Int) (hk : 1 ≤ k ∧ k ≤ 6) : call p 672 [vi k, .agg [x, y]] h = some (.bool (okDp k f), h) := by
  have w1 : IntKind.i64.wrap (k - 1) = k - 1 := by rw [IntWalk.i64_in] <;> omega
  have e1 := l1Rising_eq hx 0 (k - 1)
  have e2 := l1Rising_eq hy 0 (k - 1)
  refine go_eq (fn := g672) rfl rfl fun R hR => ?_
  unfold okDp at hR
  cases h1 : risB 0 (k - 1) f.l <;> rw [h1] at e1 hR <;> simp [g672, upd, w1, e1, e2, hx.cells, hx.cell, hy.cells, hy.cell] <;> exact hR
theorem notDep_eq {h : Heap} {x y : V} {f : Dp} (hx : Sl h x f.l) (hy : Sl h y f.r) (k : Int) (hk : 1 ≤ k ∧ k ≤ 6) {b : Nat} (hb : rdH h b 0 1 = some [vi k]) : call p 653 [.agg [x, y], .ptr b 0] h = some (.bool (!okDp k f), h) := by
  have e1 := isDep_eq hx hy k hk
  refine go_eq (fn := g653) rfl rfl fun R hR => ?_
  simp [g653, upd, hb, e1, hx.cells, hx.cell, hy.cells, hy.cell]
  exact hR
theorem indexDp_eq {h : Heap} {v : V} {xs : List Dp} {F : List Nat} (hs : SdF h v xs F) (k : Int) (hk : 1 ≤ k ∧ k ≤ 6) {b : Nat} (hb : rdH h b 0 1 = some [vi k]) : ∃ r h', call p 675 [v, .fn 653 [.ptr b 0]] h = some (r, h') ∧ h' = h ∧ ∃ k' : Int, r = vi k' ∧ decide (0 ≤ k') = !xs.all (okDp k) := by
  refine go (fn := g675) rfl rfl fun R hR => ?_
  simp [g675, hs.len]
  refine Wc_upM (M := [4, 5, 8, 9, 10, 11, 12, 13, 14, 15, 16, 17, 18]) rfl xs.length (fun i s => s.σ 8 = .v (vi i) ∧ s.h = h ∧ ∀ x ∈ xs.take i, okDp k x = true) 0 (by simp) fun i s ⟨g8, gh, hall⟩ hM J hJ => ?_
  by_cases hn : i < xs.length
  · obtain ⟨x, y, F1, F2, ld, hx, hy, _⟩ := hs.loadDp i hn
    have e1 := notDep_eq hx.sl hy.sl k hk hb
    cases he : okDp k xs[i] with
    | false =>
      rw [he] at e1
      simp [g675_0, hM, g8, gh, hn, hs.idx, ld, hx.cells, hx.cell, hy.cells, hy.cell, e1]
      refine hR _ _ ⟨rfl, i, rfl, ?_⟩
      have : xs.all (okDp k) = false := List.all_eq_false.2 ⟨xs[i], List.getElem_mem hn, by simp [he]⟩
      simp [this]
    | true =>
      rw [he] at e1
      simp [g675_0, hM, g8, gh, hn, hs.idx, ld, hx.cells, hx.cell, hy.cells, hy.cell, e1, hs.step hn]
      exact hJ _ hn ⟨by simp, rfl, (all_take_succ hn).2 ⟨hall, he⟩⟩
  · rw [List.take_of_length_le (by omega)] at hall
    have : xs.all (okDp k) = true := List.all_eq_true.2 hall
    simp [g675_0, hM, g8, gh, hn]
    exact hR _ _ ⟨rfl, -1, rfl, by simp [this]⟩
theorem containsDp_eq {h : Heap} {v : V} {xs : List Dp} {F : List Nat} (hs : SdF h v xs F) (k : Int) (hk : 1 ≤ k ∧ k ≤ 6) {b : Nat} (hb : rdH h b 0 1 = some [vi k]) : call p 654 [v, .fn 653 [.ptr b 0]] h = some (.bool (!xs.all (okDp k)), h) := by
  obtain ⟨_, _, e, rfl, k', rfl, hk'⟩ := indexDp_eq hs k hk hb
  refine go_eq (fn := g654) rfl rfl fun R hR => ?_
  simp [g654, e, hk']
  simpa using hR
theorem GoodDeps_ok {h : Heap} {v : V} {xs : List Dp} {F : List Nat} (hs : SdF h v xs F) (k : Int) : ∃ r h', call p 616 [vi k, v] h = some (r, h') ∧ r = .bool (okDps k xs) ∧ Keeps h h' ∧ h.length ≤ h'.length := by
  have k0 : Keeps h (h ++ [⟨.own, [vi k]⟩]) := Keeps.append _ _
  have hb0 : (h ++ [⟨.own, [vi k]⟩])[h.length]? = some ⟨.own, [vi k]⟩ := get_last _ _
  have r0 : rdH (h ++ [⟨.own, [vi k]⟩]) h.length 0 1 = some [vi k] := by rw [rdH_at hb0 (by simp)]; rfl
  refine go (fn := g616) rfl rfl fun R hR => ?_
  by_cases hk : 1 ≤ k ∧ k ≤ 6
  · have e1 := containsDp_eq (hs.keep k0) k hk r0
    by_cases h8 : xs.length ≤ 8
    · have h8' : (xs.length : Int) ≤ 8 := by omega
      simp [g616, r0, hk, hs.len, h8, h8', e1, -Bool.decide_and]
      exact hR _ _ ⟨by simp [okDps, hk, h8], k0, by simp⟩
    · have h8' : ¬ (xs.length : Int) ≤ 8 := by omega
      simp [g616, r0, hk, hs.len, h8, h8', -Bool.decide_and]
      exact hR _ _ ⟨by simp [okDps, h8], k0, by simp⟩
  · simp [g616, r0, hk, -Bool.decide_and]
    exact hR _ _ ⟨by simp [okDps, hk, -Bool.decide_and], k0, by simp⟩
theorem GoodDepsS_eq {h : Heap} {v : V} {xs : List Dp} {F : List Nat} (hs : SdF h v xs F) (k : Int) : call p 647 [vi k, v] h = some (.bool (okDps k xs), h) := by
  refine go_eq (fn := g647) rfl rfl fun R hR => ?_
  by_cases hk : 1 ≤ k ∧ k ≤ 6
  · by_cases h8 : xs.length ≤ 8
    · have h8' : (xs.length : Int) ≤ 8 := by omega
      have h8n : ¬ (8 : Int) < xs.length := by omega
      simp [g647, hk, hs.len, h8, h8', h8n, -Bool.decide_and]
      refine Wc_upM (M := [4, 6, 17, 18, 19, 20, 21, 22, 23, 24, 25]) rfl xs.length (fun i s => s.σ 17 = .v (vi i) ∧ s.h = h ∧ ∀ x ∈ xs.take i, okDp k x = true) 0 (by simp) fun i s ⟨g8, gh, hall⟩ hM J hJ => ?_
      by_cases hn : i < xs.length
      · obtain ⟨x, y, F1, F2, ld, hx, hy, _⟩ := hs.loadDp i hn
        have e1 := l5Dep_eq hx.sl hy.sl k hk
        cases he : okDp k xs[i] with
        | false =>
          rw [he] at e1
          have : xs.all (okDp k) = false := List.all_eq_false.2 ⟨xs[i], List.getElem_mem hn, by simp [he]⟩
          rw [okDps, this, Bool.and_false] at hR
          simp [g647_0, hM, g8, gh, hn, hs.idx, ld, upd, hx.cells, hx.cell, hy.cells, hy.cell, e1]
          exact hR
        | true =>
          rw [he] at e1
          simp [g647_0, hM, g8, gh, hn, hs.idx, ld, upd, hx.cells, hx.cell, hy.cells, hy.cell, e1, hs.step hn]
          exact hJ _ hn ⟨by simp, rfl, (all_take_succ hn).2 ⟨hall, he⟩⟩
      · rw [List.take_of_length_le (by omega)] at hall
        have : xs.all (okDp k) = true := List.all_eq_true.2 hall
        rw [okDps, this, decide_eq_true hk, decide_eq_true h8] at hR
        simp [g647_0, hM, g8, gh, hn]
        exact hR
    · have h8n : (8 : Int) < xs.length := by omega
      rw [okDps, decide_eq_false h8] at hR
      simp [g647, hk, hs.len, h8n, -Bool.decide_and]
      simpa using hR
  · rw [okDps, decide_eq_false hk] at hR
    simp [g647, hk, -Bool.decide_and]
    simpa using hR
end GL

namespace GL
open Go

/-! the closure of columns under dependencies -/
def Cld (fs : List Dp) (s : List Int) : Prop := ∀ f ∈ fs, (∀ x ∈ f.l, x ∈ s) → ∀ x ∈ f.r, x ∈ s
def InK (k : Nat) (xs : List Int) : Prop := ∀ x ∈ xs, 0 ≤ x ∧ x < k
def DepsIn (k : Nat) (fs : List Dp) : Prop := ∀ f ∈ fs, InK k f.l ∧ InK k f.r ∧ f.l.Pairwise (· < ·) ∧ f.r.Pairwise (· < ·)
open Classical in
noncomputable def clos (k : Nat) (fs : List Dp) (xs : List Int) : List Int := (upTo k).filter fun n => decide (∀ s : List Int, (∀ x ∈ xs, x ∈ s) → Cld fs s → n ∈ s)
section
variable {k : Nat} {fs : List Dp} {xs : List Int}
theorem mem_clos {n : Int} : n ∈ clos k fs xs ↔ (0 ≤ n ∧ n < k) ∧ ∀ s : List Int, (∀ x ∈ xs, x ∈ s) → Cld fs s → n ∈ s := by
  rw [clos, List.mem_filter, mem_upTo]; simp
theorem clos_ris : (clos k fs xs).Pairwise (· < ·) := List.Pairwise.filter _ (range_rising k)
theorem clos_sub (hx : InK k xs) : ∀ x ∈ xs, x ∈ clos k fs xs := fun x h => mem_clos.2 ⟨hx x h, fun _ h1 _ => h1 x h⟩
theorem clos_min {n : Int} (hn : n ∈ clos k fs xs) {s : List Int} (h1 : ∀ x ∈ xs, x ∈ s) (h2 : Cld fs s) : n ∈ s := (mem_clos.1 hn).2 s h1 h2
structure CurOK (k : Nat) (fs : List Dp) (xs cur : List Int) : Prop where
  ris : cur.Pairwise (· < ·)
  ink : InK k cur
  sub : ∀ x ∈ xs, x ∈ cur
  min : ∀ x ∈ cur, ∀ s : List Int, (∀ x ∈ xs, x ∈ s) → Cld fs s → x ∈ s
theorem CurOK.start (h1 : xs.Pairwise (· < ·)) (h2 : InK k xs) : CurOK k fs xs xs := ⟨h1, h2, fun _ h => h, fun x hx s h1 _ => h1 x hx⟩
theorem CurOK.eq {cur : List Int} (h : CurOK k fs xs cur) (hc : Cld fs cur) : cur = clos k fs xs :=
  rising_ext h.ris clos_ris fun x => ⟨fun hx => mem_clos.2 ⟨h.ink x hx, fun s h1 h2 => h.min x hx s h1 h2⟩, fun hx => clos_min hx h.sub hc⟩
theorem CurOK.len {cur : List Int} (h : CurOK k fs xs cur) : cur.length ≤ k := rising_len h.ris h.ink
theorem CurOK.grow {cur ys : List Int} (h : CurOK k fs xs cur) (hd : DepsIn k fs) {f : Dp} (hf : f ∈ fs) (hl : ∀ x ∈ f.l, x ∈ cur) (hr : ys.Pairwise (· < ·)) (hm : ∀ x, x ∈ ys ↔ x ∈ cur ∨ x ∈ f.r) : CurOK k fs xs ys :=
  ⟨hr, fun x hx => by
    rcases (hm x).1 hx with h1 | h1
    · exact h.ink x h1
    · exact (hd f hf).2.1 x h1, fun x hx => (hm x).2 (.inl (h.sub x hx)), fun x hx s h1 h2 => by
    rcases (hm x).1 hx with h3 | h3
    · exact h.min x h3 s h1 h2
    · exact h2 f hf (fun y hy => h.min y (hl y hy) s h1 h2) x h3⟩
theorem longer {cur ys : List Int} (hn : cur.Pairwise (· < ·)) (hs : ∀ x ∈ cur, x ∈ ys) {z : Int} (hz : z ∈ ys) (hc : z ∉ cur) : cur.length < ys.length := by
  have := sub_len (l := z :: cur) (m := ys) (List.nodup_cons.2 ⟨hc, hn.imp fun h => Int.ne_of_lt h⟩) fun x hx => by
    rcases List.mem_cons.1 hx with rfl | h
    · exact hz
    · exact hs x h
  simp only [List.length_cons] at this; omega
end

theorem closure_ok {h : Heap} {vf vx : V} {k : Nat} {fs : List Dp} {xs : List Int} {F : List Nat} (hf : SdF h vf fs F) (hx : Sl h vx xs) (hd : DepsIn k fs) (hr : xs.Pairwise (· < ·)) (hin : InK k xs) (hk : k ≤ 2 ^ 10) :
    ∃ r h', call p 645 [vf, vx] h = some (r, h') ∧ ∃ G, SdF h' r (clos k fs xs) G ∧ Keeps h h' ∧ h.length ≤ h'.length := by
  have hxl : xs.length ≤ k := rising_len hr hin
  obtain ⟨r, h1, e1, G1, c1, f1, k1, l1⟩ := cloneI_ok hx (by omega)
  refine go (fn := g645) rfl rfl fun R hR => ?_
  simp [g645, hx.cells, hx.cell, e1]
  refine Wc_dnM (M := [5, 6, 8, 11, 12, 13, 14, 15, 16, 17, 18, 19, 20, 21, 22, 23, 24, 25, 26, 27, 28, 29, 30, 31, 32, 33]) rfl (fun m s => ∃ (cur : List Int) (v : V) (G : List Nat) (b : Bool), s.σ 5 = .v v ∧ s.σ 6 = .v (.bool b) ∧ SdF s.h v cur G ∧ CurOK k fs xs cur ∧ Keeps h s.h ∧ h.length ≤ s.h.length ∧ ((b = true ∧ m = k + 1 - cur.length) ∨ (b = false ∧ m = 0 ∧ Cld fs cur))) (k + 1 - xs.length)
    ⟨xs, r, G1, true, by simp, by simp, c1, .start hr hin, k1, l1, .inl ⟨rfl, rfl⟩⟩ fun m s ⟨cur, v, G, b, g5, g6, sc, hc, hk0, hl0, hb⟩ hM J hJ => ?_
  rcases hb with ⟨rfl, hm⟩ | ⟨rfl, hm, hcl⟩
  · have hlen := hc.len
    simp [g645_1, hM, g6, hf.len]
    refine Wc_upM (M := [5, 6, 8, 14, 15, 16, 17, 18, 19, 20, 21, 22, 23, 24, 25, 26, 27, 28, 29, 30, 31, 32, 33]) rfl fs.length (fun i s => s.σ 14 = .v (vi i) ∧ ∃ (cur' : List Int) (v : V) (G : List Nat) (b : Bool), s.σ 5 = .v v ∧ s.σ 6 = .v (.bool b) ∧ SdF s.h v cur' G ∧ CurOK k fs xs cur' ∧ Keeps h s.h ∧ h.length ≤ s.h.length ∧ ((b = true ∧ cur.length < cur'.length) ∨ (b = false ∧ cur' = cur ∧ ∀ f ∈ fs.take i, (∀ x ∈ f.l, x ∈ cur) → ∀ x ∈ f.r, x ∈ cur))) 0
      ⟨by simp, cur, v, G, false, by simp [g5], by simp, sc, hc, hk0, hl0, .inr ⟨rfl, rfl, by simp⟩⟩ fun i s1 ⟨g14, cur', v', G', b', g5', g6', sc', hc', hk1, hl1, hb'⟩ hM1 J1 hJ1 => ?_
    have hM' : ∀ q, q ∉ [5, 6, 8, 11, 12, 13, 14, 15, 16, 17, 18, 19, 20, 21, 22, 23, 24, 25, 26, 27, 28, 29, 30, 31, 32, 33] → s1.σ q = s.σ q := fun q hq => by rw [hM1 q (by simp at hq ⊢; omega)]; simp at hq; simp [hq]
    by_cases hn : i < fs.length
    · have hf1 := hf.keep hk1
      obtain ⟨x, y, F1, F2, ld, sx, sy, _⟩ := hf1.loadDp i hn
      have st := hf.step hn
      have hmem := List.getElem_mem hn
      obtain ⟨_, h2, e2, rfl, k2, l2⟩ := hasAll_ok sc'.sl sx.sl
      by_cases hall : ∀ x ∈ fs[i].l, x ∈ cur'
      · have ea : (fs[i].l.all fun n => decide (n ∈ cur')) = true := List.all_eq_true.2 fun x hx => by simpa using hall x hx
        rw [ea] at e2
        have sc2 := sc'.keep k2
        have sy2 := sy.keep k2
        obtain ⟨_, h3, e3, rfl, k3, l3⟩ := hasAll_ok sc2.sl sy2.sl
        by_cases hall2 : ∀ x ∈ fs[i].r, x ∈ cur'
        · have eb : (fs[i].r.all fun n => decide (n ∈ cur')) = true := List.all_eq_true.2 fun x hx => by simpa using hall2 x hx
          rw [eb] at e3
          simp [g645_0, hM1, hM, g14, g5', g6', hn, hf1.idx, ld, upd, sx.cells, sx.cell, sy.cells, sy.cell, e2, e3, st]
          refine hJ1 _ hn ⟨by simp, cur', v', G', b', by simp [g5'], by simp [g6'], sc2.keep k3, hc', (hk1.trans k2).trans k3, by show h.length ≤ h3.length; omega, ?_⟩
          rcases hb' with hb' | ⟨h4, h5, h6⟩
          · exact .inl hb'
          · subst h5
            exact .inr ⟨h4, rfl, (all_take_succ hn).2 ⟨h6, fun _ => hall2⟩⟩
        · have eb : (fs[i].r.all fun n => decide (n ∈ cur')) = false := by
            rw [Bool.eq_false_iff]; intro h; exact hall2 fun x hx => by simpa using List.all_eq_true.1 h x hx
          rw [eb] at e3
          have hyl := rising_len hc'.ris hc'.ink
          have sy3 := sy2.keep k3
          have hrl := rising_len (hd _ hmem).2.2.2 (hd _ hmem).2.1
          have hln : cur'.length + fs[i].r.length ≤ 2 ^ 20 := by omega
          obtain ⟨r4, h4, e4, ys, G4, c4, f4, pw, hm4, k4, l4⟩ := together_ok (sc2.keep k3) sy3 hln
          simp [g645_0, hM1, hM, g14, g5', g6', hn, hf1.idx, ld, upd, sx.cells, sx.cell, sy.cells, sy.cell, e2, e3, e4, st]
          refine hJ1 _ hn ⟨by simp, ys, r4, G4, true, by simp, by simp, c4, hc'.grow hd hmem hall pw hm4, ((hk1.trans k2).trans k3).trans k4, by show h.length ≤ h4.length; omega, .inl ⟨rfl, ?_⟩⟩
          obtain ⟨z, hz, hzn⟩ : ∃ z ∈ fs[i].r, z ∉ cur' := by
            apply Classical.byContradiction; intro hne; exact hall2 fun x hx => Classical.byContradiction fun hx' => hne ⟨x, hx, hx'⟩
          have h9 := longer hc'.ris (ys := ys) (fun x hx => (hm4 x).2 (.inl hx)) ((hm4 z).2 (.inr hz)) hzn
          rcases hb' with ⟨_, h5⟩ | ⟨_, h5, _⟩
          · omega
          · subst h5; exact h9
      · have ea : (fs[i].l.all fun n => decide (n ∈ cur')) = false := by
          rw [Bool.eq_false_iff]; intro h; exact hall fun x hx => by simpa using List.all_eq_true.1 h x hx
        rw [ea] at e2
        simp [g645_0, hM1, hM, g14, g5', g6', hn, hf1.idx, ld, upd, sx.cells, sx.cell, sy.cells, sy.cell, e2, st]
        refine hJ1 _ hn ⟨by simp, cur', v', G', b', by simp [g5'], by simp [g6'], sc'.keep k2, hc', hk1.trans k2, by show h.length ≤ h2.length; omega, ?_⟩
        rcases hb' with hb' | ⟨h4, h5, h6⟩
        · exact .inl hb'
        · subst h5
          exact .inr ⟨h4, rfl, (all_take_succ hn).2 ⟨h6, fun h => absurd h hall⟩⟩
    · simp [g645_0, hM1, g14, hn]
      rcases hb' with ⟨h4, h5⟩ | ⟨h4, h5, h6⟩
      · have := hc'.len
        exact hJ _ _ (by omega) ⟨cur', v', G', b', g5', g6', sc', hc', hk1, hl1, .inl ⟨h4, rfl⟩⟩
      · rw [List.take_of_length_le (by omega)] at h6
        subst h5
        exact hJ 0 _ (by omega) ⟨cur', v', G', b', g5', g6', sc', hc', hk1, hl1, .inr ⟨h4, rfl, h6⟩⟩
  · simp [g645_1, hM, g6, g5]
    rw [hc.eq hcl] at sc
    exact hR _ _ ⟨G, sc, hk0, hl0⟩
end GL

namespace GL
open Go

theorem l5Closure_ok {h : Heap} {vf vx : V} {k : Nat} {fs : List Dp} {xs : List Int} {F : List Nat} (hf : SdF h vf fs F) (hx : Sl h vx xs) (hd : DepsIn k fs) (hr : xs.Pairwise (· < ·)) (hin : InK k xs) (hk : k ≤ 2 ^ 10) :
    ∃ r h', call p 649 [vf, vx] h = some (r, h') ∧ ∃ G, SdF h' r (clos k fs xs) G ∧ Keeps h h' ∧ h.length ≤ h'.length := by
  have hxl : xs.length ≤ k := rising_len hr hin
  obtain ⟨e0, r, h1, e1, G1, c1, f1, k1, l1⟩ := appNew hx (show xs.length ≤ 2 ^ 20 by omega) (k := 1) (bytes := 8) rfl (by decide)
  refine go (fn := g649) rfl rfl fun R hR => ?_
  simp [g649, hx.len, hx.cells, hx.cell, e0, e1]
  refine Wc_dnM (M := [5, 6, 8, 10, 14, 15, 16, 17, 18, 19, 20, 21, 22, 23, 24, 25, 26, 27, 28, 29, 30, 31, 32, 33, 34, 35, 36, 37, 38, 39, 40, 41, 42, 43]) rfl (fun m s => ∃ (cur : List Int) (v : V) (G : List Nat) (b : Bool), s.σ 5 = .v v ∧ s.σ 6 = .v (.bool b) ∧ SdF s.h v cur G ∧ CurOK k fs xs cur ∧ Keeps h s.h ∧ h.length ≤ s.h.length ∧ ((b = true ∧ m = k + 1 - cur.length) ∨ (b = false ∧ m = 0 ∧ Cld fs cur))) (k + 1 - xs.length)
    ⟨xs, r, G1, true, by simp, by simp, c1, .start hr hin, k1, by simpa using l1, .inl ⟨rfl, rfl⟩⟩ fun m s ⟨cur, v, G, b, g5, g6, sc, hc, hk0, hl0, hb⟩ hM J hJ => ?_
  rcases hb with ⟨rfl, hm⟩ | ⟨rfl, hm, hcl⟩
  · have hlen := hc.len
    simp [g649_2, hM, g6, hf.len]
    refine Wc_upM (M := [5, 6, 8, 10, 17, 18, 19, 20, 21, 22, 23, 24, 25, 26, 27, 28, 29, 30, 31, 32, 33, 34, 35, 36, 37, 38, 39, 40, 41, 42, 43]) rfl fs.length (fun i s => s.σ 17 = .v (vi i) ∧ ∃ (cur' : List Int) (v : V) (G : List Nat) (b : Bool), s.σ 5 = .v v ∧ s.σ 6 = .v (.bool b) ∧ SdF s.h v cur' G ∧ CurOK k fs xs cur' ∧ Keeps h s.h ∧ h.length ≤ s.h.length ∧ ((b = true ∧ cur.length < cur'.length) ∨ (b = false ∧ cur' = cur ∧ ∀ f ∈ fs.take i, (∀ x ∈ f.l, x ∈ cur) → ∀ x ∈ f.r, x ∈ cur))) 0
      ⟨by simp, cur, v, G, false, by simp [g5], by simp, sc, hc, hk0, hl0, .inr ⟨rfl, rfl, by simp⟩⟩ fun i s1 ⟨g14, cur', v', G', b', g5', g6', sc', hc', hk1, hl1, hb'⟩ hM1 J1 hJ1 => ?_
    by_cases hn : i < fs.length
    · have hf1 := hf.keep hk1
      obtain ⟨x, y, F1, F2, ld, sx, sy, _⟩ := hf1.loadDp i hn
      have st := hf.step hn
      have hmem := List.getElem_mem hn
      have e2 := l5Sub_eq sx.sl sc'.sl
      by_cases hall : ∀ x ∈ fs[i].l, x ∈ cur'
      · have ea : (fs[i].l.all fun n => decide (n ∈ cur')) = true := List.all_eq_true.2 fun x hx => by simpa using hall x hx
        rw [ea] at e2
        have e3 := l5Sub_eq sy.sl sc'.sl
        by_cases hall2 : ∀ x ∈ fs[i].r, x ∈ cur'
        · have eb : (fs[i].r.all fun n => decide (n ∈ cur')) = true := List.all_eq_true.2 fun x hx => by simpa using hall2 x hx
          rw [eb] at e3
          simp [g649_1, hM1, hM, g14, g5', g6', hn, hf1.idx, ld, upd, sx.cells, sx.cell, sy.cells, sy.cell, e2, e3, st]
          refine hJ1 _ hn ⟨by simp, cur', v', G', b', by simp [g5'], by simp [g6'], sc', hc', hk1, hl1, ?_⟩
          rcases hb' with hb' | ⟨h4, h5, h6⟩
          · exact .inl hb'
          · subst h5
            exact .inr ⟨h4, rfl, (all_take_succ hn).2 ⟨h6, fun _ => hall2⟩⟩
        · have eb : (fs[i].r.all fun n => decide (n ∈ cur')) = false := by
            rw [Bool.eq_false_iff]; intro h; exact hall2 fun x hx => by simpa using List.all_eq_true.1 h x hx
          rw [eb] at e3
          have hyl := rising_len hc'.ris hc'.ink
          have hrl := rising_len (hd _ hmem).2.2.2 (hd _ hmem).2.1
          simp [g649_1, hM1, hM, g14, g5', g6', hn, hf1.idx, ld, upd, sx.cells, sx.cell, sy.cells, sy.cell, sy.len, e2, e3, st]
          refine Wc_upM (M := [5, 10, 35, 36, 37, 38, 39, 40, 41, 42]) rfl fs[i].r.length (fun j s => s.σ 35 = .v (vi j) ∧ ∃ (c2 : List Int) (v : V) (G : List Nat), s.σ 5 = .v v ∧ SdF s.h v c2 G ∧ c2.Pairwise (· < ·) ∧ (∀ x, x ∈ c2 ↔ x ∈ cur' ∨ x ∈ fs[i].r.take j) ∧ c2.length ≤ cur'.length + j ∧ Keeps s1.h s.h ∧ s1.h.length ≤ s.h.length) 0
            ⟨by simp, cur', v', G', by simp [g5'], sc', hc'.ris, by simp, by omega, Keeps.refl _, Nat.le_refl _⟩ fun j s2 ⟨g35, c2, v2, G2, g52, sc2, hr2, hm2, hl2, hk2, hlen2⟩ hM2 J2 hJ2 => ?_
          by_cases hj : j < fs[i].r.length
          · have sy2 := (sy.keep hk2).sl
            have ix := sy2.idx 1 .i64 j hj
            have ldj := sy2.loadI j hj
            have stj := sy2.step hj
            simp only [Nat.mul_one] at ix
            obtain ⟨r5, h5, e5, ys, G5, sc5, hr5, hm5, hl5, _, k5, l5⟩ := l1Put_ok sc2 hr2 (by omega) fs[i].r[j]
            have hts := List.take_succ_eq_append_getElem hj
            simp [g649_0, hM2, hM1, hM, g35, g52, hj, ix, ldj, upd, e5, stj]
            refine hJ2 _ hj ⟨by simp, ys, r5, G5, by simp, sc5, hr5, fun x => by rw [hm5 x, hm2 x, hts, List.mem_append, List.mem_singleton, or_assoc], by omega, hk2.trans k5, by show s1.h.length ≤ h5.length; omega⟩
          · rw [List.take_of_length_le (by omega)] at hm2
            have g6f : s2.σ 6 = .v (.bool true) := by rw [hM2 6 (by simp)]; simp
            have stj := st
            simp [g649_0, hM2, hM1, hM, g35, g52, hj, stj, g14]
            refine hJ1 _ hn ⟨by simp, c2, v2, G2, true, by simp [g52], by simp [g6f], sc2, hc'.grow hd hmem hall hr2 hm2, hk1.trans hk2, by show h.length ≤ s2.h.length; omega, .inl ⟨rfl, ?_⟩⟩
            obtain ⟨z, hz, hzn⟩ : ∃ z ∈ fs[i].r, z ∉ cur' := by
              apply Classical.byContradiction; intro hne; exact hall2 fun x hx => Classical.byContradiction fun hx' => hne ⟨x, hx, hx'⟩
            have h9 := longer hc'.ris (ys := c2) (fun x hx => (hm2 x).2 (.inl hx)) ((hm2 z).2 (.inr hz)) hzn
            rcases hb' with ⟨_, h5⟩ | ⟨_, h5, _⟩
            · omega
            · subst h5; exact h9
      · have ea : (fs[i].l.all fun n => decide (n ∈ cur')) = false := by
          rw [Bool.eq_false_iff]; intro h; exact hall fun x hx => by simpa using List.all_eq_true.1 h x hx
        rw [ea] at e2
        simp [g649_1, hM1, hM, g14, g5', g6', hn, hf1.idx, ld, upd, sx.cells, sx.cell, sy.cells, sy.cell, e2, st]
        refine hJ1 _ hn ⟨by simp, cur', v', G', b', by simp [g5'], by simp [g6'], sc', hc', hk1, hl1, ?_⟩
        rcases hb' with hb' | ⟨h4, h5, h6⟩
        · exact .inl hb'
        · subst h5
          exact .inr ⟨h4, rfl, (all_take_succ hn).2 ⟨h6, fun h => absurd h hall⟩⟩
    · simp [g649_1, hM1, g14, hn]
      rcases hb' with ⟨h4, h5⟩ | ⟨h4, h5, h6⟩
      · have := hc'.len
        exact hJ _ _ (by omega) ⟨cur', v', G', b', g5', g6', sc', hc', hk1, hl1, .inl ⟨h4, rfl⟩⟩
      · rw [List.take_of_length_le (by omega)] at h6
        subst h5
        exact hJ 0 _ (by omega) ⟨cur', v', G', b', g5', g6', sc', hc', hk1, hl1, .inr ⟨h4, rfl, h6⟩⟩
  · simp [g649_2, hM, g6, g5]
    rw [hc.eq hcl] at sc
    exact hR _ _ ⟨G, sc, hk0, hl0⟩
end GL

namespace GL
open Go

/-! lists of columns az bits of a number -/
def bitsOf (k m : Nat) : List Int := (upTo k).filter fun n => m.testBit n.toNat
theorem mem_bits {k m : Nat} {x : Int} : x ∈ bitsOf k m ↔ (0 ≤ x ∧ x < k) ∧ m.testBit x.toNat = true := by
  rw [bitsOf, List.mem_filter, mem_upTo]
theorem bits_ris (k m : Nat) : (bitsOf k m).Pairwise (· < ·) := List.Pairwise.filter _ (range_rising k)
theorem bits_in (k m : Nat) : InK k (bitsOf k m) := fun _ hx => (mem_bits.1 hx).1
theorem bits_len (k m : Nat) : (bitsOf k m).length ≤ k := rising_len (bits_ris k m) (bits_in k m)

theorem shr_v {k' : IntKind} (m i : Nat) (hi : i ≤ 60) : binV .shr (vi m) (.int k' (i : Int)) = some (vi (m / 2 ^ i : Nat)) := by
  have hmin : min i 64 = i := by omega
  have h0 : ¬ ((i : Int) < 0) := by omega
  simp only [binV, shI, h0, if_false, or_true, if_true, Int.toNat_natCast, IntKind.bits, hmin]
  rw [Int.fdiv_eq_ediv_of_nonneg _ (by exact_mod_cast Nat.zero_le (2 ^ i))]
  norm_cast
theorem and_v (a : Nat) (ha : a < 2 ^ 30) : binV .and (vi a) (vi 1) = some (vi (a % 2 : Nat)) := by
  have e : (BitVec.ofInt 64 (a : Int) &&& BitVec.ofInt 64 1).toNat = a % 2 := by
    rw [BitVec.toNat_and, BitVec.ofInt_natCast, BitVec.toNat_ofNat]
    have : (BitVec.ofInt 64 1).toNat = 1 := by decide
    rw [this, Nat.mod_eq_of_lt (by omega), Nat.and_one_is_mod]
  have hw : IntKind.i64.wrap ((a % 2 : Nat) : Int) = (a % 2 : Nat) := by rw [IntWalk.i64_in]; omega
  have : binV .and (vi a) (vi 1) = some (.int .i64 (IntKind.i64.wrap ((BitVec.ofInt 64 (a : Int) &&& BitVec.ofInt 64 1).toNat : Nat))) := rfl
  rw [this, e, hw]
theorem shl_v {k' : IntKind} (i : Nat) (hi : i ≤ 30) : binV .shl (vi 1) (.int k' (i : Int)) = some (vi (2 ^ i : Nat)) := by
  have hmin : min i 64 = i := by omega
  have h0 : ¬ ((i : Int) < 0) := by omega
  have hp : 2 ^ i ≤ 2 ^ 30 := Nat.pow_le_pow_right (by decide) hi
  have e : (1 : Int) * 2 ^ i = ((2 ^ i : Nat) : Int) := by simp
  simp only [binV, shI, h0, if_false, true_or, if_true, Int.toNat_natCast, IntKind.bits, hmin]
  generalize hq : (2 : Nat) ^ i = q at *
  rw [e, IntWalk.i64_in]; omega
theorem tb_v (m i : Nat) : decide (((m / 2 ^ i % 2 : Nat) : Int) = 1) = m.testBit i := by
  rw [Nat.testBit_eq_decide_div_mod_eq]
  generalize m / 2 ^ i % 2 = q
  congr 1; simp; omega
end GL

namespace GL
open Go

theorem bv_lss (k : IntKind) (a b : Int) : binV .lss (.int k a) (.int k b) = some (.bool (decide (a < b))) := by simp [binV, binI]
theorem bv_gtr (k : IntKind) (a b : Int) : binV .gtr (.int k a) (.int k b) = some (.bool (decide (b < a))) := by simp [binV, binI]
theorem bv_eql (k : IntKind) (a b : Int) : binV .eql (.int k a) (.int k b) = some (.bool (decide (a = b))) := by simp [binV, binI]
theorem bv_add (k : IntKind) (a b : Int) : binV .add (.int k a) (.int k b) = some (.int k (k.wrap (a + b))) := by simp [binV, binI]
theorem bv_sub (k : IntKind) (a b : Int) : binV .sub (.int k a) (.int k b) = some (.int k (k.wrap (a - b))) := by simp [binV, binI]

theorem l5List_ok {h : Heap} {k m : Nat} (hm : m < 2 ^ k) (hk : k ≤ 20) : ∃ r h', call p 648 [vi m] h = some (r, h') ∧ Out h.length h' r (bitsOf k m) ∧ Keeps h h' ∧ h.length ≤ h'.length := by
  have hk2 : 2 ^ k ≤ 2 ^ 20 := Nat.pow_le_pow_right (by decide) hk
  refine go (fn := g648) rfl rfl fun R hR => ?_
  simp [g648]
  refine Wc_upM (M := [3, 4, 5, 6, 7, 8, 9, 10, 11, 12, 13, 14, 15, 16, 17, 18, 19, 20, 21]) rfl k (fun i s => i ≤ k ∧ s.σ 4 = .v (vi i) ∧ ∃ v, s.σ 3 = .v v ∧ Out h.length s.h v (bitsOf i m) ∧ Keeps h s.h ∧ h.length ≤ s.h.length) 0
    ⟨by omega, by simp, .nils, by simp, by simpa [bitsOf, upTo] using Out.nil (Nat.le_refl _), Keeps.refl _, Nat.le_refl _⟩ fun i s ⟨gi, g4, v, g3, ho, hk0, hl0⟩ hM J hJ => ?_
  have wu : IntKind.u64.wrap (i : Int) = i := by rw [IntWalk.u64_in]; omega
  have w1 : IntKind.i64.wrap ((i : Int) + 1) = (i + 1 : Nat) := by rw [IntWalk.i64_in] <;> omega
  have e1 := shr_v (k' := .u64) m i (by omega)
  have e2 := and_v (m / 2 ^ i) (by have := Nat.div_le_self m (2 ^ i); omega)
  have e3 := tb_v m i
  have hlo : 0 < m / 2 ^ i → i < k := fun hc => by
    apply Classical.byContradiction; intro hge
    have : m < 2 ^ i := Nat.lt_of_lt_of_le hm (Nat.pow_le_pow_right (by decide) (by omega))
    rw [Nat.div_eq_of_lt this] at hc; omega
  have hhi : m / 2 ^ i = 0 → m < 2 ^ i := fun h3 => by
    rcases Nat.div_eq_zero_iff.1 h3 with h | h
    · have := Nat.pow_pos (n := i) (show 0 < 2 by decide); omega
    · exact h
  generalize m / 2 ^ i = q at *
  by_cases hc : 0 < q
  · have hik := hlo hc
    have hbl := bits_len i m
    cases hb : m.testBit i with
    | true =>
      rw [hb] at e3
      obtain ⟨v', h2, e5, o2, k2, l2⟩ := ho.one (i : Int) (by omega)
      have kk := ho.far hk0 k2 (Nat.le_refl _)
      simp [g648_0, -binV_int, bv_gtr, bv_eql, bv_add, hM, g4, g3, wu, e1, e2, e3, hc, w1, fillL, rdS_last, e5, -Int.natCast_emod, -Int.natCast_add]
      refine hJ _ hik ⟨hik, by simp, v', by simp, ?_, kk, by show h.length ≤ h2.length; omega⟩
      have : bitsOf (i + 1) m = bitsOf i m ++ [(i : Int)] := by rw [bitsOf, upTo_filter]; simp [hb, bitsOf]
      rw [this]; exact o2
    | false =>
      rw [hb] at e3
      simp [g648_0, -binV_int, bv_gtr, bv_eql, bv_add, hM, g4, g3, wu, e1, e2, e3, hc, w1, -Int.natCast_emod, -Int.natCast_add]
      refine hJ _ hik ⟨hik, by simp, v, by simp [g3], ?_, hk0, hl0⟩
      have : bitsOf (i + 1) m = bitsOf i m := by rw [bitsOf, upTo_filter]; simp [hb, bitsOf]
      rw [this]; exact ho
  · have hlt := hhi (by omega)
    simp [g648_0, -binV_int, bv_gtr, bv_eql, bv_add, hM, g4, g3, wu, e1, hc]
    have : bitsOf i m = bitsOf k m := rising_ext (bits_ris _ _) (bits_ris _ _) fun x => by
      rw [mem_bits, mem_bits]
      constructor
      · rintro ⟨h1, h2⟩; exact ⟨by omega, h2⟩
      · rintro ⟨h1, h2⟩
        refine ⟨⟨h1.1, ?_⟩, h2⟩
        apply Classical.byContradiction; intro hge
        rw [Nat.testBit_lt_two_pow (Nat.lt_of_lt_of_le hlt (Nat.pow_le_pow_right (by decide) (by omega)))] at h2; cases h2
    rw [this] at ho
    exact hR _ _ ⟨ho, hk0, hl0⟩

end GL

namespace GL
open Go

theorem ris_of {lo hi : Int} {xs : List Int} : risB lo hi xs = true ↔ (∀ x ∈ xs, lo ≤ x ∧ x ≤ hi) ∧ xs.Pairwise (· < ·) := by simp only [risB, decide_eq_true_eq]
theorem ris_in {k : Nat} {xs : List Int} (h : risB 0 ((k : Int) - 1) xs = true) : InK k xs ∧ xs.Pairwise (· < ·) := by
  obtain ⟨h1, h2⟩ := ris_of.1 h
  exact ⟨fun x hx => by have := h1 x hx; omega, h2⟩
theorem in_ris {k : Nat} {xs : List Int} (h : InK k xs) (hr : xs.Pairwise (· < ·)) : risB 0 ((k : Int) - 1) xs = true := ris_of.2 ⟨fun x hx => by have := h x hx; omega, hr⟩
theorem okDp_in {k : Nat} {f : Dp} (h : okDp k f = true) : InK k f.l ∧ InK k f.r ∧ f.l.Pairwise (· < ·) ∧ f.r.Pairwise (· < ·) := by
  simp only [okDp, Bool.and_eq_true] at h
  exact ⟨(ris_in h.1).1, (ris_in h.2).1, (ris_in h.1).2, (ris_in h.2).2⟩
theorem okDps_in {k : Nat} {fs : List Dp} (h : okDps k fs = true) : (1 ≤ k ∧ k ≤ 6) ∧ fs.length ≤ 8 ∧ DepsIn k fs := by
  simp only [okDps, Bool.and_eq_true, decide_eq_true_eq, List.all_eq_true] at h
  exact ⟨by omega, h.1.2, fun f hf => okDp_in (h.2 f hf)⟩

noncomputable def impD (k : Nat) (fs : List Dp) (f : Dp) : Bool := f.r.all fun n => decide (n ∈ clos k fs f.l)
theorem implies_ok {h : Heap} {vf x y : V} {k : Nat} {fs : List Dp} {f : Dp} {F : List Nat} (hf : SdF h vf fs F) (hx : Sl h x f.l) (hy : Sl h y f.r) (hd : DepsIn k fs) (hr : f.l.Pairwise (· < ·)) (hin : InK k f.l) (hk : k ≤ 2 ^ 10) :
    ∃ r h', call p 652 [vf, .agg [x, y]] h = some (r, h') ∧ r = .bool (impD k fs f) ∧ Keeps h h' ∧ h.length ≤ h'.length := by
  obtain ⟨r1, h1, e1, G1, s1, k1, l1⟩ := closure_ok hf hx hd hr hin hk
  obtain ⟨_, h2, e2, rfl, k2, l2⟩ := hasAll_ok s1.sl (hy.keeps k1)
  refine go (fn := g652) rfl rfl fun R hR => ?_
  simp [g652, upd, hx.cells, hx.cell, hy.cells, hy.cell, e1]
  rw [show (f.r.all fun n => decide (n ∈ clos k fs f.l)) = impD k fs f from rfl] at e2
  simp [e2]
  exact hR _ _ ⟨rfl, k1.trans k2, by omega⟩
end GL

namespace GL
open Go

/-! keys: lists that settle all, and no part of which does -/
def Bx (h : Heap) (b : Nat) (x : V) : Prop := ∃ st, st ≠ .dead ∧ h[b]? = some ⟨st, [x]⟩
theorem Bx.rd {h : Heap} {b : Nat} {x : V} (hb : Bx h b x) : rdH h b 0 1 = some [x] := by
  obtain ⟨st, h1, h2⟩ := hb
  rw [rdH_at h2 h1]; rfl
theorem Bx.keeps {h h' : Heap} {b : Nat} {x : V} {P : Nat → Prop} (hb : Bx h b x) (k : KeepsP P h h') (hp : P b) : Bx h' b x := by
  obtain ⟨st, h1, h2⟩ := hb
  exact ⟨st, h1, k _ _ hp h2 h1⟩
theorem Bx.keep {h h' : Heap} {b : Nat} {x : V} (hb : Bx h b x) (k : Keeps h h') : Bx h' b x := hb.keeps (k.p fun _ => True) trivial
theorem Bx.last (h : Heap) (x : V) : Bx (h ++ [⟨.own, [x]⟩]) h.length x := ⟨.own, by simp, get_last _ _⟩
theorem Bx.lt {h : Heap} {b : Nat} {x : V} (hb : Bx h b x) : b < h.length := by obtain ⟨_, _, h2⟩ := hb; exact get_lt h2

end GL

namespace GL
open Go

theorem OdF.od {α : Type} [Data α] {lo : Nat} {h : Heap} {v : V} {xs : List α} {G : List Nat} (o : OdF lo h v xs G) : Od lo h v xs G := o.1

end GL

namespace GL
open Go

end GL

namespace GL
open Go

end GL

namespace GL
open Go

end GL

namespace GL
open Go

theorem DepsIn.sub {k : Nat} {fs gs : List Dp} (h : DepsIn k fs) (hs : ∀ f ∈ gs, f ∈ fs) : DepsIn k gs := fun f hf => h f (hs f hf)
end GL

namespace GL
open Go

end GL

namespace GL
open Go

end GL

namespace GL
open Go

theorem DC.someCols {h0 h : Heap} {N : Nat} (d : DC h0 h N) (hN : N < 2 ^ 57) (n : Nat) (hn : n ≤ 30) : ∃ v h', call p 658 [.ptr h0.length 0, vi n] h = some (v, h') ∧ ∃ (xs : List Int), Out h.length h' v xs ∧ xs.length ≤ 31 ∧ DC h0 h' (N + 70) ∧ KeepsBut h0.length h h' ∧ h.length ≤ h'.length := by
  have hlt := d.lt
  refine go (fn := g658) rfl rfl fun R hR => ?_
  simp [g658]
  refine Wc_upM (M := [5, 6, 7, 8, 9, 10, 11, 12, 13, 14, 15, 16, 17]) rfl n (fun i s => i ≤ n ∧ s.σ 6 = .v (vi i) ∧ ∃ (xs : List Int) (v : V), s.σ 5 = .v v ∧ Out h.length s.h v xs ∧ xs.length ≤ i ∧ DC h0 s.h (N + i * 2) ∧ KeepsBut h0.length h s.h ∧ h.length ≤ s.h.length) 0
    ⟨by omega, by simp, [], .nils, by simp, Out.nil (Nat.le_refl _), by simp, by simpa using d, KeepsBut.refl _ _, by simp⟩ fun i s ⟨gi, g6, xs, v, g5, ho, hx, d, kb, hl⟩ hM J hJ => ?_
  by_cases hi : i < n
  · have w1 : IntKind.i64.wrap ((i : Int) + 1) = (i + 1 : Nat) := by rw [IntWalk.i64_in] <;> omega
    obtain ⟨b, h1, e1, d1, k1, l1⟩ := d.one (by omega) 3 (by decide)
    have o1 := k1.out ho (by omega) (by omega)
    cases b
    · simp [g658_0, hM, g6, hi, e1, w1, -Int.natCast_add]
      exact hJ _ hi ⟨hi, by simp, xs, v, by simp [g5], o1, by omega, d1.mono (by omega), kb.trans k1, by show h.length ≤ h1.length; omega⟩
    · obtain ⟨v', h2, e2, o2, d2, k2, l2⟩ := Out.draw (k := 1) (bytes := 8) d1 (kb.trans k1) o1 (Nat.le_refl _) hlt (i : Int) (by omega) rfl (by decide) rfl
      simp [Flat.cells] at e2
      simp [g658_0, hM, g6, g5, hi, e1, fillL, rdS_last, e2, w1, -Int.natCast_add]
      exact hJ _ hi ⟨hi, by simp, _, v', by simp, o2, by simp; omega, d2.mono (by omega), k2, by show h.length ≤ h2.length; omega⟩
  · obtain ⟨b, h1, e1, d1, k1, l1⟩ := d.one (by omega) 40 (by decide)
    have o1 := k1.out ho (by omega) (by omega)
    cases b
    · simp [g658_0, hM, g6, g5, hi, e1]
      exact hR _ _ ⟨xs, o1, by omega, d1.mono (by omega), kb.trans k1, by omega⟩
    · obtain ⟨v', h2, e2, o2, d2, k2, l2⟩ := Out.draw (k := 1) (bytes := 8) d1 (kb.trans k1) o1 (Nat.le_refl _) hlt (n : Int) (by omega) rfl (by decide) rfl
      simp [Flat.cells] at e2
      simp [g658_0, hM, g6, g5, hi, e1, fillL, rdS_last, e2]
      exact hR _ _ ⟨_, o2, by simp; omega, d2.mono (by omega), k2, by omega⟩

theorem DC.cols {h0 h : Heap} {N : Nat} (d : DC h0 h N) (hN : N < 2 ^ 57) : ∃ v h', call p 670 [.ptr h0.length 0] h = some (v, h') ∧ ∃ (n : Nat), v = vi n ∧ n ≤ 7 ∧ DC h0 h' (N + 2) ∧ KeepsBut h0.length h h' ∧ h.length ≤ h'.length := by
  obtain ⟨x, h1, e1, hx, d1, k1, l1⟩ := d.amongL (by omega) [0, 1, 3, 4, 4, 5, 6, 7] 8 rfl [vi 0, vi 1, vi 3, vi 4, vi 4, vi 5, vi 6, vi 7] rfl (.k 8) (by decide) (by decide)
  refine go (fn := g670) rfl rfl fun R hR => ?_
  simp [g670, fillL, e1]
  have hx' : 0 ≤ x ∧ x ≤ 7 := by simp at hx; omega
  exact hR _ _ ⟨x.toNat, by congr 1; omega, by omega, d1, k1, l1⟩

theorem two_fresh {h h5 h4 : Heap} {c : Nat} {F1 F2 : List Nat} {n : Nat} (hc : c < n) (f1 : Fresh n h4 F1) (f2 : Fresh h4.length h5 F2) (k5 : KeepsBut c h4 h5) (hn : n ≤ h4.length) : Fresh n h5 (F1 ++ F2) := by
  have n1 : ∀ b ∈ F1, b ≠ c := fun b hb => by have := f1.ge b hb; omega
  have f1' := f1.keeps (k5.P.mono n1)
  exact ⟨List.nodup_append.2 ⟨f1.nodup, f2.nodup, fun a ha b hb e => by have := (f1.own a ha).lt; have := f2.ge b hb; omega⟩, fun b hb => by
    rcases List.mem_append.1 hb with hb | hb
    · exact f1.ge b hb
    · have := f2.ge b hb; omega, fun b hb => by
    rcases List.mem_append.1 hb with hb | hb
    · exact f1'.own b hb
    · exact f2.own b hb⟩

theorem DC.deps {h0 h : Heap} {N : Nat} (d : DC h0 h N) (hN : N < 2 ^ 56) (n : Nat) (hn : n ≤ 30) : ∃ v h', call p 671 [.ptr h0.length 0, vi n] h = some (v, h') ∧ ∃ (xs : List Dp) (F : List Nat), SdF h' v xs F ∧ (∀ b ∈ F, h.length ≤ b) ∧ DC h0 h' (N + 2000) ∧ KeepsBut h0.length h h' ∧ h.length ≤ h'.length := by
  have hlt := d.lt
  refine go (fn := g671) rfl rfl fun R hR => ?_
  obtain ⟨a, h1, e1, ha, d1, k1, l1⟩ := d.pick (by omega) 6 (by decide)
  obtain ⟨one, h2, e2, d2, k2, l2⟩ := d1.one (by omega) 20 (by decide)
  have loop : ∀ (k : Nat) (s0 : S) (K : Ex → S → Prop), k ≤ 9 → s0.σ 0 = .v (.ptr h0.length 0) → s0.σ 1 = .v (vi n) → s0.σ 5 = .v .nils → s0.σ 6 = .v (vi k) → DC h0 s0.h (N + 6) → KeepsBut h0.length h s0.h → h.length ≤ s0.h.length →
      (∀ s v (xs : List Dp) F, s.σ 5 = .v v → OdF h.length s.h v xs F → DC h0 s.h (N + 2000) → KeepsBut h0.length h s.h → h.length ≤ s.h.length → K (.exit 0) s) → Wc p (.loop g671_0) s0 K := by
    intro k s0 K hk g0 g1 g5 g6 dc kb hl hK
    refine Wc_dnM (M := [5, 6, 14, 15, 16, 17, 18, 19, 20, 21, 22, 23, 24, 25, 26, 27]) rfl (fun k s => k ≤ 9 ∧ s.σ 6 = .v (vi k) ∧ ∃ (xs : List Dp) (v : V) (G : List Nat), xs.length + k ≤ 9 ∧ s.σ 5 = .v v ∧ OdF h.length s.h v xs G ∧ DC h0 s.h (N + 6 + 140 * xs.length) ∧ KeepsBut h0.length h s.h ∧ h.length ≤ s.h.length) k
      ⟨hk, g6, [], .nils, [], by simpa using hk, g5, OdF.nil hl, by simpa using dc, kb, hl⟩ fun k s ⟨hk, g6, xs, v, G, hx, g5, ho, dc, kb, hl⟩ hM J hJ => ?_
    by_cases hk0 : 0 < k
    · have hk0' : (0 : Int) < k := by omega
      have w2 : IntKind.i64.wrap ((k : Int) - 1) = (k - 1 : Nat) := by rw [IntWalk.i64_in] <;> omega
      obtain ⟨x, h4, e4, az, o4, _, d4, k4, l4⟩ := dc.someCols (by omega) n hn
      obtain ⟨y, h5, e5, bs, o5, _, d5, k5, l5⟩ := d4.someCols (by omega) n hn
      obtain ⟨F1, s1, f1⟩ := o4.fr
      obtain ⟨F2, s2, f2⟩ := o5.fr
      have n1 : ∀ b ∈ F1, b ≠ h0.length := fun b hb => by have := f1.ge b hb; omega
      have s1' := s1.keeps (k5.P.mono n1)
      have f12 := two_fresh (h := h) (by omega) f1 f2 k5 l4
      have hr : Data.rep h5 (⟨az, bs⟩ : Dp) [x, y] (F1 ++ F2) := ⟨x, y, F1, F2, rfl, rfl, s1', s2⟩
      have kk := k4.trans k5
      obtain ⟨v', h6, e6, o6, d6, k6, l6⟩ := OdF.draw d5 (kb.trans kk) ho kk (by omega) (Nat.le_refl _) (by omega) f12 hr (by omega) (k := 2) rfl (bytes := 48) (by decide)
      have z1 := s1'.cells
      have z2 := s1'.cell
      have z3 := s2.cells
      have z4 := s2.cell
      simp [g671_0, hM, g0, g1, g6, g5, hk0, hk0', e4, e5, z1, z2, z3, z4, rdS_last, e6, fillL, w2, -Int.natCast_add]
      exact hJ (k - 1) _ (by omega) ⟨by omega, by simp, xs ++ [⟨az, bs⟩], v', G ++ (F1 ++ F2), by simp; omega, by simp, o6, d6.mono (by simp; omega), k6, by show h.length ≤ h6.length; omega⟩
    · have : k = 0 := by omega
      subst this
      simp [g671_0, hM, g6]
      exact hK _ v xs G (by simp [g5]) ho (dc.mono (by omega)) kb hl
  have fin : ∀ s v (xs : List Dp) F, OdF h.length s v xs F → DC h0 s (N + 2000) → KeepsBut h0.length h s → h.length ≤ s.length → R v s := fun s v xs F ho d2 k2 l2 => by
    obtain ⟨F', hs, fr⟩ := ho.fresh
    exact hR _ _ ⟨xs, F', hs, fr.ge, d2, k2, l2⟩
  cases one with
  | false =>
    simp [g671, e1, e2]
    refine loop a _ _ (by omega) (by simp) (by simp) (by simp) (by simp) (d2.mono (by omega)) (k1.trans k2) (by show h.length ≤ h2.length; omega) fun s v xs F g5 ho dd kk ll => ?_
    simp [g5]
    exact fin _ _ _ _ ho dd kk ll
  | true =>
    obtain ⟨b, h3, e3, hb, d3, k3, l3⟩ := d2.pick (by omega) 2 (by decide)
    have w1 : IntKind.i64.wrap (8 + (b : Int)) = (8 + b : Nat) := by rw [IntWalk.i64_in] <;> omega
    simp [g671, e1, e2, e3, w1, -Int.natCast_add]
    refine loop (8 + b) _ _ (by omega) (by simp) (by simp) (by simp) (by simp) (d3.mono (by omega)) ((k1.trans k2).trans k3) (by show h.length ≤ h3.length; omega) fun s v xs F g5 ho dd kk ll => ?_
    simp [g5]
    exact fin _ _ _ _ ho dd kk ll

end GL

namespace GL
open Go

/-! relations: columns and rows -/
structure Rl where
  c : List Int
  rows : List (List Int)
def RlV (h : Heap) (v : V) (r : Rl) : Prop := ∃ x y F1 F2, v = .agg [x, y] ∧ SdF h x r.c F1 ∧ SdF h y r.rows F2
theorem RlV.keep {h h' : Heap} {v : V} {r : Rl} (hr : RlV h v r) (k : Keeps h h') : RlV h' v r := by
  obtain ⟨x, y, F1, F2, rfl, h1, h2⟩ := hr
  exact ⟨x, y, F1, F2, rfl, h1.keep k, h2.keep k⟩

def ltL : List Int → List Int → Bool
  | [], _ => false
  | _ :: _, [] => false
  | x :: xs, y :: ys => if x = y then ltL xs ys else decide (x < y)

/-- a part of the columns, rising -/
def partB (c xs : List Int) : Bool := (xs.all fun x => decide (x ∈ c)) && decide (xs.Pairwise (· < ·))
end GL

namespace GL
open Go

def smallQ (n : Int) : Bool := decide (-1000 ≤ n ∧ n ≤ 1000)
def rowQ2 (n : Nat) (rows : List (List Int)) (j : Nat) : Bool := decide ((rows.getD j []).length = n) && (rows.getD j []).all smallQ && (decide (j = 0) || ltL (rows.getD (j - 1) []) (rows.getD j []))
def rowsP2 (n : Nat) (rows : List (List Int)) (i : Nat) : Bool := (List.range i).all (rowQ2 n rows)
def goodRl (r : Rl) : Bool := decide (r.c.length ≤ 6) && risB 0 20 r.c && decide (r.rows.length ≤ 60) && rowsP2 r.c.length r.rows r.rows.length
end GL

namespace GL
open Go

end GL

namespace GL
open Go

theorem isPart_eq {h : Heap} {v w : V} {xs c : List Int} (hs : Sl h v xs) (hc : Sl h w c) : call p 660 [v, w] h = some (.bool (partB c xs), h) := by
  refine go_eq (fn := g660) rfl rfl fun R hR => ?_
  simp [g660, hs.len]
  refine Wc_upM (M := [4, 5, 6, 9, 10, 11, 12, 13, 14, 15, 16, 17, 18, 19, 20, 21, 22, 23, 24, 25, 26, 27, 28, 29, 30, 31]) rfl xs.length (fun i s => i ≤ xs.length ∧ s.σ 9 = .v (vi i) ∧ s.h = h ∧ (∀ x ∈ xs.take i, x ∈ c) ∧ (xs.take i).Pairwise (· < ·)) 0 ⟨by omega, by simp, rfl, by simp, by simp⟩ fun i s ⟨gi, g9, gh, q1, q2⟩ hM J hJ => ?_
  by_cases hn : i < xs.length
  · have ht := List.take_succ_eq_append_getElem hn
    have bad : ¬ ((∀ x ∈ xs, x ∈ c) ∧ xs.Pairwise (· < ·)) → R (.bool false) h := fun hb => by
      have : partB c xs = false := by
        rw [Bool.eq_false_iff]; intro h; simp only [partB, Bool.and_eq_true, List.all_eq_true, decide_eq_true_eq] at h; exact hb h
      rw [this] at hR; exact hR
    have ix := hs.idx 1 .i64 i hn
    have ld := hs.loadI i hn
    have st := hs.step hn
    simp only [Nat.mul_one] at ix
    have ec := containsI_eq hc xs[i]
    by_cases h1 : xs[i] ∈ c
    · rw [decide_eq_true h1] at ec
      by_cases h0 : 0 < i
      · have w : IntKind.i64.wrap ((i : Int) - 1) = (i - 1 : Nat) := by have := hs.bd; rw [IntWalk.i64_in] <;> omega
        have hi1 : i - 1 < xs.length := by omega
        have ix2 := hs.idx 1 .i64 (i - 1) hi1
        have ld2 := hs.loadI (i - 1) hi1
        simp only [Nat.mul_one] at ix2
        by_cases h2 : xs[i - 1] < xs[i]
        · have h2' : ¬ xs[i] ≤ xs[i - 1] := by omega
          simp [g660_0, hM, g9, gh, hn, ix, ld, ec, h0, w, ix2, ld2, h2', st]
          refine hJ _ hn ⟨hn, by simp, rfl, (all_take_succ hn).2 ⟨q1, h1⟩, ?_⟩
          rw [ht]
          refine ris_snoc q2 fun hp => ?_
          simp at hp
          have e : (xs.take i).length - 1 = i - 1 := by simp; omega
          simp only [e, List.getElem_take]; exact h2
        · have h2' : xs[i] ≤ xs[i - 1] := by omega
          simp [g660_0, hM, g9, gh, hn, ix, ld, ec, h0, w, ix2, ld2, h2']
          exact bad fun ⟨_, b⟩ => h2 ((List.pairwise_iff_getElem.1 b) (i - 1) i hi1 hn (by omega))
      · simp [g660_0, hM, g9, gh, hn, ix, ld, ec, h0, st]
        refine hJ _ hn ⟨hn, by simp, rfl, (all_take_succ hn).2 ⟨q1, h1⟩, ?_⟩
        rw [ht]
        refine ris_snoc q2 fun hp => ?_
        simp at hp; omega
    · rw [decide_eq_false h1] at ec
      simp [g660_0, hM, g9, gh, hn, ix, ld, ec]
      exact bad fun ⟨a, _⟩ => h1 (a _ (List.getElem_mem hn))
  · rw [List.take_of_length_le (by omega)] at q1 q2
    simp [g660_0, hM, g9, gh, hn]
    have : partB c xs = true := by simp only [partB, Bool.and_eq_true, List.all_eq_true, decide_eq_true_eq]; exact ⟨q1, q2⟩
    rw [this] at hR; exact hR
end GL

namespace GL
open Go

def DpV (h : Heap) (v : V) (f : Dp) : Prop := ∃ x y F1 F2, v = .agg [x, y] ∧ SdF h x f.l F1 ∧ SdF h y f.r F2
theorem DpV.keep {h h' : Heap} {v : V} {f : Dp} (hr : DpV h v f) (k : Keeps h h') : DpV h' v f := by
  obtain ⟨x, y, F1, F2, rfl, h1, h2⟩ := hr
  exact ⟨x, y, F1, F2, rfl, h1.keep k, h2.keep k⟩
end GL

namespace GL
open Go

end GL

namespace GL
open Go

end GL

namespace GL
open Go

theorem Od.loadL {lo : Nat} {h : Heap} {v : V} {xs : List (List Int)} {F : List Nat} (o : Od lo h v xs F) {i : Nat} (hi : i < xs.length) :
    ∃ z Fz, idxV 1 v (.int .i64 i) = some (.ptr (bOf v) (oOf v + i)) ∧ rdH h (bOf v) (oOf v + i) 1 = some [z] ∧ SdF h z xs[i] Fz ∧ (∀ b ∈ Fz, ¬ vB v b) ∧ ∀ b ∈ Fz, b ∈ F := by
  obtain ⟨F', sF, hF⟩ := o.sd
  have ix := sF.idx 1 .i64 i hi
  simp only [Nat.mul_one] at ix
  obtain ⟨cs, G1, G2, G3, e, ⟨z, rfl, hz⟩, rfl⟩ := sF.load i hi
  have e' : rdH h (bOf v) (oOf v + i) 1 = some [z] := by
    rw [show Data.sz (List Int) = 1 from rfl, Nat.mul_one] at e; exact e
  have key : bOf v ∉ F ∧ ∀ b ∈ G2, b ∈ F := by
    rcases hF with hF | ⟨hF, _, hn, _⟩
    · exfalso
      obtain ⟨_, _, ⟨e1, e2, _⟩ | ⟨b2, cs2, e1, hb2, _, hr, hn⟩ | ⟨b2, e1, e2, _⟩⟩ := o
      · subst e2; simp at hi
      · rw [e1] at hF; apply hn; rw [← hF]; simp [bOf]
      · subst e2; simp at hi
    · injection hF with _ hF
      exact ⟨hn, fun b hb => by rw [← hF]; simp [hb]⟩
  refine ⟨z, G2, ix, e', hz, fun b hb ⟨b1, o1, c1, hv⟩ => ?_, key.2⟩
  have h2 := key.2 b hb
  have h1 := key.1
  rw [hv] at h1
  exact h1 h2

end GL

namespace GL
open Go

end GL

namespace GL
open Go

end GL

namespace GL
open Go

end GL

namespace GL
open Go

end GL

namespace GL
open Go

/-! plays: acts in order -/
def toA3 (a : Ac) : Act3 := (a.who, a.item, a.wr)
def wrQ (a : Ac) (x : Int) : Bool := a.wr && decide (a.item = x)
/-- the number of the last Write of an item, or -1 -/
def lastW (xs : List Ac) (x : Int) : Int := lastT (xs.map toA3) x
theorem wrQ_at {xs : List Ac} {q : Nat} (hq : q < xs.length) (x : Int) : isWr (actAt (xs.map toA3) q) x = wrQ xs[q] x := by
  simp [actAt, hq, isWr, wrQ, toA3]
/-- what the last Write is -/
theorem lastW_cases (xs : List Ac) (x : Int) : (lastW xs x = -1 ∧ ∀ q (hq : q < xs.length), wrQ xs[q] x = false) ∨ ∃ k, ∃ hk : k < xs.length, lastW xs x = k ∧ wrQ xs[k] x = true ∧ ∀ q (hq : q < xs.length), k < q → wrQ xs[q] x = false := by
  have key : ∀ n, n ≤ xs.length → (lastN (xs.map toA3) x n = -1 ∧ ∀ q (hq : q < xs.length), q < n → wrQ xs[q] x = false) ∨ ∃ k, ∃ hk : k < xs.length, k < n ∧ lastN (xs.map toA3) x n = k ∧ wrQ xs[k] x = true ∧ ∀ q (hq : q < xs.length), k < q → q < n → wrQ xs[q] x = false := by
    intro n
    induction n with
    | zero => exact fun _ => .inl ⟨rfl, fun q _ h => by omega⟩
    | succ n ih =>
      intro hn
      have hn' : n < xs.length := by omega
      have e := wrQ_at hn' x
      rw [lastN, actAt_getD, e]
      cases hw : wrQ xs[n] x with
      | true => exact .inr ⟨n, hn', by omega, by simp, hw, fun q hq h1 h2 => by omega⟩
      | false =>
        simp only [Bool.false_eq_true, if_false]
        rcases ih (by omega) with ⟨h1, h2⟩ | ⟨k, hk, h1, h2, h3, h4⟩
        · refine .inl ⟨h1, fun q hq hl => ?_⟩
          by_cases e : q = n
          · subst e; exact hw
          · exact h2 q hq (by omega)
        · refine .inr ⟨k, hk, by omega, h2, h3, fun q hq h5 h6 => ?_⟩
          by_cases e : q = n
          · subst e; exact hw
          · exact h4 q hq h5 (by omega)
  have hl : (xs.map toA3).length = xs.length := by simp
  rcases key xs.length (Nat.le_refl _) with ⟨h1, h2⟩ | ⟨k, hk, _, h2, h3, h4⟩
  · exact .inl ⟨by rw [lastW, lastT, hl]; exact h1, fun q hq => h2 q hq hq⟩
  · exact .inr ⟨k, hk, by rw [lastW, lastT, hl]; exact h2, h3, fun q hq h => h4 q hq h hq⟩
end GL

namespace GL
open Go

end GL

namespace GL
open Go

/-- all acts of one -/
def ofWho (xs : List Ac) (who : Int) : List Ac := xs.filter fun a => decide (a.who = who)
end GL

namespace GL
open Go

def zAc : Ac := ⟨0, 0, false⟩
end GL

namespace GL
open Go

end GL

namespace GL
open Go

end GL

namespace GL
open Go

theorem lastN_take (zs : List Act3) (x : Int) (m : Nat) : ∀ n, n ≤ m → lastN (zs.take m) x n = lastN zs x n
  | 0, _ => rfl
  | n + 1, h => by
    have e : (zs.take m).getD n (0, 0, false) = zs.getD n (0, 0, false) := by
      simp only [List.getD_eq_getElem?_getD, List.getElem?_take]
      rw [if_pos (by omega)]
    rw [lastN, lastN, e, lastN_take zs x m n (by omega)]
theorem lastW_take_succ {xs : List Ac} {i : Nat} (hi : i < xs.length) (x : Int) : lastW (xs.take (i + 1)) x = if wrQ xs[i] x = true then (i : Int) else lastW (xs.take i) x := by
  have l1 : (xs.take (i + 1)).length = i + 1 := by rw [List.length_take]; omega
  have l2 : (xs.take i).length = i := by rw [List.length_take]; omega
  have h1 : lastW (xs.take (i + 1)) x = lastN (xs.map toA3) x (i + 1) := by
    rw [lastW, lastT, List.length_map, l1, List.map_take, lastN_take _ _ _ _ (Nat.le_refl _)]
  have h2 : lastW (xs.take i) x = lastN (xs.map toA3) x i := by
    rw [lastW, lastT, List.length_map, l2, List.map_take, lastN_take _ _ _ _ (Nat.le_refl _)]
  rw [h1, h2, lastN, actAt_getD, wrQ_at hi]
def readAt (l : List Ac) (i : Nat) : Int := if (l.getD i zAc).wr = true then -2 else lastW (l.take i) (l.getD i zAc).item
end GL

namespace GL
open Go

end GL

namespace GL
open Go

structure Og where
  who : Int
  n : Int
deriving DecidableEq
instance : Flat Og := ⟨2, fun x => [vi x.who, vi x.n], fun _ => rfl, fun _ => rfl, by decide⟩
/-- which act of whom stands there -/
def orgAt (l : List Ac) (k : Int) : Og := if k < 0 then ⟨-1, -1⟩ else ⟨(l.getD k.toNat zAc).who, ((l.take k.toNat).filter fun a => decide (a = l.getD k.toNat zAc)).length⟩
end GL

namespace GL
open Go

theorem lastW_lt (l : List Ac) (x : Int) : lastW l x < l.length ∧ -1 ≤ lastW l x := by
  rcases lastW_cases l x with ⟨h, _⟩ | ⟨k, hk, h, _⟩ <;> omega
def isRd (a : Ac) (who : Int) : Bool := decide (a.who = who) && !a.wr
/-- what one's reads read, in order -/
def orgsL (l : List Ac) (who : Int) (n : Nat) : List Og := ((List.range n).filter fun i => isRd (l.getD i zAc) who).map fun i => orgAt l (readAt l i)
theorem orgsL_succ (l : List Ac) (who : Int) (n : Nat) : orgsL l who (n + 1) = orgsL l who n ++ (if isRd (l.getD n zAc) who = true then [orgAt l (readAt l n)] else []) := by
  rw [orgsL, List.range_succ, List.filter_append, List.map_append, orgsL]
  congr 1
  cases h : isRd (l.getD n zAc) who
  · simp only [List.filter_cons, h, Bool.false_eq_true, if_false, List.filter_nil, List.map_nil]
  · simp only [List.filter_cons, h, if_true, List.filter_nil, List.map_cons, List.map_nil]
end GL

namespace GL
open Go

end GL

namespace GL
open Go

end GL

namespace GL
open Go

end GL

namespace GL
open Go

end GL

namespace GL
open Go

end GL

namespace GL
open Go

end GL

namespace GL
open Go

end GL

namespace GL

/-! what a play does, act by act from the end -/
theorem orgAt_take {l : List Ac} {k : Int} {n : Nat} (h : k < n) : orgAt (l.take n) k = orgAt l k := by
  unfold orgAt
  split
  · rfl
  · have h1 : k.toNat < n := by omega
    have e1 : (l.take n).getD k.toNat zAc = l.getD k.toNat zAc := by
      simp only [List.getD_eq_getElem?_getD, List.getElem?_take, h1, if_true]
    have e2 : (l.take n).take k.toNat = l.take k.toNat := by rw [List.take_take, Nat.min_eq_left (by omega)]
    rw [e1, e2]
/-- from what an item was last written -/
def orgW (l : List Ac) (x : Int) : Og := orgAt l (lastW l x)
def cntA (l : List Ac) (a : Ac) : Nat := (l.filter fun b => decide (b = a)).length
theorem orgW_snoc (l : List Ac) (a : Ac) (x : Int) : orgW (l ++ [a]) x = if wrQ a x = true then ⟨a.who, cntA l a⟩ else orgW l x := by
  have e := lastW_take_succ (xs := l ++ [a]) (i := l.length) (by simp) x
  rw [List.take_of_length_le (by simp)] at e
  simp only [List.take_left', List.getElem_concat_length] at e
  rw [orgW, e]
  split
  · simp [orgAt, cntA]
  · have hl := (lastW_lt l x).1
    rw [orgW]
    conv => rhs; rw [show l = (l ++ [a]).take l.length by simp]
    rw [orgAt_take (by simpa using hl)]
    simp
theorem readAt_lt (l : List Ac) {i : Nat} (hi : i ≤ l.length) : readAt l i < (i : Nat) := by
  unfold readAt
  split
  · omega
  · have := (lastW_lt (l.take i) (l.getD i zAc).item).1
    rw [List.length_take, Nat.min_eq_left hi] at this
    exact this
theorem orgsL_pre (l : List Ac) (a : Ac) (w : Int) (n : Nat) (hn : n ≤ l.length) : orgsL (l ++ [a]) w n = orgsL l w n := by
  induction n with
  | zero => rfl
  | succ n ih =>
    have hn' : n < l.length := by omega
    have e1 : (l ++ [a]).getD n zAc = l.getD n zAc := by
      rw [getD_in (by simp; omega), getD_in hn', List.getElem_append_left hn']
    have e2 : readAt (l ++ [a]) n = readAt l n := by
      unfold readAt
      rw [e1, List.take_append_of_le_length (by omega)]
    have e3 : orgAt (l ++ [a]) (readAt l n) = orgAt l (readAt l n) := by
      have h := readAt_lt l (i := n) (by omega)
      conv => rhs; rw [show l = (l ++ [a]).take l.length by simp]
      rw [orgAt_take (by simp; omega)]
      simp
    rw [orgsL_succ, orgsL_succ, ih (by omega), e1, e2, e3]
theorem orgsL_snoc (l : List Ac) (a : Ac) (w : Int) : orgsL (l ++ [a]) w (l ++ [a]).length = orgsL l w l.length ++ (if isRd a w = true then [orgW l a.item] else []) := by
  rw [show (l ++ [a]).length = l.length + 1 by simp, orgsL_succ, orgsL_pre _ _ _ _ (Nat.le_refl _)]
  have e1 : (l ++ [a]).getD l.length zAc = a := by rw [getD_in (by simp)]; simp
  rw [e1]
  congr 1
  split
  · rename_i h
    have hr : a.wr = false := by simp [isRd] at h; exact h.2
    have e2 : readAt (l ++ [a]) l.length = lastW l a.item := by
      unfold readAt; rw [e1, hr]; simp
    have h := (lastW_lt l a.item).1
    rw [e2, orgW]
    congr 1
    conv => rhs; rw [show l = (l ++ [a]).take l.length by simp]
    rw [orgAt_take (by simpa using h)]
    simp
  · rfl
/-- plays that are az good az each other -/
structure Alike (a b : List Ac) : Prop where
  perm : a.Perm b
  of : ∀ w, ofWho a w = ofWho b w
  reads : ∀ w, orgsL a w a.length = orgsL b w b.length
  last : ∀ x, orgW a x = orgW b x
theorem Alike.refl (a : List Ac) : Alike a a := ⟨.refl _, fun _ => rfl, fun _ => rfl, fun _ => rfl⟩
theorem Alike.trans {a b c : List Ac} (h : Alike a b) (k : Alike b c) : Alike a c := ⟨h.perm.trans k.perm, fun w => (h.of w).trans (k.of w), fun w => (h.reads w).trans (k.reads w), fun x => (h.last x).trans (k.last x)⟩
theorem Alike.symm {a b : List Ac} (h : Alike a b) : Alike b a := ⟨h.perm.symm, fun w => (h.of w).symm, fun w => (h.reads w).symm, fun x => (h.last x).symm⟩
theorem cntA_perm {a b : List Ac} (h : a.Perm b) (x : Ac) : cntA a x = cntA b x := (h.filter _).length_eq
theorem Alike.snoc {a b : List Ac} (h : Alike a b) (x : Ac) : Alike (a ++ [x]) (b ++ [x]) :=
  ⟨h.perm.append_right _, fun w => by have e := h.of w; simp only [ofWho] at e ⊢; rw [List.filter_append, List.filter_append, e],
   fun w => by rw [orgsL_snoc, orgsL_snoc, h.reads, h.last], fun y => by rw [orgW_snoc, orgW_snoc, h.last, cntA_perm h.perm]⟩
theorem Alike.append {a b : List Ac} (h : Alike a b) (r : List Ac) : Alike (a ++ r) (b ++ r) := by
  induction r generalizing a b with
  | nil => simpa using h
  | cons x r ih => have := ih (h.snoc x); simpa using this
end GL

namespace GL

end GL

namespace GL

end GL

namespace GL
open Go

end GL

namespace GL
open Go

end GL

namespace GL
open Go

end GL

namespace GL
open Go

end GL

namespace GL
open Go

end GL

namespace GL
open Go

end GL

namespace GL
open Go

end GL

namespace GL
open Go

end GL

namespace GL
open Go

end GL

namespace GL
open Go

/-! a list of one's own that holds lists, cell by cell -/
structure Ls (h : Heap) (b : Nat) (vs : List V) (xs : List (List Int)) : Prop where
  blk : h[b]? = some ⟨.own, vs⟩
  len : vs.length = xs.length
  el : ∀ i (hi : i < xs.length), ∃ G, SdF h (vs.getD i .nils) xs[i] G ∧ b ∉ G
theorem reps_of : ∀ {h : Heap} {xs : List (List Int)} {vs : List V}, vs.length = xs.length → (∀ i (hi : i < xs.length), ∃ G, SdF h (vs.getD i .nils) xs[i] G) → ∃ F, Reps h xs vs F
  | h, [], vs, hl, _ => ⟨[], by simp at hl; exact ⟨hl, rfl⟩⟩
  | h, x :: xs, [], hl, _ => by simp at hl
  | h, x :: xs, v :: vs, hl, he => by
    obtain ⟨G, hG⟩ := he 0 (by simp)
    obtain ⟨F, hF⟩ := reps_of (h := h) (xs := xs) (vs := vs) (by simpa using hl) fun i hi => by
      obtain ⟨G, hG⟩ := he (i + 1) (by simpa using hi)
      exact ⟨G, by simpa using hG⟩
    exact ⟨G ++ F, [v], vs, G, F, rfl, rfl, ⟨v, rfl, by simpa using hG⟩, hF⟩
theorem sd_cells {h : Heap} {b m : Nat} {cells : List V} {ys : List (List Int)} (hb : h[b]? = some ⟨.own, cells⟩) (hm : m = ys.length) (hl : m ≤ cells.length) (hl2 : m ≤ 2 ^ 40) (he : ∀ i (hi : i < ys.length), ∃ G, SdF h (cells.getD i .nils) ys[i] G) : ∃ F, SdF h (.slice b 0 m (.o 1)) ys F := by
  subst hm
  have h1 : ∀ i (hi : i < ys.length), (cells.take ys.length).getD i .nils = cells.getD i .nils := fun i hi => by
    simp only [List.getD_eq_getElem?_getD, List.getElem?_take, hi, if_true]
  obtain ⟨F, hF⟩ := reps_of (h := h) (xs := ys) (vs := cells.take ys.length) (by rw [List.length_take]; omega) fun i hi => by
    rw [h1 i hi]; exact he i hi
  refine ⟨b :: F, by omega, .inr ⟨b, 0, .o 1, rfl, rfl, .inr ⟨_, cells.take ys.length, F, rfl, hb, by simp, ?_, hF⟩⟩⟩
  have hsz : Data.sz (List Int) = 1 := rfl
  simp only [cut, hsz, Nat.mul_one, Nat.zero_add, if_pos hl, List.drop_zero]
theorem Ls.sd {h : Heap} {b m : Nat} {vs : List V} {xs : List (List Int)} (L : Ls h b vs xs) (hm : m ≤ xs.length) (hl : xs.length ≤ 2 ^ 40) : ∃ F, SdF h (.slice b 0 m (.o 1)) (xs.take m) F := by
  refine sd_cells L.blk (by rw [List.length_take]; omega) (by rw [L.len]; exact hm) (by omega) fun i hi => ?_
  rw [List.length_take] at hi
  obtain ⟨G, hG, _⟩ := L.el i (by omega)
  exact ⟨G, by rw [List.getElem_take]; exact hG⟩
theorem Ls.rd {h : Heap} {b : Nat} {vs : List V} {xs : List (List Int)} (L : Ls h b vs xs) {i : Nat} (hi : i < xs.length) : rdH h b i 1 = some [vs.getD i .nils] := by
  have hv : i < vs.length := by rw [L.len]; exact hi
  rw [rdH_at L.blk (by simp), cut, if_pos (by show i + 1 ≤ vs.length; omega)]
  rw [List.drop_eq_getElem_cons hv, getD_in hv]; rfl
theorem Ls.get {h : Heap} {b : Nat} {vs : List V} {xs : List (List Int)} (L : Ls h b vs xs) {i : Nat} (hi : i < xs.length) : ∃ z G, rdH h b i 1 = some [z] ∧ SdF h z xs[i] G ∧ b ∉ G ∧ vs.getD i .nils = z := by
  obtain ⟨G, hG, hn⟩ := L.el i hi
  exact ⟨_, G, L.rd hi, hG, hn, rfl⟩
theorem Ls.at' {h h' : Heap} {b : Nat} {vs : List V} {xs : List (List Int)} (L : Ls h b vs xs) (hk : KeepsP (fun c => c ≠ b) h h') (hb : h'[b]? = some ⟨.own, vs⟩) : Ls h' b vs xs :=
  ⟨hb, L.len, fun i hi => by
    obtain ⟨G, hG, hn⟩ := L.el i hi
    exact ⟨G, hG.keeps (hk.mono fun c hc e => hn (e ▸ hc)), hn⟩⟩
theorem Ls.wr {h : Heap} {b : Nat} {vs ws : List V} {xs ys : List (List Int)} (L : Ls h b vs xs) (hl : ws.length = ys.length) (he : ∀ i (hi : i < ys.length), ∃ j, ∃ hj : j < xs.length, ws.getD i .nils = vs.getD j .nils ∧ ys[i] = xs[j]) : Ls (h.set b ⟨.own, ws⟩) b ws ys :=
  ⟨by simp [get_lt L.blk], hl, fun i hi => by
    obtain ⟨j, hj, e1, e2⟩ := he i hi
    obtain ⟨G, hG, hn⟩ := L.el j hj
    refine ⟨G, ?_, hn⟩
    rw [e1, e2]
    exact hG.keeps fun c blk hc hh _ => by rw [List.getElem?_set_ne (fun e => hn (by rw [e]; exact hc))]; exact hh⟩
theorem Ls.set {h : Heap} {b i j : Nat} {vs : List V} {xs : List (List Int)} (L : Ls h b vs xs) (hi : i < xs.length) (hj : j < xs.length) : wrH h b i [vs.getD j .nils] = some (h.set b ⟨.own, vs.set i (vs.getD j .nils)⟩) ∧ Ls (h.set b ⟨.own, vs.set i (vs.getD j .nils)⟩) b (vs.set i (vs.getD j .nils)) (xs.set i xs[j]) := by
  have hv : i < vs.length := by rw [L.len]; exact hi
  refine ⟨?_, L.wr (by simp [L.len]) fun q hq => ?_⟩
  · rw [wrH_at L.blk rfl, lay, if_pos (by show i + 1 ≤ vs.length; omega)]
    have : vs.take i ++ [vs.getD j .nils] ++ vs.drop (i + 1) = vs.set i (vs.getD j .nils) := by rw [List.set_eq_take_append_cons_drop, if_pos hv]; simp
    rw [show i + [vs.getD j .nils].length = i + 1 from rfl, this]; rfl
  · rw [List.length_set] at hq
    by_cases e : i = q
    · subst e
      exact ⟨j, hj, by rw [getD_in (by rw [List.length_set]; exact hv), List.getElem_set_self], by simp⟩
    · refine ⟨q, hq, ?_, by rw [List.getElem_set_ne e]⟩
      simp only [List.getD_eq_getElem?_getD, List.getElem?_set_ne e]
end GL

namespace GL
open Go

end GL

namespace GL
open Go

end GL

namespace GL
open Go

end GL

namespace GL
open Go

end GL

namespace GL
open Go

end GL

namespace GL
open Go

end GL

namespace GL
open Go

theorem drawClosure_ok {h : Heap} {v : V} {bs : List Byte} (hs : Sl h v bs) : ∃ r h', call p 641 [v] h = some (r, h') ∧ ∃ (k : Nat) (o x : V) (fs : List Dp) (xs : List Int) (F Fx : List Nat), r = .tup [vi k, o, x] ∧ k ≤ 7 ∧ SdF h' o fs F ∧ SdF h' x xs Fx ∧ Keeps h h' ∧ h.length ≤ h'.length := by
  have d0 := DC.start hs
  obtain ⟨_, h1, e1, k, rfl, hk, d1, k1, l1⟩ := d0.cols (by decide)
  obtain ⟨o, h2, e2, fs, F, s2, f2, d2, k2, l2⟩ := d1.deps (by decide) k (by omega)
  obtain ⟨x, h3, e3, az, o3, _, d3, k3, l3⟩ := d2.someCols (by decide) k (by omega)
  obtain ⟨Fa, sa, fa⟩ := o3.fr
  have lt1 := d1.lt
  have nF : ∀ b ∈ F, b ≠ h.length := fun b hb => by have := f2 b hb; omega
  have s4 := s2.keeps (k3.P.mono nF)
  simp at l1
  refine go (fn := g641) rfl rfl fun R hR => ?_
  simp [g641, hs.cells, hs.cell, fillL, e1, e2, e3]
  exact hR _ _ ⟨k, o, x, fs, az, F, Fa, rfl, hk, s4, sa, d3.keep, by omega⟩

end GL

namespace GL
open Go

end GL

namespace GL
open Go

/-- what an operation on relations hands on -/
def RelR (h : Heap) (o : V) (b : Bool) (q : Rl) : Prop := ∃ x y Fx Fy, o = .tup [.agg [x, y], .bool (b && goodRl q)] ∧ SdF h x (if (b && goodRl q) = true then q.c else []) Fx ∧ SdF h y (if (b && goodRl q) = true then q.rows else []) Fy
theorem RelR.bad {h : Heap} {q : Rl} : RelR h (.tup [.agg [.nils, .nils], .bool false]) false q := ⟨.nils, .nils, [], [], rfl, .nil, .nil⟩
end GL

namespace GL
open Go

end GL

namespace GL
open Go

theorem Ls.keep {h h' : Heap} {b : Nat} {vs : List V} {xs : List (List Int)} (L : Ls h b vs xs) (hk : Keeps h h') : Ls h' b vs xs := L.at' (hk.p _) (hk b _ L.blk (by simp))
end GL

namespace GL
open Go

end GL

namespace GL
open Go

/-- a list of lists that is made az long az it will be, and filled -/
def GsL (h : Heap) (lo : Nat) (w : V) (zs : List (List Int)) (n : Nat) : Prop :=
  (n = 0 ∧ zs = [] ∧ w = .nils) ∨ ∃ b vs F, w = .slice b 0 zs.length (.o 1) ∧ lo ≤ b ∧ h[b]? = some ⟨.own, vs ++ List.replicate (n - zs.length) V.nils⟩ ∧ zs.length ≤ n ∧ Reps h zs vs F ∧ b ∉ F
theorem Reps.lenL {h : Heap} {xs : List (List Int)} {cs : List V} {F : List Nat} (hr : Reps h xs cs F) : cs.length = xs.length := by
  have := hr.len; rwa [show Data.sz (List Int) = 1 from rfl, Nat.mul_one] at this
theorem GsL.sd {h : Heap} {lo : Nat} {w : V} {zs : List (List Int)} {n : Nat} (g : GsL h lo w zs n) (hn : zs.length = n) (hl : n ≤ 2 ^ 40) : ∃ F, SdF h w zs F := by
  rcases g with ⟨_, rfl, rfl⟩ | ⟨b, vs, F, rfl, hb, hc, _, hv, _⟩
  · exact ⟨[], SdF.nil⟩
  · rw [hn, Nat.sub_self, List.replicate_zero, List.append_nil] at hc
    subst hn
    have hvl := hv.lenL
    refine ⟨b :: F, by omega, .inr ⟨b, 0, .o 1, rfl, rfl, .inr ⟨_, vs, F, rfl, hc, by simp, ?_, hv⟩⟩⟩
    simp only [cut, show Data.sz (List Int) = 1 from rfl, Nat.mul_one, Nat.zero_add]
    rw [if_pos (by show zs.length ≤ vs.length; omega), List.drop_zero, List.take_of_length_le (by show vs.length ≤ _; omega)]
end GL

namespace GL
open Go

end GL

namespace GL
open Go

end GL

namespace GL
open Go

end GL

namespace GL
open Go

end GL

namespace GL
open Go

end GL

namespace GL
open Go

end GL

namespace GL
open Go

end GL

namespace GL
open Go

abbrev CC (x y : V) : Prop := x.cells = [x] ∧ x.cell = true ∧ y.cells = [y] ∧ y.cell = true
/-- a relation handed on, or none -/
def givR (b : Bool) (q : Rl) : Rl := if (b && goodRl q) = true then q else ⟨[], []⟩
theorem RelR.get {h : Heap} {o : V} {b : Bool} {q : Rl} (hR : RelR h o b q) : ∃ x y Fx Fy, o = .tup [.agg [x, y], .bool (b && goodRl q)] ∧ SdF h x (givR b q).c Fx ∧ SdF h y (givR b q).rows Fy ∧ CC x y := by
  obtain ⟨x, y, Fx, Fy, e, hx, hy⟩ := hR
  refine ⟨x, y, Fx, Fy, e, ?_, ?_, hx.cells, hx.cell, hy.cells, hy.cell⟩
  · unfold givR
    by_cases hb : (b && goodRl q) = true
    · rw [if_pos hb] at hx ⊢; exact hx
    · rw [if_neg hb] at hx ⊢; exact hx
  · unfold givR
    by_cases hb : (b && goodRl q) = true
    · rw [if_pos hb] at hy ⊢; exact hy
    · rw [if_neg hb] at hy ⊢; exact hy
theorem RelR.good {h : Heap} {o : V} {b : Bool} {q : Rl} (hR : RelR h o b q) (hb : b = true) (hg : goodRl q = true) : ∃ x y Fx Fy, o = .tup [.agg [x, y], .bool true] ∧ SdF h x q.c Fx ∧ SdF h y q.rows Fy ∧ CC x y := by
  obtain ⟨x, y, Fx, Fy, e, hx, hy, hc⟩ := hR.get
  rw [givR, hb, hg, Bool.and_true, if_pos rfl] at hx hy
  rw [hb, hg] at e
  exact ⟨x, y, Fx, Fy, e, hx, hy, hc⟩
end GL

namespace GL
open Go

end GL

namespace GL
open Go

end GL

namespace GL
open Go

end GL

namespace GL
open Go

end GL

namespace GL
open Go

theorem Rl.eq_iff {a b : Rl} : a = b ↔ a.c = b.c ∧ a.rows = b.rows := by
  cases a; cases b; simp
instance : DecidableEq Rl := fun _ _ => decidable_of_iff _ Rl.eq_iff.symm
end GL

namespace GL
open Go

end GL

namespace GL
open Go

end GL

namespace GL
open Go

/-! lists of relations -/
instance rlData : Data Rl where
  sz := 2
  pos := by decide
  rep := fun h c cs F => ∃ x y F1 F2, cs = [x, y] ∧ F = F1 ++ F2 ∧ SdF h x c.c F1 ∧ SdF h y c.rows F2
  len := by rintro h a cs F ⟨x, y, F1, F2, rfl, _⟩; rfl
  ok := by rintro h a cs F ⟨x, y, F1, F2, rfl, _, h1, h2⟩; simp [allCell, h1.cell, h2.cell]
  keeps := by
    rintro h h' a cs F ⟨x, y, F1, F2, rfl, rfl, h1, h2⟩ hk
    exact ⟨x, y, F1, F2, rfl, rfl, h1.keeps (hk.mono fun b hb => List.mem_append_left _ hb), h2.keeps (hk.mono fun b hb => List.mem_append_right _ hb)⟩
  lt := by
    rintro h a cs F b ⟨x, y, F1, F2, rfl, rfl, h1, h2⟩ hb
    rcases List.mem_append.1 hb with hb | hb
    · exact h1.lt hb
    · exact h2.lt hb
theorem Od.blk {α : Type} [Data α] {lo : Nat} {h : Heap} {v : V} {xs : List α} {F : List Nat} (o : Od lo h v xs F) : (∀ i, ¬ vB v i) ∨ ∃ q blk, h[q]? = some blk ∧ ∀ i, vB v i ↔ i = q := by
  obtain ⟨_, _, ⟨rfl, _, _⟩ | ⟨b, cs, rfl, hb, _⟩ | ⟨b, rfl, _, _, _, hb⟩⟩ := o
  · exact .inl fun i ⟨_, _, _, e⟩ => by cases e
  · exact .inr ⟨b, _, hb, fun i => ⟨fun ⟨_, _, _, e⟩ => by cases e; rfl, fun e => e ▸ ⟨_, _, _, rfl⟩⟩⟩
  · exact .inr ⟨b, h[b], List.getElem?_eq_getElem hb, fun i => ⟨fun ⟨_, _, _, e⟩ => by cases e; rfl, fun e => e ▸ ⟨_, _, _, rfl⟩⟩⟩
end GL

namespace GL
open Go

end GL

namespace GL
open Go

def ptR (h : Heap) (o : V) (q : Option Rl) : Prop := ∃ x y Fx Fy, o = .tup [.agg [x, y], .bool q.isSome] ∧ SdF h x (q.getD ⟨[], []⟩).c Fx ∧ SdF h y (q.getD ⟨[], []⟩).rows Fy ∧ CC x y
theorem ptR.bad {h : Heap} : ptR h (.tup [.agg [.nils, .nils], .bool false]) none := ⟨.nils, .nils, [], [], rfl, .nil, .nil, rfl, rfl, rfl, rfl⟩
end GL

namespace GL
open Go

end GL

namespace GL
open Go

def togI (xs ys : List Int) : List Int := srtI (xs ++ ys.filter fun n => !decide (n ∈ xs))
def comI (xs ys : List Int) : List Int := xs.filter fun n => decide (n ∈ ys)
theorem togI_mem {xs ys : List Int} {n : Int} : n ∈ togI xs ys ↔ n ∈ xs ∨ n ∈ ys := by
  rw [togI, (srtI_perm _).mem_iff, List.mem_append, List.mem_filter]
  constructor
  · rintro (h | ⟨h, _⟩)
    · exact .inl h
    · exact .inr h
  · rintro (h | h)
    · exact .inl h
    · by_cases hn : n ∈ xs
      · exact .inl hn
      · exact .inr ⟨h, by simp [hn]⟩
theorem togI_ris {xs ys : List Int} (h1 : xs.Pairwise (· < ·)) (h2 : ys.Pairwise (· < ·)) : (togI xs ys).Pairwise (· < ·) := by
  refine sorted_nodup (srtI_le _) ((srtI_perm _).nodup_iff.2 ?_)
  refine List.nodup_append.2 ⟨h1.imp fun h => Int.ne_of_lt h, (h2.imp fun h => Int.ne_of_lt h : ys.Nodup).filter _, fun x hx y hy e => ?_⟩
  subst e
  have := (List.mem_filter.1 hy).2
  simp [hx] at this
theorem togI_eq {xs ys zs : List Int} (h1 : xs.Pairwise (· < ·)) (h2 : ys.Pairwise (· < ·)) (h3 : zs.Pairwise (· < ·)) (h4 : ∀ x, x ∈ zs ↔ x ∈ xs ∨ x ∈ ys) : zs = togI xs ys :=
  rising_ext h3 (togI_ris h1 h2) fun x => by rw [h4, togI_mem]
theorem l6Either_ok {h : Heap} {v w : V} {xs ys : List Int} (hx : Sl h v xs) (hy : Sl h w ys) (h1 : xs.Pairwise (· < ·)) (h2 : ys.Pairwise (· < ·)) (hl : xs.length ≤ 2 ^ 10) (hl2 : ys.length ≤ 2 ^ 10) : ∃ r h', call p 668 [v, w] h = some (r, h') ∧ Sl h' r (togI xs ys) ∧ Keeps h h' ∧ h.length ≤ h'.length := by
  obtain ⟨er, v6, g1, e1, G6, s6, f6, k1, l1⟩ := appNew hx (by omega : xs.length ≤ 2 ^ 20) (k := 1) (bytes := 8) rfl (by decide)
  refine go (fn := g668) rfl rfl fun R hR => ?_
  simp [g668, upd, hx.len, er, e1, hy.len]
  refine Wc_upM (M := [5, 7, 13, 14, 15, 16, 17, 18, 19, 20]) rfl ys.length (fun i s => i ≤ ys.length ∧ s.σ 13 = .v (vi i) ∧ Keeps h s.h ∧ h.length ≤ s.h.length ∧ ∃ v5 zs G, s.σ 5 = .v v5 ∧ SdF s.h v5 zs G ∧ zs.Pairwise (· < ·) ∧ (∀ x, x ∈ zs ↔ x ∈ xs ∨ x ∈ ys.take i) ∧ zs.length ≤ xs.length + i) 0
    ⟨by omega, by simp, k1, l1, v6, xs, G6, by simp, s6, h1, by simp, by omega⟩ fun i s ⟨gi, g13, hk, hl0, v5, zs, G, g5, s5, hr, hm, hn⟩ hM J hJ => ?_
  by_cases hi : i < ys.length
  · have hy' := hy.keeps hk
    have ix := hy'.idx 1 .i64 i hi
    have ld := hy'.loadI i hi
    have st := hy'.step hi
    simp only [Nat.mul_one] at ix
    have hm1 : ∀ x, x ∈ ys.take (i + 1) ↔ x ∈ ys.take i ∨ x = ys[i] := fun x => by rw [List.take_succ_eq_append_getElem hi, List.mem_append, List.mem_singleton]
    generalize ys[i] = n at *
    obtain ⟨v6', h3, e3, ys', G3, s3, r3, m3, n3, g3, k3, l3⟩ := l1Put_ok s5 hr (by omega) n
    simp [g668_0, hM, g13, g5, hi, ix, ld, e3, st]
    exact hJ _ hi ⟨hi, by simp, hk.trans k3, by show h.length ≤ h3.length; omega, v6', ys', G3, by simp, s3, r3, fun x => by rw [m3, hm, hm1, or_assoc], by omega⟩
  · have : i = ys.length := by omega
    subst this
    rw [List.take_length] at hm
    have := togI_eq h1 h2 hr hm
    subst this
    simp [g668_0, hM, g13, g5]
    exact hR _ _ ⟨s5.sl, hk, hl0⟩
theorem l6Part_eq {h : Heap} {vf vx : V} {k : Nat} {fs : List Dp} {xs : List Int} {F : List Nat} (hf : SdF h vf fs F) (hx : Sl h vx xs) (hk : k ≤ 2 ^ 20) : call p 669 [vi k, vf, vx] h = some (.bool (okDps k fs && risB 0 ((k : Int) - 1) xs), h) := by
  have e1 := GoodDepsS_eq hf (k : Int)
  have w1 : IntKind.i64.wrap ((k : Int) - 1) = (k : Int) - 1 := by rw [IntWalk.i64_in] <;> omega
  have e2 := l1Rising_eq hx 0 ((k : Int) - 1)
  refine go_eq (fn := g669) rfl rfl fun R hR => ?_
  cases hg : okDps k fs with
  | false => rw [hg] at e1 hR; simp [g669, e1]; exact hR
  | true =>
    rw [hg] at e1 hR
    rw [Bool.true_and] at hR
    generalize risB 0 ((k : Int) - 1) xs = b at *
    simp [g669, e1, w1, e2]; exact hR
end GL

namespace GL
open Go

end GL

namespace GL
open Go

end GL

namespace GL
open Go

end GL

namespace GL
open Go

end GL

namespace GL
open Go

end GL

namespace GL
open Go

end GL

namespace GL
open Go

/-! all parts of a list, in the order of the masks -/
def pickA (part : List Int) (i m : Nat) : List Int := ((List.range i).filter fun j => m.testBit j).map fun j => part.getD j 0
theorem pickA_succ (part : List Int) (i m : Nat) : pickA part (i + 1) m = pickA part i m ++ (if m.testBit i = true then [part.getD i 0] else []) := by
  rw [pickA, List.range_succ, List.filter_append, List.map_append, pickA]
  congr 1
  cases h : m.testBit i <;> simp [List.filter_cons, h]
theorem pickA_len (part : List Int) (i m : Nat) : (pickA part i m).length ≤ i := by
  rw [pickA, List.length_map]
  exact Nat.le_trans (List.length_filter_le ..) (by simp)
def subL (part : List Int) : List (List Int) := (List.range (2 ^ part.length)).map (pickA part part.length)

theorem listsP_ok {h : Heap} {v : V} {part : List Int} (hs : Sl h v part) (hk : part.length ≤ 10) : ∃ r h', call p 644 [v] h = some (r, h') ∧ ∃ F, SdF h' r (subL part) F ∧ Fresh h.length h' F ∧ Keeps h h' ∧ h.length ≤ h'.length := by
  obtain ⟨k, hkk⟩ : ∃ k, k = part.length := ⟨_, rfl⟩
  have hk2 : 2 ^ k ≤ 2 ^ 10 := Nat.pow_le_pow_right (by decide) (by omega)
  have el := shl_v (k' := .i64) k (by omega)
  refine go (fn := g644) rfl rfl fun R hR => ?_
  have hlen := hs.len
  unfold subL at hR
  rw [← hkk] at hlen hR
  generalize (2 : Nat) ^ k = N at *
  simp [g644, -binV_int, bv_lss, bv_add, hlen, el]
  refine Wc_upM (M := [3, 4, 5, 6, 7, 12, 13, 14, 15, 16, 17, 18, 19, 20, 21, 22, 23, 24, 25, 26, 27, 28, 29, 30, 31, 32, 33, 34, 35, 36, 37]) rfl N (fun m s => m ≤ N ∧ s.σ 12 = .v (vi m) ∧ ∃ v3 G, s.σ 3 = .v v3 ∧ OdF h.length s.h v3 ((List.range m).map (pickA part k)) G ∧ Keeps h s.h ∧ h.length ≤ s.h.length) 0
    ⟨by omega, by simp, .slice h.length 0 0 (.k 0), [], by simp, by simpa using OdF.empty (Nat.le_refl _) (by simp), Keeps.append _ _, by simp⟩ fun m s ⟨gm, g12, v3, G, g3, ho, hk0, hl0⟩ hM J hJ => ?_
  have w1 : IntKind.i64.wrap ((m : Int) + 1) = (m + 1 : Nat) := by rw [IntWalk.i64_in] <;> omega
  by_cases hmN : m < N
  · simp [g644_1, -binV_int, bv_lss, bv_add, hM, g12, hmN, hlen]
    refine Wc_upM (M := [5, 6, 7, 18, 19, 20, 21, 22, 23, 24, 25, 26, 27, 28, 29, 30, 31, 32]) rfl k (fun i s1 => i ≤ k ∧ s1.σ 18 = .v (vi i) ∧ ∃ v5, s1.σ 5 = .v v5 ∧ Out s.h.length s1.h v5 (pickA part i m) ∧ Keeps s.h s1.h ∧ s.h.length ≤ s1.h.length) 0
      ⟨by omega, by simp, .slice s.h.length 0 0 (.k 0), by simp, by simpa [pickA] using Out.empty (Nat.le_refl _) (by simp), Keeps.append _ _, by simp⟩ fun i s1 ⟨gi, g18, v5, g5, o5, k5, l5⟩ hM1 J1 hJ1 => ?_
    by_cases hi : i < k
    · have hs1 := (hs.keeps hk0).keeps k5
      have hiu : i < part.length := by omega
      have ix := hs1.idx 1 .i64 i hiu
      have ld := hs1.loadI i hiu
      simp only [Nat.mul_one] at ix
      have hgd : part.getD i 0 = part[i] := by simp [hiu]
      have hps := pickA_succ part i m
      rw [hgd] at hps
      have w2 : IntKind.i64.wrap ((i : Int) + 1) = (i + 1 : Nat) := by rw [IntWalk.i64_in] <;> omega
      have e1 := shr_v (k' := .i64) m i (by omega)
      have e2 := and_v (m / 2 ^ i) (by have := Nat.div_le_self m (2 ^ i); omega)
      have e3 := tb_v m i
      generalize m / 2 ^ i = q at *
      have hbl := pickA_len part i m
      generalize part[i] = pi at *
      cases hb : m.testBit i with
      | true =>
        rw [hb] at e3
        rw [hb, if_pos rfl] at hps
        obtain ⟨v', h2, e5, o2, k2, l2⟩ := o5.one pi (by omega)
        have kk := o5.far k5 k2 (Nat.le_refl _)
        simp [g644_0, -binV_int, bv_lss, bv_eql, bv_add, hM1, hM, g12, g18, g5, hi, ix, ld, e1, e2, e3, w2, fillL, rdS_last, e5, -Int.natCast_emod, -Int.natCast_add]
        refine hJ1 _ hi ⟨hi, by simp, v', by simp, ?_, kk, by show s.h.length ≤ h2.length; omega⟩
        rw [hps]; exact o2
      | false =>
        rw [hb] at e3
        rw [hb] at hps
        simp at hps
        simp [g644_0, -binV_int, bv_lss, bv_eql, bv_add, hM1, hM, g12, g18, g5, hi, ix, ld, e1, e2, e3, w2, -Int.natCast_emod, -Int.natCast_add]
        refine hJ1 _ hi ⟨hi, by simp, v5, by simp [g5], ?_, k5, l5⟩
        rw [hps]; exact o5
    · have : i = k := by omega
      subst this
      obtain ⟨F5, s5, f5⟩ := o5.fr
      obtain ⟨v', h2, e6, o6, kf, l6⟩ := ho.one k5 l5 f5 (x := pickA part i m) (cs := [v5]) ⟨v5, rfl, s5⟩ (by simp; omega) (k := 1) (bytes := 24) rfl (by decide)
      simp [g644_0, -binV_int, bv_lss, bv_eql, bv_add, hM1, hM, g3, g12, g18, g5, s5.cells, s5.cell, fillL, rdS_last, e6, w1, -Int.natCast_add]
      refine hJ _ hmN ⟨hmN, by simp, v', G ++ F5, by simp, ?_, kf h hk0 (Nat.le_refl _), by show h.length ≤ h2.length; omega⟩
      have : (List.range (m + 1)).map (pickA part i) = (List.range m).map (pickA part i) ++ [pickA part i m] := by rw [List.range_succ, List.map_append]; rfl
      rw [this]; exact o6
  · have : m = N := by omega
    subst this
    simp [g644_1, -binV_int, bv_lss, hM, g12, g3]
    obtain ⟨F, sF, fF⟩ := ho.fresh
    exact hR _ _ ⟨F, sF, fF, hk0, hl0⟩

/-! the same by numbers whose bits are some of the part's -/
def partN (part : List Int) : Nat := part.foldl (fun a p => a ||| 2 ^ p.toNat) 0
theorem partN_snoc (ps : List Int) (p : Int) : partN (ps ++ [p]) = partN ps ||| 2 ^ p.toNat := by simp [partN]
theorem partN_lt {k : Nat} : ∀ {ps : List Int}, (∀ x ∈ ps, x.toNat < k) → partN ps < 2 ^ k := by
  intro ps h
  have : ∀ (ps : List Int) (a : Nat), a < 2 ^ k → (∀ x ∈ ps, x.toNat < k) → ps.foldl (fun a p => a ||| 2 ^ p.toNat) a < 2 ^ k := by
    intro ps
    induction ps with
    | nil => exact fun a ha _ => ha
    | cons x ps ih =>
      intro a ha hx
      exact ih _ (Nat.or_lt_two_pow ha (Nat.pow_lt_pow_right (by decide) (hx x (by simp)))) fun y hy => hx y (by simp [hy])
  exact this ps 0 (Nat.two_pow_pos k) h
theorem two_add_or {p n : Nat} (hn : n < 2 ^ p) : 2 ^ p + n = 2 ^ p ||| n := by
  have := Nat.two_pow_add_eq_or_of_lt hn 1
  rwa [Nat.mul_one] at this
def mskL (w : Nat) : List Nat := (List.range (w + 1)).filter fun n => decide (n &&& w = n)
theorem filter_ext {α : Type} {p q : α → Bool} {l : List α} (h : ∀ x ∈ l, p x = q x) : l.filter p = l.filter q := List.filter_congr h
theorem and_two {p w n : Nat} (hw : w < 2 ^ p) (hn : n < 2 ^ p) : n &&& (w ||| 2 ^ p) = n &&& w := by
  apply Nat.eq_of_testBit_eq
  intro i
  simp only [Nat.testBit_and, Nat.testBit_or, Nat.testBit_two_pow]
  by_cases hi : p = i
  · subst hi
    rw [Nat.testBit_lt_two_pow hn]; simp
  · simp [hi]
theorem and_top {p w n : Nat} (hw : w < 2 ^ p) (hn : n < 2 ^ p) : (2 ^ p + n) &&& (w ||| 2 ^ p) = 2 ^ p + (n &&& w) := by
  rw [two_add_or hn, two_add_or (Nat.and_lt_two_pow _ hw)]
  apply Nat.eq_of_testBit_eq
  intro i
  simp only [Nat.testBit_and, Nat.testBit_or, Nat.testBit_two_pow]
  by_cases hi : p = i
  · subst hi
    simp
  · simp [hi]
theorem mskL_snoc {p w : Nat} (hw : w < 2 ^ p) : mskL (w ||| 2 ^ p) = mskL w ++ (mskL w).map (2 ^ p + ·) := by
  have hor : w ||| 2 ^ p = 2 ^ p + w := by rw [Nat.or_comm]; exact (two_add_or hw).symm
  have h1 : List.range (2 ^ p + w + 1) = List.range (2 ^ p) ++ (List.range (w + 1)).map (2 ^ p + ·) := by
    rw [Nat.add_assoc, List.range_add]
  have h2 : List.range (2 ^ p) = List.range (w + 1) ++ (List.range (2 ^ p - (w + 1))).map ((w + 1) + ·) := by
    rw [← List.range_add]; congr 1; omega
  rw [mskL, show (List.range ((w ||| 2 ^ p) + 1)) = List.range (2 ^ p + w + 1) by rw [hor], h1, List.filter_append]
  congr 1
  · have e1 : (List.range (2 ^ p)).filter (fun n => decide (n &&& (w ||| 2 ^ p) = n)) = (List.range (2 ^ p)).filter fun n => decide (n &&& w = n) := filter_ext fun n hn => by
      rw [and_two hw (by simpa using hn)]
    rw [e1, h2, List.filter_append]
    have e2 : ((List.range (2 ^ p - (w + 1))).map ((w + 1) + ·)).filter (fun n => decide (n &&& w = n)) = [] := List.filter_eq_nil_iff.2 fun n hn => by
      obtain ⟨m, _, rfl⟩ := List.mem_map.1 hn
      have : (w + 1 + m) &&& w ≤ w := Nat.and_le_right
      simp only [decide_eq_true_eq]
      omega
    rw [e2, List.append_nil]; rfl
  · rw [List.filter_map, mskL]
    congr 1
    exact filter_ext fun n hn => by
      have hn : n < 2 ^ p := by simp at hn; omega
      simp only [Function.comp]
      rw [and_top hw hn]
      congr 1
      simp
theorem bits_low {k p n : Nat} (hn : n < 2 ^ p) (hp : p < k) : bitsOf k (2 ^ p + n) = bitsOf k n ++ [(p : Int)] := by
  refine rising_ext (bits_ris _ _) ?_ fun x => ?_
  · rw [List.pairwise_append]
    refine ⟨bits_ris _ _, by simp, fun a ha b hb => ?_⟩
    rw [List.mem_singleton] at hb
    subst hb
    obtain ⟨h1, h2⟩ := mem_bits.1 ha
    apply Classical.byContradiction; intro hge
    rw [Nat.testBit_lt_two_pow (Nat.lt_of_lt_of_le hn (Nat.pow_le_pow_right (by decide) (by omega)))] at h2; cases h2
  · rw [List.mem_append, List.mem_singleton, mem_bits, mem_bits, two_add_or hn, Nat.testBit_or, Nat.testBit_two_pow]
    constructor
    · rintro ⟨h1, h2⟩
      by_cases e : x = p
      · exact .inr e
      · have : ¬ p = x.toNat := by omega
        simp [this] at h2
        exact .inl ⟨h1, h2⟩
    · rintro (⟨h1, h2⟩ | e)
      · exact ⟨h1, by rw [h2]; simp⟩
      · subst e
        exact ⟨by omega, by simp⟩
theorem pick_snoc {ps : List Int} {p : Int} {m : Nat} (hm : m < 2 ^ ps.length) : pickA (ps ++ [p]) (ps ++ [p]).length m = pickA ps ps.length m ∧ pickA (ps ++ [p]) (ps ++ [p]).length (2 ^ ps.length + m) = pickA ps ps.length m ++ [p] := by
  have hl : (ps ++ [p]).length = ps.length + 1 := by simp
  have hg : (ps ++ [p]).getD ps.length 0 = p := by simp
  have key : ∀ m' : Nat, (∀ i, i < ps.length → m'.testBit i = m.testBit i) → pickA (ps ++ [p]) ps.length m' = pickA ps ps.length m := fun m' hb => by
    unfold pickA
    have e1 : (List.range ps.length).filter (fun j => m'.testBit j) = (List.range ps.length).filter fun j => m.testBit j := filter_ext fun j hj => hb j (by simpa using hj)
    rw [e1]
    exact List.map_congr_left fun j hj => by
      have : j < ps.length := by simpa using (List.mem_filter.1 hj).1
      simp [List.getD_eq_getElem?_getD, List.getElem?_append_left this]
  constructor
  · rw [hl, pickA_succ, hg, key m fun _ _ => rfl, Nat.testBit_lt_two_pow hm]; simp
  · rw [hl, pickA_succ, hg, key _ fun i hi => ?_]
    · rw [two_add_or hm]; simp
    · rw [two_add_or hm, Nat.testBit_or, Nat.testBit_two_pow]
      have : ¬ ps.length = i := by omega
      simp [this]
theorem subL_snoc (ps : List Int) (p : Int) : subL (ps ++ [p]) = subL ps ++ (subL ps).map (· ++ [p]) := by
  have hl : (ps ++ [p]).length = ps.length + 1 := by simp
  unfold subL
  rw [show 2 ^ (ps ++ [p]).length = 2 ^ ps.length + 2 ^ ps.length by rw [hl, Nat.pow_succ]; omega, List.range_add, List.map_append, List.map_map, List.map_map]
  congr 1
  · exact List.map_congr_left fun m hm => (pick_snoc (by simpa using hm)).1
  · exact List.map_congr_left fun m hm => (pick_snoc (by simpa using hm)).2
theorem sub_eq {k : Nat} : ∀ (n : Nat) (part : List Int), part.length = n → part.Pairwise (· < ·) → InK k part → (mskL (partN part)).map (bitsOf k) = subL part
  | 0, part, hn, _, _ => by
    have : part = [] := List.length_eq_zero_iff.1 hn
    subst this
    have h0 : bitsOf k 0 = [] := List.filter_eq_nil_iff.2 fun x _ => by simp
    simp [mskL, partN, subL, pickA, h0]
  | n + 1, part, hn, hr, hin => by
    obtain ⟨ps, p, rfl⟩ : ∃ ps p, part = ps ++ [p] := ⟨part.dropLast, part.getLast (by intro e; rw [e] at hn; simp at hn), (List.dropLast_concat_getLast _).symm⟩
    have hpn : ps.length = n := by simpa using hn
    rw [List.pairwise_append] at hr
    have hp := hin p (by simp)
    have hlt : ∀ x ∈ ps, x < p := fun x hx => hr.2.2 x hx p (by simp)
    have hips : InK k ps := fun x hx => hin x (by simp [hx])
    obtain ⟨q, rfl⟩ := Int.eq_ofNat_of_zero_le hp.1
    have hw : partN ps < 2 ^ q := partN_lt fun x hx => by have := hlt x hx; have := hips x hx; omega
    have ih := sub_eq (k := k) n ps hpn hr.1 hips
    rw [partN_snoc, subL_snoc, ← ih]
    rw [show ((q : Int)).toNat = q from rfl, mskL_snoc hw, List.map_append, List.map_map, List.map_map]
    congr 1
    exact List.map_congr_left fun m hm => by
      have h1 : m ≤ partN ps := by
        have := (List.mem_filter.1 hm).1
        simp at this; omega
      exact bits_low (by omega) (by omega)
end GL

namespace GL
open Go

theorem or_v (a b : Nat) (ha : a < 2 ^ 30) (hb : b < 2 ^ 30) : binV .or (vi a) (vi b) = some (vi (a ||| b : Nat)) := by
  have e : (BitVec.ofInt 64 (a : Int) ||| BitVec.ofInt 64 (b : Int)).toNat = a ||| b := by
    rw [BitVec.toNat_or, BitVec.ofInt_natCast, BitVec.ofInt_natCast, BitVec.toNat_ofNat, BitVec.toNat_ofNat, Nat.mod_eq_of_lt (by omega), Nat.mod_eq_of_lt (by omega)]
  have hlt := Nat.or_lt_two_pow ha hb
  have hw : IntKind.i64.wrap ((a ||| b : Nat) : Int) = (a ||| b : Nat) := by rw [IntWalk.i64_in]; omega
  have : binV .or (vi a) (vi b) = some (.int .i64 (IntKind.i64.wrap ((BitVec.ofInt 64 (a : Int) ||| BitVec.ofInt 64 (b : Int)).toNat : Nat))) := rfl
  rw [this, e, hw]
theorem andG_v (a b : Nat) (ha : a < 2 ^ 30) (hb : b < 2 ^ 30) : binV .and (vi a) (vi b) = some (vi (a &&& b : Nat)) := by
  have e : (BitVec.ofInt 64 (a : Int) &&& BitVec.ofInt 64 (b : Int)).toNat = a &&& b := by
    rw [BitVec.toNat_and, BitVec.ofInt_natCast, BitVec.ofInt_natCast, BitVec.toNat_ofNat, BitVec.toNat_ofNat, Nat.mod_eq_of_lt (by omega), Nat.mod_eq_of_lt (by omega)]
  have hlt : a &&& b < 2 ^ 30 := Nat.and_lt_two_pow _ hb
  have hw : IntKind.i64.wrap ((a &&& b : Nat) : Int) = (a &&& b : Nat) := by rw [IntWalk.i64_in]; omega
  have : binV .and (vi a) (vi b) = some (.int .i64 (IntKind.i64.wrap ((BitVec.ofInt 64 (a : Int) &&& BitVec.ofInt 64 (b : Int)).toNat : Nat))) := rfl
  rw [this, e, hw]
theorem bv_leq (k : IntKind) (a b : Int) : binV .leq (.int k a) (.int k b) = some (.bool (decide (a ≤ b))) := by simp [binV, binI]
theorem bv_neq (k : IntKind) (a b : Int) : binV .neq (.int k a) (.int k b) = some (.bool (decide (a ≠ b))) := by simp [binV, binI]

/-! what is told of a part by some of it -/
noncomputable def tolL (k : Nat) (fs : List Dp) (part s : List Int) : List Int := part.filter fun n => decide (n ∈ clos k fs s)
noncomputable def badC (k : Nat) (fs : List Dp) (part s : List Int) : Bool := decide (s.length < (tolL k fs part s).length) && decide ((tolL k fs part s).length < part.length)
noncomputable def badF (k : Nat) (fs : List Dp) (part : List Int) : Option (List Int) := (subL part).find? (badC k fs part)
def outI (xs ys : List Int) : List Int := xs.filter fun n => !decide (n ∈ ys)
noncomputable def frmB (k : Nat) (fs : List Dp) (part : List Int) : List Int := (badF k fs part).getD []
noncomputable def tosB (k : Nat) (fs : List Dp) (part : List Int) : List Int := match badF k fs part with
  | some s => outI (tolL k fs part s) s
  | none => []
theorem sub_part {part s : List Int} (h : s ∈ subL part) : s.Sublist part := by
  obtain ⟨m, _, rfl⟩ := List.mem_map.1 h
  have e : (List.range part.length).map (fun j => part.getD j 0) = part := by
    apply List.ext_getElem
    · simp
    · intro i h1 h2; simp [h2]
  have := (List.filter_sublist (p := fun j => m.testBit j) (l := List.range part.length)).map fun j => part.getD j 0
  rw [e] at this
  exact this
theorem sub_facts {k : Nat} {part s : List Int} (h : s ∈ subL part) (hr : part.Pairwise (· < ·)) (hin : InK k part) : s.Pairwise (· < ·) ∧ InK k s := ⟨hr.sublist (sub_part h), fun x hx => hin x ((sub_part h).subset hx)⟩
theorem find_first {α : Type} {p : α → Bool} : ∀ {l : List α} {i : Nat} (hi : i < l.length), (∀ x ∈ l.take i, p x = false) → p l[i] = true → l.find? p = some l[i]
  | x :: l, 0, _, _, h => by
    rw [List.getElem_cons_zero] at h ⊢
    exact List.find?_cons_of_pos h
  | x :: l, i + 1, hi, h1, h2 => by
    rw [List.getElem_cons_succ] at h2 ⊢
    rw [List.find?_cons_of_neg (by simp [h1 x (by simp)])]
    exact find_first (by simpa using hi) (fun y hy => h1 y (by simp [hy])) h2

theorem badIn_ok {h : Heap} {vf vx : V} {k : Nat} {fs : List Dp} {part : List Int} {F Fx : List Nat} (hf : SdF h vf fs F) (hx : SdF h vx part Fx) (hd : DepsIn k fs) (hr : part.Pairwise (· < ·)) (hin : InK k part) (hk : k ≤ 10) :
    ∃ r h', call p 665 [vf, vx] h = some (r, h') ∧ ∃ x y F1 F2, r = .tup [.agg [x, y], .bool (badF k fs part).isSome] ∧ SdF h' x (frmB k fs part) F1 ∧ SdF h' y (tosB k fs part) F2 ∧ Keeps h h' ∧ h.length ≤ h'.length := by
  have hpl : part.length ≤ k := rising_len hr hin
  obtain ⟨t10, h1, e1, G1, s1, f1, k1, l1⟩ := listsP_ok hx.sl (by omega)
  refine go (fn := g665) rfl rfl fun R hR => ?_
  simp [g665, upd, e1, s1.len]
  refine Wc_upM (M := [5, 7, 8, 12, 13, 14, 15, 16, 17, 18, 19, 20, 21, 22, 23, 24, 25, 26, 27, 28, 29, 30, 31, 32, 33, 34, 35, 36, 37, 38]) rfl (subL part).length (fun i s => i ≤ (subL part).length ∧ s.σ 12 = .v (vi i) ∧ Keeps h1 s.h ∧ h1.length ≤ s.h.length ∧ s.L 4 = (1, [.nils, .nils]) ∧ ∀ x ∈ (subL part).take i, badC k fs part x = false) 0
    ⟨by omega, by simp, Keeps.refl _, Nat.le_refl _, by simp [upd], by simp⟩ fun i s ⟨gi, g12, hk0, hl0, gL, hall⟩ hM J hJ => ?_
  by_cases hi : i < (subL part).length
  · obtain ⟨z, Fz, ez, hz, _⟩ := (s1.keep hk0).loadL i hi
    have ix := (s1.keep hk0).idx 1 .i64 i hi
    simp only [Nat.mul_one] at ix
    have st := s1.step hi
    obtain ⟨q1, q2⟩ := sub_facts (List.getElem_mem hi) hr hin
    have ksh := k1.trans hk0
    obtain ⟨t19, h2, e2, G2, s2, k2, l2⟩ := closure_ok (hf.keep ksh) hz.sl hd q1 q2 (by omega)
    obtain ⟨t20, h3, e3, G3, s3, f3, k3, l3⟩ := both_ok (hx.keep (ksh.trans k2)).sl s2.sl (by omega)
    have s3' : SdF h3 t20 (tolL k fs part (subL part)[i]) G3 := s3
    have hz3 := hz.keep (k2.trans k3)
    have hfst := fun hb => find_first (p := badC k fs part) hi hall hb
    have hats := fun hb => (all_take_succ (P := fun x => badC k fs part x = false) hi).2 ⟨hall, hb⟩
    have n3 := s3'.len
    have nz := hz3.len
    have nx := (hx.keep ((ksh.trans k2).trans k3)).len
    have htl : (tolL k fs part (subL part)[i]).length ≤ part.length := List.length_filter_le ..
    generalize (subL part)[i] = w at *
    by_cases c1 : w.length < (tolL k fs part w).length
    · by_cases c2 : (tolL k fs part w).length < part.length
      · have hb : badC k fs part w = true := by simp [badC, c1, c2]
        have hfd : badF k fs part = some w := hfst hb
        obtain ⟨t36, h4, e4, G4, s4, f4, k4, l4⟩ := without_ok s3'.sl hz3.sl (by omega)
        have s4' : SdF h4 t36 (outI (tolL k fs part w) w) G4 := s4
        simp [g665_0, hM, g12, hi, ix, ez, e2, e3, n3, nz, nx, c1, c2, e4, gL, upd, fillL, resV, mkV, hz3.cells, hz3.cell, s4.cells, s4.cell]
        exact hR (.tup [.agg [z, t36], .bool true]) h4 ⟨z, t36, _, G4, by rw [hfd]; rfl, by rw [frmB, hfd]; exact hz3.keep k4, by rw [tosB, hfd]; exact s4', ((ksh.trans k2).trans k3).trans k4, by omega⟩
      · have hb : badC k fs part w = false := by simp [badC, c2]
        simp [g665_0, hM, g12, hi, ix, ez, e2, e3, n3, nz, nx, c1, c2, st]
        exact hJ _ hi ⟨hi, by simp, (hk0.trans k2).trans k3, by show h1.length ≤ h3.length; omega, gL, hats hb⟩
    · have hb : badC k fs part w = false := by simp [badC, c1]
      simp [g665_0, hM, g12, hi, ix, ez, e2, e3, n3, nz, nx, c1, st]
      exact hJ _ hi ⟨hi, by simp, (hk0.trans k2).trans k3, by show h1.length ≤ h3.length; omega, gL, hats hb⟩
  · rw [List.take_of_length_le (by omega)] at hall
    have hfd : badF k fs part = none := List.find?_eq_none.2 fun x hx => by simp [hall x hx]
    simp [g665_0, hM, g12, hi, gL, upd, fillL, resV, mkV]
    exact hR (.tup [.agg [.nils, .nils], .bool false]) s.h ⟨.nils, .nils, [], [], by rw [hfd]; rfl, by rw [frmB, hfd]; exact SdF.nil, by rw [tosB, hfd]; exact SdF.nil, k1.trans hk0, by omega⟩

theorem l6Number_eq {h : Heap} {v : V} {part : List Int} (hs : Sl h v part) {k : Nat} (hin : InK k part) (hk : k ≤ 20) : call p 684 [v] h = some (vi (partN part), h) := by
  refine go_eq (fn := g684) rfl rfl fun R hR => ?_
  simp [g684, hs.len]
  refine Wc_upM (M := [3, 5, 8, 9, 10, 11, 12, 13, 14, 15, 16, 17]) rfl part.length (fun i s => i ≤ part.length ∧ s.σ 8 = .v (vi i) ∧ s.h = h ∧ s.σ 3 = .v (vi (partN (part.take i)))) 0
    ⟨by omega, by simp, rfl, by simp [partN]⟩ fun i s ⟨gi, g8, gh, g3⟩ hM J hJ => ?_
  by_cases hi : i < part.length
  · have ix := hs.idx 1 .i64 i hi
    simp only [Nat.mul_one] at ix
    have ld := hs.loadI i hi
    have st : IntKind.i64.wrap ((i : Int) + 1) = (i + 1 : Nat) := hs.step hi
    have hb := hin _ (List.getElem_mem hi)
    have hw : partN (part.take i) < 2 ^ k := partN_lt fun x hx => by have := hin x (List.mem_of_mem_take hx); omega
    have hw2 : partN (part.take i) < 2 ^ 30 := Nat.lt_of_lt_of_le hw (Nat.pow_le_pow_right (by decide) (by omega))
    have hsn : partN (part.take (i + 1)) = partN (part.take i) ||| 2 ^ part[i].toNat := by rw [List.take_succ_eq_append_getElem hi, partN_snoc]
    obtain ⟨q, hq⟩ := Int.eq_ofNat_of_zero_le hb.1
    rw [hq] at ld hb hsn
    have wu : IntKind.u64.wrap (q : Int) = q := IntWalk.u64_in _ (by omega)
    have es := shl_v (k' := .u64) q (by omega)
    have hq2 : 2 ^ q < 2 ^ 30 := Nat.pow_lt_pow_right (by decide) (by omega)
    have eo := or_v (partN (part.take i)) (2 ^ q) hw2 hq2
    rw [show ((q : Int)).toNat = q from rfl] at hsn
    rw [← hsn] at eo
    generalize (2 : Nat) ^ q = N at *
    simp [g684_0, -binV_int, bv_lss, bv_add, hM, g8, g3, gh, hi, ix, ld, wu, es, eo, st, -Int.natCast_add]
    exact hJ _ hi ⟨hi, by simp, rfl, by simp⟩
  · have : i = part.length := by omega
    subst this
    rw [List.take_length] at g3
    simp [g684_0, hM, g8, g3, gh]
    exact hR

theorem msk_find {α : Type} {p : α → Bool} {f : Nat → α} {w n : Nat} (hn : n ≤ w) (hq : n &&& w = n) (hp : p (f n) = true) (hall : ∀ m, m < n → m &&& w = m → p (f m) = false) : ((mskL w).map f).find? p = some (f n) := by
  have e : w + 1 = n + (1 + (w - n)) := by omega
  have e2 : List.range (1 + (w - n)) = 0 :: (List.range (w - n)).map (1 + ·) := by rw [List.range_add]; rfl
  rw [mskL, e, List.range_add, e2, List.map_cons, List.filter_append, List.filter_cons_of_pos (by simpa using hq), List.map_append, List.map_cons, List.find?_append]
  have : (((List.range n).filter fun m => decide (m &&& w = m)).map f).find? p = none := List.find?_eq_none.2 fun x hx => by
    obtain ⟨m, hm, rfl⟩ := List.mem_map.1 hx
    have := List.mem_filter.1 hm
    simp only [List.mem_range, decide_eq_true_eq] at this
    simp [hall m this.1 this.2]
  rw [this, Nat.add_zero, List.find?_cons_of_pos hp]; rfl
theorem l6Bad_ok {h : Heap} {vf vx : V} {k : Nat} {fs : List Dp} {part : List Int} {F Fx : List Nat} (hf : SdF h vf fs F) (hx : SdF h vx part Fx) (hd : DepsIn k fs) (hr : part.Pairwise (· < ·)) (hin : InK k part) (hk : k ≤ 10) :
    ∃ r h', call p 667 [vf, vx] h = some (r, h') ∧ ∃ x y F1 F2, r = .tup [.agg [x, y], .bool (badF k fs part).isSome] ∧ SdF h' x (frmB k fs part) F1 ∧ SdF h' y (tosB k fs part) F2 ∧ Keeps h h' ∧ h.length ≤ h'.length := by
  have hpl : part.length ≤ k := rising_len hr hin
  have e1 := l6Number_eq hx.sl hin (by omega)
  have hsub := sub_eq (k := k) part.length part rfl hr hin
  have hwk : partN part < 2 ^ k := partN_lt fun x hx => by have := hin x hx; omega
  have hk10 : 2 ^ k ≤ 2 ^ 10 := Nat.pow_le_pow_right (by decide) hk
  have hmem : ∀ n, n ≤ partN part → n &&& partN part = n → bitsOf k n ∈ subL part := fun n h1 h2 => by
    rw [← hsub]
    exact List.mem_map_of_mem (List.mem_filter.2 ⟨by simp; omega, by simpa using h2⟩)
  have hfind : ∀ n, n ≤ partN part → n &&& partN part = n → badC k fs part (bitsOf k n) = true → (∀ m, m < n → m &&& partN part = m → badC k fs part (bitsOf k m) = false) → badF k fs part = some (bitsOf k n) := fun n h1 h2 h3 h4 => by
    rw [badF, ← hsub]; exact msk_find h1 h2 h3 h4
  have hnone : (∀ m, m < partN part + 1 → m &&& partN part = m → badC k fs part (bitsOf k m) = false) → badF k fs part = none := fun h1 => by
    rw [badF, ← hsub]
    refine List.find?_eq_none.2 fun x hx => ?_
    obtain ⟨m, hm, rfl⟩ := List.mem_map.1 hx
    have := List.mem_filter.1 hm
    simp only [List.mem_range, decide_eq_true_eq] at this
    simp [h1 m this.1 this.2]
  refine go (fn := g667) rfl rfl fun R hR => ?_
  generalize partN part = w at *
  simp [g667, upd, e1]
  refine Wc_upM (M := [5, 7, 8, 9, 12, 13, 14, 15, 16, 17, 18, 19, 20, 21, 22, 23, 24, 25, 26, 27, 28, 29, 30, 31, 32, 33, 34, 35, 36, 37, 38, 39, 40, 41, 42, 43, 44, 45]) rfl (w + 1) (fun i s => i ≤ w + 1 ∧ s.σ 7 = .v (vi i) ∧ Keeps h s.h ∧ h.length ≤ s.h.length ∧ s.L 4 = (1, [.nils, .nils]) ∧ ∀ m, m < i → m &&& w = m → badC k fs part (bitsOf k m) = false) 0
    ⟨by omega, by simp, Keeps.refl _, Nat.le_refl _, by simp [upd], by simp⟩ fun i s ⟨gi, g7, hk0, hl0, gL, hall⟩ hM J hJ => ?_
  by_cases hi : i < w + 1
  · have hiw : i ≤ w := by omega
    have ea := andG_v i w (by omega) (by omega)
    have st : IntKind.i64.wrap ((i : Int) + 1) = (i + 1 : Nat) := by rw [IntWalk.i64_in] <;> omega
    have hnext : badC k fs part (bitsOf k i) = false ∨ ¬ i &&& w = i → ∀ m, m < i + 1 → m &&& w = m → badC k fs part (bitsOf k m) = false := fun h m hm hq => by
      by_cases e : m = i
      · subst e
        rcases h with h | h
        · exact h
        · exact absurd hq h
      · exact hall m (by omega) hq
    by_cases hq : i &&& w = i
    · obtain ⟨q1, q2⟩ := sub_facts (hmem i hiw hq) hr hin
      obtain ⟨t23, h1, e2, o1, k1, l1⟩ := l5List_ok (h := s.h) (k := k) (m := i) (by omega) (by omega)
      obtain ⟨t27, h2, e3, G2, s2, k2, l2⟩ := l5Closure_ok (hf.keep (hk0.trans k1)) o1.sl hd q1 q2 (by omega)
      obtain ⟨t28, h3, e4, o3, k3, l3⟩ := l6Both_ok (hx.keep ((hk0.trans k1).trans k2)).sl s2.sl (by omega)
      have o3' : Out h2.length h3 t28 (tolL k fs part (bitsOf k i)) := o3
      have hz3 := (o1.sl.keeps k2).keeps k3
      have n3 := o3'.sl.len
      have nz := hz3.len
      have nx := (hx.keep (((hk0.trans k1).trans k2).trans k3)).len
      have htl : (tolL k fs part (bitsOf k i)).length ≤ part.length := List.length_filter_le ..
      have hfi := hfind i hiw hq
      obtain ⟨Fz, hzF, _⟩ := hz3.sdF o1.cap
      rw [hq] at ea
      generalize bitsOf k i = b at *
      by_cases c1 : b.length < (tolL k fs part b).length
      · by_cases c2 : (tolL k fs part b).length < part.length
        · have hb : badC k fs part b = true := by simp [badC, c1, c2]
          have hfd := hfi hb hall
          obtain ⟨t44, h4, e5, o4, k4, l4⟩ := l6Less_ok o3'.sl hz3 (by omega)
          have o4' : Out h3.length h4 t44 (outI (tolL k fs part b) b) := o4
          obtain ⟨Fy, hyF, _⟩ := o4'.sl.sdF o4'.cap
          simp [g667_0, -binV_int, bv_lss, bv_gtr, bv_leq, bv_neq, bv_add, hM, g7, hiw, ea, e2, e3, e4, n3, nz, nx, c1, c2, e5, gL, upd, fillL, resV, mkV, hzF.cells, hzF.cell, hyF.cells, hyF.cell]
          exact hR (.tup [.agg [t23, t44], .bool true]) h4 ⟨t23, t44, Fz, Fy, by rw [hfd]; rfl, by rw [frmB, hfd]; exact hzF.keep k4, by rw [tosB, hfd]; exact hyF, ((hk0.trans k1).trans k2).trans (k3.trans k4), by omega⟩
        · have hb : badC k fs part b = false := by simp [badC, c2]
          simp [g667_0, -binV_int, bv_lss, bv_gtr, bv_leq, bv_neq, bv_add, hM, g7, hiw, ea, e2, e3, e4, n3, nz, nx, c1, c2, st, -Int.natCast_add]
          exact hJ _ hi ⟨hi, by simp, ((hk0.trans k1).trans k2).trans k3, by show h.length ≤ h3.length; omega, gL, hnext (.inl hb)⟩
      · have hb : badC k fs part b = false := by simp [badC, c1]
        simp [g667_0, -binV_int, bv_lss, bv_gtr, bv_leq, bv_neq, bv_add, hM, g7, hiw, ea, e2, e3, e4, n3, nz, nx, c1, st, -Int.natCast_add]
        exact hJ _ hi ⟨hi, by simp, ((hk0.trans k1).trans k2).trans k3, by show h.length ≤ h3.length; omega, gL, hnext (.inl hb)⟩
    · have hne : ¬ ((i &&& w : Nat) : Int) = (i : Int) := by omega
      have hn2 := hnext (.inr hq)
      generalize i &&& w = q at *
      simp [g667_0, -binV_int, bv_lss, bv_gtr, bv_leq, bv_neq, bv_add, hM, g7, hiw, ea, hne, st, -Int.natCast_add]
      exact hJ _ hi ⟨hi, by simp, hk0, hl0, gL, hn2⟩
  · have hiw : ¬ i ≤ w := by omega
    have : i = w + 1 := by omega
    subst this
    have hfd := hnone hall
    have hww : ¬ ((w : Int) + 1 ≤ (w : Int)) := by omega
    simp [g667_0, -binV_int, bv_leq, hM, g7, hww, gL, upd, fillL, resV, mkV]
    exact hR (.tup [.agg [.nils, .nils], .bool false]) s.h ⟨.nils, .nils, [], [], by rw [hfd]; rfl, by rw [frmB, hfd]; exact SdF.nil, by rw [tosB, hfd]; exact SdF.nil, hk0, hl0⟩
end GL

namespace GL
open Go

/-! the questions of FnApart that do not loop -/
def biO (k : Nat) (fs : List Dp) (part : List Int) : Bool := okDps k fs && risB 0 ((k : Int) - 1) part
noncomputable def biB (k : Nat) (fs : List Dp) (part : List Int) : Bool := biO k fs part && (badF k fs part).isSome
noncomputable def biF (k : Nat) (fs : List Dp) (part : List Int) : List Int := if biO k fs part = true then frmB k fs part else []
noncomputable def biT (k : Nat) (fs : List Dp) (part : List Int) : List Int := if biO k fs part = true then tosB k fs part else []
theorem BadIn_ok {h : Heap} {vf vx : V} {k : Nat} {fs : List Dp} {part : List Int} {F Fx : List Nat} (hf : SdF h vf fs F) (hx : SdF h vx part Fx) :
    ∃ r h', call p 626 [vi k, vf, vx] h = some (r, h') ∧ ∃ x y F1 F2, r = .tup [.agg [x, y], .bool (biB k fs part)] ∧ SdF h' x (biF k fs part) F1 ∧ SdF h' y (biT k fs part) F2 ∧ Keeps h h' ∧ h.length ≤ h'.length := by
  obtain ⟨_, h1, e1, rfl, k1, l1⟩ := GoodDeps_ok hf k
  refine go (fn := g626) rfl rfl fun R hR => ?_
  have bad : biO k fs part = false → R (.tup [.agg [.nils, .nils], .bool false]) h1 := fun hb => hR _ _ ⟨.nils, .nils, [], [], by rw [biB, hb]; rfl, by rw [biF, hb]; exact SdF.nil, by rw [biT, hb]; exact SdF.nil, k1, l1⟩
  cases hg : okDps k fs with
  | false =>
    rw [hg] at e1
    simp [g626, upd, e1, fillL, resV, mkV]
    exact bad (by rw [biO, hg]; rfl)
  | true =>
    rw [hg] at e1
    obtain ⟨hk, hfl, hd⟩ := okDps_in hg
    have e2 := areColumns_eq (hx.keep k1).sl k (by omega)
    cases hp : risB 0 ((k : Int) - 1) part with
    | false =>
      rw [hp] at e2
      simp [g626, upd, e1, e2, fillL, resV, mkV]
      exact bad (by rw [biO, hp, Bool.and_false])
    | true =>
      rw [hp] at e2
      obtain ⟨i1, i2⟩ := ris_in hp
      obtain ⟨_, h2, e3, x, y, F1, F2, rfl, s1, s2, k2, l2⟩ := badIn_ok (hf.keep k1) (hx.keep k1) hd i2 i1 (by omega)
      have ho : biO k fs part = true := by rw [biO, hg, hp]; rfl
      simp [g626, upd, e1, e2, e3, fillL, resV, mkV, s1.cells, s1.cell, s2.cells, s2.cell]
      exact hR _ _ ⟨x, y, F1, F2, by rw [biB, ho, Bool.true_and], by rw [biF, ho]; exact s1, by rw [biT, ho]; exact s2, k1.trans k2, by omega⟩
theorem BadInS_ok {h : Heap} {vf vx : V} {k : Nat} {fs : List Dp} {part : List Int} {F Fx : List Nat} (hf : SdF h vf fs F) (hx : SdF h vx part Fx) (hk7 : k ≤ 7) :
    ∃ r h', call p 628 [vi k, vf, vx] h = some (r, h') ∧ ∃ x y F1 F2, r = .tup [.agg [x, y], .bool (biB k fs part)] ∧ SdF h' x (biF k fs part) F1 ∧ SdF h' y (biT k fs part) F2 ∧ Keeps h h' ∧ h.length ≤ h'.length := by
  have e1 := l6Part_eq hf hx.sl (k := k) (by omega)
  rw [show (okDps k fs && risB 0 ((k : Int) - 1) part) = biO k fs part from rfl] at e1
  refine go (fn := g628) rfl rfl fun R hR => ?_
  cases ho : biO k fs part with
  | false =>
    rw [ho] at e1
    simp [g628, upd, e1, fillL, resV, mkV]
    exact hR _ _ ⟨.nils, .nils, [], [], by rw [biB, ho]; rfl, by rw [biF, ho]; exact SdF.nil, by rw [biT, ho]; exact SdF.nil, Keeps.refl _, Nat.le_refl _⟩
  | true =>
    have ho' := ho
    simp only [biO, Bool.and_eq_true] at ho'
    obtain ⟨hk, hfl, hd⟩ := okDps_in ho'.1
    obtain ⟨i1, i2⟩ := ris_in ho'.2
    obtain ⟨_, h2, e3, x, y, F1, F2, rfl, s1, s2, k2, l2⟩ := l6Bad_ok hf hx hd i2 i1 (by omega)
    rw [ho] at e1
    simp [g628, upd, e1, e3, fillL, resV, mkV, s1.cells, s1.cell, s2.cells, s2.cell]
    exact hR _ _ ⟨x, y, F1, F2, by rw [biB, ho, Bool.true_and], by rw [biF, ho]; exact s1, by rw [biT, ho]; exact s2, k2, l2⟩

/-! a part is split in two -/
def sbB (k : Nat) (part a b : List Int) : Bool := decide (1 ≤ k ∧ k ≤ 6) && risB 0 ((k : Int) - 1) part && partB part a && partB part b && decide ((comI a b).length = 0)
def sbL (k : Nat) (part a b : List Int) : List Int := if sbB k part a b = true then togI a b else []
def sbR (k : Nat) (part a b : List Int) : List Int := if sbB k part a b = true then outI part b else []
theorem partB_facts {part a : List Int} (h : partB part a = true) : (∀ x ∈ a, x ∈ part) ∧ a.Pairwise (· < ·) := by
  simp only [partB, Bool.and_eq_true, List.all_eq_true, decide_eq_true_eq] at h; exact h
theorem SplitBy_ok {h : Heap} {vx x y : V} {k : Nat} {part a b : List Int} {Fx Fa Fb : List Nat} (hx : SdF h vx part Fx) (ha : SdF h x a Fa) (hb : SdF h y b Fb) (hal : a.length ≤ 2 ^ 10) :
    ∃ r h', call p 629 [vi k, vx, .agg [x, y]] h = some (r, h') ∧ ∃ u w, r = .tup [u, w, .bool (sbB k part a b)] ∧ Sl h' u (sbL k part a b) ∧ Sl h' w (sbR k part a b) ∧ Keeps h h' ∧ h.length ≤ h'.length := by
  refine go (fn := g629) rfl rfl fun R hR => ?_
  have bad : ∀ h', sbB k part a b = false → Keeps h h' → h.length ≤ h'.length → R (.tup [.nils, .nils, .bool false]) h' := fun h' hb k1 l1 => hR _ _ ⟨.nils, .nils, by rw [hb], by rw [sbL, hb]; exact Sl.nil, by rw [sbR, hb]; exact Sl.nil, k1, l1⟩
  by_cases hk : 1 ≤ k ∧ k ≤ 6
  · have hk' : (1 : Int) ≤ k ∧ (k : Int) ≤ 6 := by omega
    have e1 := areColumns_eq hx.sl k hk'
    have e2 := isPart_eq ha.sl hx.sl
    have e3 := isPart_eq hb.sl hx.sl
    cases h1 : risB 0 ((k : Int) - 1) part with
    | false =>
      rw [h1] at e1
      simp [g629, upd, ha.cells, ha.cell, hb.cells, hb.cell, hk', e1, fillL, resV, mkV, -Bool.decide_and]
      exact bad _ (by simp [sbB, h1]) (Keeps.refl _) (Nat.le_refl _)
    | true =>
      rw [h1] at e1
      cases h2 : partB part a with
      | false =>
        rw [h2] at e2
        simp [g629, upd, ha.cells, ha.cell, hb.cells, hb.cell, hk', e1, e2, fillL, resV, mkV, -Bool.decide_and]
        exact bad _ (by simp [sbB, h2]) (Keeps.refl _) (Nat.le_refl _)
      | true =>
        rw [h2] at e2
        cases h3 : partB part b with
        | false =>
          rw [h3] at e3
          simp [g629, upd, ha.cells, ha.cell, hb.cells, hb.cell, hk', e1, e2, e3, fillL, resV, mkV, -Bool.decide_and]
          exact bad _ (by simp [sbB, h3]) (Keeps.refl _) (Nat.le_refl _)
        | true =>
          rw [h3] at e3
          obtain ⟨i1, i2⟩ := ris_in h1
          obtain ⟨a1, a2⟩ := partB_facts h2
          obtain ⟨b1, b2⟩ := partB_facts h3
          have hpl := rising_len i2 i1
          have hbl : b.length ≤ k := rising_len b2 fun z hz => i1 z (b1 z hz)
          obtain ⟨t37, h4, e4, G4, s4, f4, k4, l4⟩ := both_ok ha.sl hb.sl (by omega)
          have s4' : SdF h4 t37 (comI a b) G4 := s4
          have n4 := s4'.len
          by_cases h0 : (comI a b).length = 0
          · have h0' : ¬ (0 : Int) < (comI a b).length := by omega
            have hok : sbB k part a b = true := by simp [sbB, hk, h1, h2, h3, h0]
            obtain ⟨t45, h5, e5, ys, G5, s5, f5, r5, m5, k5, l5⟩ := together_ok (ha.keep k4) (hb.keep k4) (by omega)
            have hy : ys = togI a b := togI_eq a2 b2 r5 m5
            subst hy
            obtain ⟨t49, h6, e6, G6, s6, f6, k6, l6⟩ := without_ok (hx.keep (k4.trans k5)).sl (hb.keep (k4.trans k5)).sl (by omega)
            have s6' : SdF h6 t49 (outI part b) G6 := s6
            simp [g629, upd, ha.cells, ha.cell, hb.cells, hb.cell, hk', e1, e2, e3, e4, n4, h0, e5, e6, fillL, resV, mkV, -Bool.decide_and]
            exact hR _ _ ⟨t45, t49, by rw [hok], by rw [sbL, hok]; exact (s5.keep k6).sl, by rw [sbR, hok]; exact s6'.sl, (k4.trans k5).trans k6, by omega⟩
          · have h0' : (0 : Int) < (comI a b).length := by omega
            have h0'' : 0 < (comI a b).length := by omega
            simp [g629, upd, ha.cells, ha.cell, hb.cells, hb.cell, hk', e1, e2, e3, e4, n4, h0', h0'', fillL, resV, mkV, -Bool.decide_and]
            exact bad _ (by simp [sbB]; intros; exact fun e => h0 (by simp [e])) k4 l4
  · have hk' : ¬ ((1 : Int) ≤ k ∧ (k : Int) ≤ 6) := by omega
    simp [g629, upd, ha.cells, ha.cell, hb.cells, hb.cell, hk', fillL, resV, mkV, -Bool.decide_and]
    exact bad _ (by simp [sbB, hk]) (Keeps.refl _) (Nat.le_refl _)
theorem sbB_eq (k : Nat) (part a b : List Int) : sbB k part a b = (okDps k [⟨a, b⟩] && risB 0 ((k : Int) - 1) part && (a.all fun x => decide (x ∈ part)) && (b.all fun x => decide (x ∈ part)) && decide ((comI a b).length = 0)) := by
  rw [Bool.eq_iff_iff]
  simp only [sbB, okDps, okDp, partB, Bool.and_eq_true, decide_eq_true_eq, List.all_eq_true, List.mem_singleton, List.length_singleton, forall_eq]
  constructor
  · rintro ⟨⟨⟨⟨hk, hp⟩, ha, ha2⟩, hb, hb2⟩, hc⟩
    obtain ⟨i1, i2⟩ := ris_in hp
    exact ⟨⟨⟨⟨⟨⟨by omega, by decide⟩, in_ris (fun x hx => i1 x (ha x hx)) ha2, in_ris (fun x hx => i1 x (hb x hx)) hb2⟩, hp⟩, ha⟩, hb⟩, hc⟩
  · rintro ⟨⟨⟨⟨⟨⟨hk, _⟩, h1, h2⟩, hp⟩, ha⟩, hb⟩, hc⟩
    exact ⟨⟨⟨⟨by omega, hp⟩, ha, (ris_in h1).2⟩, hb, (ris_in h2).2⟩, hc⟩
theorem SplitByS_ok {h : Heap} {vx x y : V} {k : Nat} {part a b : List Int} {Fx Fa Fb : List Nat} (hx : SdF h vx part Fx) (ha : SdF h x a Fa) (hb : SdF h y b Fb) (hal : a.length ≤ 2 ^ 10) (hk7 : k ≤ 7) :
    ∃ r h', call p 632 [vi k, vx, .agg [x, y]] h = some (r, h') ∧ ∃ u w, r = .tup [u, w, .bool (sbB k part a b)] ∧ Sl h' u (sbL k part a b) ∧ Sl h' w (sbR k part a b) ∧ Keeps h h' ∧ h.length ≤ h'.length := by
  have hse := sbB_eq k part a b
  have k0 : Keeps h (h ++ [⟨.own, [x, y]⟩]) := Keeps.append _ _
  have hd : SdF (h ++ [⟨.own, [x, y]⟩]) (.slice h.length 0 1 (.k 1)) ([⟨a, b⟩] : List Dp) (h.length :: (Fa ++ Fb)) :=
    ⟨by simp, .inr ⟨h.length, 0, .k 1, rfl, Nat.le_refl _, .inr ⟨⟨.own, [x, y]⟩, [x, y], Fa ++ Fb, rfl, by simp, by simp, by simp [cut, Data.sz], .one ⟨x, y, Fa, Fb, rfl, rfl, ha.keep k0, hb.keep k0⟩⟩⟩⟩
  have e1 := l6Part_eq hd (hx.keep k0).sl (k := k) (by omega)
  have e2 := l5Sub_eq (ha.keep k0).sl (hx.keep k0).sl
  have e3 := l5Sub_eq (hb.keep k0).sl (hx.keep k0).sl
  refine go (fn := g632) rfl rfl fun R hR => ?_
  have bad : ∀ h', sbB k part a b = false → Keeps h h' → h.length ≤ h'.length → R (.tup [.nils, .nils, .bool false]) h' := fun h' hb k1 l1 => hR _ _ ⟨.nils, .nils, by rw [hb], by rw [sbL, hb]; exact Sl.nil, by rw [sbR, hb]; exact Sl.nil, k1, l1⟩
  have l0 : h.length ≤ (h ++ [(⟨.own, [x, y]⟩ : Blk)]).length := by simp
  cases h1 : (okDps k [⟨a, b⟩] && risB 0 ((k : Int) - 1) part) with
  | false =>
    rw [h1] at e1 hse
    simp [g632, upd, ha.cells, ha.cell, hb.cells, hb.cell, e1, fillL, resV, mkV]
    exact bad _ (by rw [hse]; rfl) k0 l0
  | true =>
    rw [h1] at e1 hse
    cases h2 : (a.all fun x => decide (x ∈ part)) with
    | false =>
      rw [h2] at e2 hse
      simp [g632, upd, ha.cells, ha.cell, hb.cells, hb.cell, e1, e2, fillL, resV, mkV]
      exact bad _ (by rw [hse]; rfl) k0 l0
    | true =>
      rw [h2] at e2 hse
      cases h3 : (b.all fun x => decide (x ∈ part)) with
      | false =>
        rw [h3] at e3 hse
        simp [g632, upd, ha.cells, ha.cell, hb.cells, hb.cell, e1, e2, e3, fillL, resV, mkV]
        exact bad _ (by rw [hse]; rfl) k0 l0
      | true =>
        rw [h3] at e3 hse
        simp only [Bool.and_eq_true] at h1
        obtain ⟨hk, _, hds⟩ := okDps_in h1.1
        obtain ⟨i1, i2⟩ := ris_in h1.2
        obtain ⟨_, _, a2, b2⟩ := hds ⟨a, b⟩ (by simp)
        have hpl := rising_len i2 i1
        have hbl : b.length ≤ k := rising_len b2 (hds ⟨a, b⟩ (by simp)).2.1
        obtain ⟨t34, h4, e4, o4, k4, l4⟩ := l6Both_ok (ha.keep k0).sl (hb.keep k0).sl (by omega)
        have o4' : Out (h ++ [(⟨.own, [x, y]⟩ : Blk)]).length h4 t34 (comI a b) := o4
        have n4 := o4'.sl.len
        have k04 := k0.trans k4
        by_cases h0 : (comI a b).length = 0
        · have h0' : ¬ (0 : Int) < (comI a b).length := by omega
          rw [decide_eq_true h0] at hse
          have hok : sbB k part a b = true := hse
          obtain ⟨t42, h5, e5, s5, k5, l5⟩ := l6Either_ok (ha.keep k04).sl (hb.keep k04).sl a2 b2 hal (by omega)
          obtain ⟨t46, h6, e6, o6, k6, l6⟩ := l6Less_ok (hx.keep (k04.trans k5)).sl (hb.keep (k04.trans k5)).sl (by omega)
          have o6' : Out h5.length h6 t46 (outI part b) := o6
          simp [g632, upd, ha.cells, ha.cell, hb.cells, hb.cell, e1, e2, e3, e4, n4, h0, e5, e6, fillL, resV, mkV]
          exact hR _ _ ⟨t42, t46, by rw [hok], by rw [sbL, hok]; exact s5.keeps k6, by rw [sbR, hok]; exact o6'.sl, (k04.trans k5).trans k6, by omega⟩
        · have h0' : (0 : Int) < (comI a b).length := by omega
          have h0'' : 0 < (comI a b).length := by omega
          rw [decide_eq_false h0] at hse
          simp [g632, upd, ha.cells, ha.cell, hb.cells, hb.cell, e1, e2, e3, e4, n4, h0', h0'', fillL, resV, mkV]
          exact bad _ (by rw [hse]; rfl) k04 (by omega)

/-! is a sentence kept? -/
def ikB (k : Nat) (fs : List Dp) (part a b : List Int) : Bool := okDps k fs && risB 0 ((k : Int) - 1) part && partB part a && partB part b
noncomputable def ikV (k : Nat) (fs : List Dp) (part a b : List Int) : Bool := ikB k fs part a b && impD k fs ⟨a, b⟩
theorem IsKept_ok {h : Heap} {vf vx x y : V} {k : Nat} {fs : List Dp} {part a b : List Int} {F Fx Fa Fb : List Nat} (hf : SdF h vf fs F) (hx : SdF h vx part Fx) (ha : SdF h x a Fa) (hb : SdF h y b Fb) :
    ∃ r h', call p 630 [vi k, vf, vx, .agg [x, y]] h = some (r, h') ∧ r = .tup [.bool (ikV k fs part a b), .bool (ikB k fs part a b)] ∧ Keeps h h' ∧ h.length ≤ h'.length := by
  obtain ⟨_, h1, e1, rfl, k1, l1⟩ := GoodDeps_ok hf k
  refine go (fn := g630) rfl rfl fun R hR => ?_
  have bad : ikB k fs part a b = false → R (.tup [.bool false, .bool false]) h1 := fun hb => hR _ _ ⟨by rw [ikV, hb]; rfl, k1, l1⟩
  have e3 := isPart_eq (ha.keep k1).sl (hx.keep k1).sl
  have e4 := isPart_eq (hb.keep k1).sl (hx.keep k1).sl
  cases hg : okDps k fs with
  | false =>
    rw [hg] at e1
    simp [g630, upd, ha.cells, ha.cell, hb.cells, hb.cell, e1, fillL, resV, mkV]
    exact bad (by simp [ikB, hg])
  | true =>
    rw [hg] at e1
    obtain ⟨hk, hfl, hd⟩ := okDps_in hg
    have e2 := areColumns_eq (hx.keep k1).sl k (by omega)
    cases h1' : risB 0 ((k : Int) - 1) part with
    | false =>
      rw [h1'] at e2
      simp [g630, upd, ha.cells, ha.cell, hb.cells, hb.cell, e1, e2, fillL, resV, mkV]
      exact bad (by simp [ikB, h1'])
    | true =>
      rw [h1'] at e2
      cases h2 : partB part a with
      | false =>
        rw [h2] at e3
        simp [g630, upd, ha.cells, ha.cell, hb.cells, hb.cell, e1, e2, e3, fillL, resV, mkV]
        exact bad (by simp [ikB, h2])
      | true =>
        rw [h2] at e3
        cases h3 : partB part b with
        | false =>
          rw [h3] at e4
          simp [g630, upd, ha.cells, ha.cell, hb.cells, hb.cell, e1, e2, e3, e4, fillL, resV, mkV]
          exact bad (by simp [ikB, h3])
        | true =>
          rw [h3] at e4
          obtain ⟨i1, i2⟩ := ris_in h1'
          obtain ⟨a1, a2⟩ := partB_facts h2
          obtain ⟨_, h5, e5, rfl, k5, l5⟩ := implies_ok (f := ⟨a, b⟩) (hf.keep k1) (ha.keep k1).sl (hb.keep k1).sl hd a2 (fun z hz => i1 z (a1 z hz)) (by omega : k ≤ 2 ^ 10)
          have hok : ikB k fs part a b = true := by simp [ikB, hg, h1', h2, h3]
          simp [g630, upd, ha.cells, ha.cell, hb.cells, hb.cell, e1, e2, e3, e4, e5, fillL, resV, mkV]
          exact hR _ _ ⟨by rw [ikV, hok, Bool.true_and], k1.trans k5, by omega⟩
theorem ikB_eq (k : Nat) (fs : List Dp) (part a b : List Int) : ikB k fs part a b = (okDps k fs && risB 0 ((k : Int) - 1) part && okDp k ⟨a, b⟩ && (a.all fun x => decide (x ∈ part)) && (b.all fun x => decide (x ∈ part))) := by
  rw [Bool.eq_iff_iff]
  simp only [ikB, okDp, partB, Bool.and_eq_true, decide_eq_true_eq, List.all_eq_true]
  constructor
  · rintro ⟨⟨⟨hg, hp⟩, ha, ha2⟩, hb, hb2⟩
    obtain ⟨i1, i2⟩ := ris_in hp
    exact ⟨⟨⟨⟨hg, hp⟩, in_ris (fun x hx => i1 x (ha x hx)) ha2, in_ris (fun x hx => i1 x (hb x hx)) hb2⟩, ha⟩, hb⟩
  · rintro ⟨⟨⟨⟨hg, hp⟩, h1, h2⟩, ha⟩, hb⟩
    exact ⟨⟨⟨hg, hp⟩, ha, (ris_in h1).2⟩, hb, (ris_in h2).2⟩
theorem IsKeptS_ok {h : Heap} {vf vx x y : V} {k : Nat} {fs : List Dp} {part a b : List Int} {F Fx Fa Fb : List Nat} (hf : SdF h vf fs F) (hx : SdF h vx part Fx) (ha : SdF h x a Fa) (hb : SdF h y b Fb) (hk7 : k ≤ 7) :
    ∃ r h', call p 634 [vi k, vf, vx, .agg [x, y]] h = some (r, h') ∧ r = .tup [.bool (ikV k fs part a b), .bool (ikB k fs part a b)] ∧ Keeps h h' ∧ h.length ≤ h'.length := by
  have hse := ikB_eq k fs part a b
  have e1 := l6Part_eq hf hx.sl (k := k) (by omega)
  have e3 := l5Sub_eq ha.sl hx.sl
  have e4 := l5Sub_eq hb.sl hx.sl
  refine go (fn := g634) rfl rfl fun R hR => ?_
  have bad : ikB k fs part a b = false → R (.tup [.bool false, .bool false]) h := fun hb => hR _ _ ⟨by rw [ikV, hb]; rfl, Keeps.refl _, Nat.le_refl _⟩
  cases h1 : (okDps k fs && risB 0 ((k : Int) - 1) part) with
  | false =>
    rw [h1] at e1 hse
    simp [g634, upd, ha.cells, ha.cell, hb.cells, hb.cell, e1, fillL, resV, mkV]
    exact bad (by rw [hse]; rfl)
  | true =>
    rw [h1] at e1 hse
    simp only [Bool.and_eq_true] at h1
    obtain ⟨hk, hfl, hd⟩ := okDps_in h1.1
    have e2 := l5Dep_eq (f := ⟨a, b⟩) ha.sl hb.sl k (by omega)
    cases h2 : okDp k ⟨a, b⟩ with
    | false =>
      rw [h2] at e2 hse
      simp [g634, upd, ha.cells, ha.cell, hb.cells, hb.cell, e1, e2, fillL, resV, mkV]
      exact bad (by rw [hse]; rfl)
    | true =>
      rw [h2] at e2 hse
      cases h3 : (a.all fun x => decide (x ∈ part)) with
      | false =>
        rw [h3] at e3 hse
        simp [g634, upd, ha.cells, ha.cell, hb.cells, hb.cell, e1, e2, e3, fillL, resV, mkV]
        exact bad (by rw [hse]; rfl)
      | true =>
        rw [h3] at e3 hse
        cases h4 : (b.all fun x => decide (x ∈ part)) with
        | false =>
          rw [h4] at e4 hse
          simp [g634, upd, ha.cells, ha.cell, hb.cells, hb.cell, e1, e2, e3, e4, fillL, resV, mkV]
          exact bad (by rw [hse]; rfl)
        | true =>
          rw [h4] at e4 hse
          obtain ⟨i1, i2, i3, i4⟩ := okDp_in h2
          obtain ⟨t40, h5, e5, G5, s5, k5, l5⟩ := l5Closure_ok hf ha.sl hd i3 i1 (by omega)
          have e6 := l5Sub_eq (hb.keep k5).sl s5.sl
          rw [show (b.all fun x => decide (x ∈ clos k fs a)) = impD k fs ⟨a, b⟩ from rfl] at e6
          have hok : ikB k fs part a b = true := hse
          simp [g634, upd, ha.cells, ha.cell, hb.cells, hb.cell, e1, e2, e3, e4, e5, e6, fillL, resV, mkV]
          exact hR _ _ ⟨by rw [ikV, hok, Bool.true_and], k5, l5⟩
end GL

namespace GL
open Go

/-! parts are taken apart: the plain side -/
def mu (i : Nat) (ps : List (List Int)) : Nat := ((ps.drop i).map fun p => 2 ^ (p.length + 1) - 1).sum
noncomputable def apartF (k : Nat) (fs : List Dp) : Nat → Nat → List (List Int) → List (List Int)
  | 0, _, ps => ps
  | d + 1, i, ps => if i < ps.length then
      match badF k fs (ps.getD i []) with
      | none => apartF k fs d (i + 1) ps
      | some s => apartF k fs d i (ps.take i ++ [togI s (tosB k fs (ps.getD i [])), outI (ps.getD i []) (tosB k fs (ps.getD i []))] ++ ps.drop (i + 1))
    else ps
def splE (k : Nat) : Nat := 2 ^ (k + 1) - 1
noncomputable def splA (k : Nat) (fs : List Dp) : List (List Int) := apartF k fs (splE k) 0 [upTo k]
theorem mu_step {i : Nat} {ps : List (List Int)} (hi : i < ps.length) : mu i ps = (2 ^ (ps[i].length + 1) - 1) + mu (i + 1) ps := by
  rw [mu, List.drop_eq_getElem_cons hi, List.map_cons, List.sum_cons]; rfl
theorem bad_facts {k : Nat} {fs : List Dp} {part s : List Int} (hr : part.Pairwise (· < ·)) (hin : InK k part) (h : badF k fs part = some s) :
    (∀ x ∈ s, x ∈ tolL k fs part s) ∧ s.Pairwise (· < ·) ∧ InK k s ∧ togI s (tosB k fs part) = tolL k fs part s ∧ (tolL k fs part s).length < part.length ∧ (outI part (tosB k fs part)).length < part.length ∧ tosB k fs part = outI (tolL k fs part s) s ∧ (∃ x ∈ tosB k fs part, x ∈ part) := by
  have hb := List.find?_some h
  have hm := List.mem_of_find?_eq_some h
  obtain ⟨s1, s2⟩ := sub_facts hm hr hin
  simp only [badC, Bool.and_eq_true, decide_eq_true_eq] at hb
  have ht : tosB k fs part = outI (tolL k fs part s) s := by rw [tosB, h]
  have hsub : ∀ x ∈ s, x ∈ tolL k fs part s := fun x hx => List.mem_filter.2 ⟨(sub_part hm).subset hx, by simpa using clos_sub s2 x hx⟩
  have tr : (tolL k fs part s).Pairwise (· < ·) := hr.filter _
  have hne : ∃ x ∈ tolL k fs part s, x ∉ s := by
    apply Classical.byContradiction
    intro hc
    have hall : ∀ x ∈ tolL k fs part s, x ∈ s := fun x hx => Classical.byContradiction fun hn => hc ⟨x, hx, hn⟩
    have hnd : (tolL k fs part s).Nodup := tr.imp fun h => Int.ne_of_lt h
    have : (tolL k fs part s).length ≤ s.length := hnd.length_le_of_subset hall
    omega
  obtain ⟨x, hx1, hx2⟩ := hne
  have hxt : x ∈ tosB k fs part := by rw [ht]; exact List.mem_filter.2 ⟨hx1, by simpa using hx2⟩
  have hxp : x ∈ part := (List.mem_filter.1 hx1).1
  refine ⟨hsub, s1, s2, ?_, hb.2, ?_, ht, x, hxt, hxp⟩
  · refine rising_ext (togI_ris s1 (by rw [ht]; exact tr.filter _)) tr fun y => ?_
    rw [togI_mem, ht]
    constructor
    · rintro (h | h)
      · exact hsub y h
      · exact (List.mem_filter.1 h).1
    · intro h
      by_cases hy : y ∈ s
      · exact .inl hy
      · exact .inr (List.mem_filter.2 ⟨h, by simpa using hy⟩)
  · rcases Nat.lt_or_ge (outI part (tosB k fs part)).length part.length with h | h
    · exact h
    · have e : outI part (tosB k fs part) = part := List.filter_sublist.eq_of_length_le h
      have : x ∈ outI part (tosB k fs part) := by rw [e]; exact hxp
      have := (List.mem_filter.1 this).2
      simp [hxt] at this
structure SpI (k : Nat) (fs : List Dp) (d i : Nat) (ps : List (List Int)) : Prop where
  ris : ∀ p ∈ ps, p.Pairwise (· < ·) ∧ InK k p
  mu : mu i ps ≤ d
  il : i ≤ ps.length
  len : ps.length + d ≤ 1 + splE k
  good : ∀ p ∈ ps.take i, badF k fs p = none
  all : ∀ x : Nat, x < k → ∃ p ∈ ps, (x : Int) ∈ p
  fin : apartF k fs d i ps = splA k fs
section
variable {k d i : Nat} {fs : List Dp} {ps : List (List Int)}
theorem upTo_ris (k : Nat) : (upTo k).Pairwise (· < ·) := range_rising k
theorem upTo_in (k : Nat) : InK k (upTo k) := fun x hx => by
  simp only [upTo, List.mem_map, List.mem_range] at hx
  obtain ⟨n, hn, rfl⟩ := hx
  omega
theorem SpI.start : SpI k fs (splE k) 0 [upTo k] where
  ris := fun p hp => by rw [List.mem_singleton] at hp; subst hp; exact ⟨upTo_ris k, upTo_in k⟩
  mu := by simp [GL.mu, splE, upTo_len]
  il := by omega
  len := by simp
  good := by simp
  all := fun x hx => ⟨upTo k, by simp, by simp only [upTo, List.mem_map, List.mem_range]; exact ⟨x, hx, rfl⟩⟩
  fin := rfl
theorem SpI.pos (I : SpI k fs d i ps) (hi : i < ps.length) : ∃ e, d = e + 1 := by
  have := I.mu
  rw [mu_step hi] at this
  have h2 : 2 ≤ 2 ^ (ps[i].length + 1) := by
    rw [Nat.pow_succ]; have := Nat.two_pow_pos ps[i].length; omega
  exact ⟨d - 1, by omega⟩
theorem SpI.next (I : SpI k fs d i ps) (hi : i < ps.length) (hb : badF k fs ps[i] = none) {e : Nat} (he : d = e + 1) : SpI k fs e (i + 1) ps := by
  subst he
  have hm := I.mu
  rw [mu_step hi] at hm
  have h2 : 2 ≤ 2 ^ (ps[i].length + 1) := by
    rw [Nat.pow_succ]; have := Nat.two_pow_pos ps[i].length; omega
  have hg : ps.getD i [] = ps[i] := by simp [hi]
  refine ⟨I.ris, by omega, hi, by have := I.len; omega, (all_take_succ (P := fun p => badF k fs p = none) hi).2 ⟨I.good, hb⟩, I.all, ?_⟩
  have := I.fin
  rw [apartF, if_pos hi, hg, hb] at this
  exact this
theorem SpI.split (I : SpI k fs d i ps) (hi : i < ps.length) {s : List Int} (hb : badF k fs ps[i] = some s) {e : Nat} (he : d = e + 1) : SpI k fs e i (ps.take i ++ [togI (frmB k fs ps[i]) (tosB k fs ps[i]), outI ps[i] (tosB k fs ps[i])] ++ ps.drop (i + 1)) := by
  subst he
  have hm := I.mu
  rw [mu_step hi] at hm
  obtain ⟨r1, r2⟩ := I.ris _ (List.getElem_mem hi)
  obtain ⟨f1, f2, f3, f4, f5, f6, f7, f8⟩ := bad_facts r1 r2 hb
  have hfrm : frmB k fs ps[i] = s := by rw [frmB, hb]; rfl
  have hg : ps.getD i [] = ps[i] := by simp [hi]
  have hfin := I.fin
  rw [apartF, if_pos hi, hg, hb] at hfin
  rw [hfrm]
  have htk : (ps.take i).length = i := by simp; omega
  have hdr : (ps.take i ++ [togI s (tosB k fs ps[i]), outI ps[i] (tosB k fs ps[i])] ++ ps.drop (i + 1)).drop i = [togI s (tosB k fs ps[i]), outI ps[i] (tosB k fs ps[i])] ++ ps.drop (i + 1) := by
    rw [List.append_assoc, List.drop_append_of_le_length (by omega), List.drop_of_length_le (by omega), List.nil_append]
  have htk2 : (ps.take i ++ [togI s (tosB k fs ps[i]), outI ps[i] (tosB k fs ps[i])] ++ ps.drop (i + 1)).take i = ps.take i := by
    rw [List.append_assoc, List.take_append_of_le_length (by omega), List.take_of_length_le (by omega)]
  have hsplit : ∀ p, p ∈ ps ↔ p ∈ ps.take i ∨ p = ps[i] ∨ p ∈ ps.drop (i + 1) := fun p => by
    have e : ps = ps.take i ++ ps[i] :: ps.drop (i + 1) := by rw [← List.drop_eq_getElem_cons hi, List.take_append_drop]
    have h : p ∈ ps ↔ p ∈ ps.take i ++ ps[i] :: ps.drop (i + 1) := by rw [← e]
    rw [h, List.mem_append, List.mem_cons]
  refine ⟨fun p hp => ?_, ?_, ?_, ?_, ?_, fun x hx => ?_, hfin⟩
  · simp only [List.mem_append, List.mem_cons, List.not_mem_nil, or_false] at hp
    rcases hp with (hp | rfl | rfl) | hp
    · exact I.ris p (List.mem_of_mem_take hp)
    · rw [f4]; exact ⟨r1.filter _, fun y hy => r2 y (List.mem_filter.1 hy).1⟩
    · exact ⟨r1.filter _, fun y hy => r2 y (List.mem_filter.1 hy).1⟩
    · exact I.ris p (List.mem_of_mem_drop hp)
  · rw [GL.mu, hdr, List.map_append, List.sum_append]
    have e2 : ((ps.drop (i + 1)).map fun p => 2 ^ (p.length + 1) - 1).sum = GL.mu (i + 1) ps := rfl
    rw [e2]
    simp only [List.map_cons, List.map_nil, List.sum_cons, List.sum_nil, Nat.add_zero]
    rw [f4]
    have p1 : 2 ^ ((tolL k fs ps[i] s).length + 1) ≤ 2 ^ ps[i].length := Nat.pow_le_pow_right (by decide) f5
    have p2 : 2 ^ ((outI ps[i] (tosB k fs ps[i])).length + 1) ≤ 2 ^ ps[i].length := Nat.pow_le_pow_right (by decide) f6
    have p3 : 2 ^ (ps[i].length + 1) = 2 * 2 ^ ps[i].length := by rw [Nat.pow_succ]; omega
    have p4 := Nat.two_pow_pos ps[i].length
    omega
  · simp; omega
  · have := I.len
    simp; omega
  · rw [htk2]; exact I.good
  · obtain ⟨p, hp, hxp⟩ := I.all x hx
    rcases (hsplit p).1 hp with h | h | h
    · exact ⟨p, by simp [h], hxp⟩
    · subst h
      by_cases ht : (x : Int) ∈ tosB k fs ps[i]
      · exact ⟨togI s (tosB k fs ps[i]), by simp, togI_mem.2 (.inr ht)⟩
      · exact ⟨outI ps[i] (tosB k fs ps[i]), by simp, List.mem_filter.2 ⟨hxp, by simpa using ht⟩⟩
    · exact ⟨p, by simp [h], hxp⟩
theorem SpI.done (I : SpI k fs d i ps) (hi : ¬ i < ps.length) : ps = splA k fs := by
  have := I.fin
  cases d with
  | zero => exact this
  | succ d => rw [apartF, if_neg hi] at this; exact this
end
theorem splE_le {k : Nat} (hk : k ≤ 7) : splE k ≤ 255 := by
  have : 2 ^ (k + 1) ≤ 2 ^ 8 := Nat.pow_le_pow_right (by decide) (by omega)
  unfold splE; omega
theorem bits_all (k : Nat) : bitsOf k (2 ^ k - 1) = upTo k := List.filter_eq_self.2 fun x hx => by
  simp only [upTo, List.mem_map, List.mem_range] at hx
  obtain ⟨n, hn, rfl⟩ := hx
  simp [Nat.testBit_two_pow_sub_one, hn]
end GL

namespace GL
open Go

theorem Ls.sdC {h : Heap} {b : Nat} {vs : List V} {xs : List (List Int)} {cap : Cap} (L : Ls h b vs xs) (hc : capS 1 xs.length cap = true) (hl : xs.length ≤ 2 ^ 40) : ∃ F, SdF h (.slice b 0 xs.length cap) xs F := by
  have hv := L.len
  obtain ⟨F, hF⟩ := reps_of hv fun i hi => by
    obtain ⟨G, hG, _⟩ := L.el i hi
    exact ⟨G, hG⟩
  refine ⟨b :: F, by omega, .inr ⟨b, 0, cap, rfl, ?_, .inr ⟨_, vs, F, rfl, L.blk, by simp, ?_, hF⟩⟩⟩
  · cases cap with
    | k c => simp [capS] at hc; subst hc; exact Nat.le_refl _
    | o k' => simp [capS] at hc; subst hc; rfl
  · show cut vs 0 (xs.length * 1) = _
    rw [Nat.mul_one, ← hv]; exact cut_every _
where cut_every (cs : List V) : cut cs 0 cs.length = some cs := by simp [cut]
/-- slices.Replace of one list by two -/
theorem Ls.split {h : Heap} {b i : Nat} {vs : List V} {ps : List (List Int)} {cap : Cap} (L : Ls h b vs ps) (hc : capS 1 ps.length cap = true) (hi : i < ps.length) (hl : ps.length ≤ 2 ^ 20) {u1 u2 : V} {p1 p2 : List Int} {G1 G2 : List Nat} (h1 : SdF h u1 p1 G1) (h2 : SdF h u2 p2 G2) (n1 : b ∉ G1) (n2 : b ∉ G2) :
    ∃ h', call p 666 [.slice b 0 ps.length cap, vi i, vi (i + 1 : Nat), .slice h.length 0 2 (.k 2)] (h ++ [⟨.own, [u1, u2]⟩]) = some (.slice (h.length + 1) 0 (ps.length + 1) (.o 1), h') ∧ Ls h' (h.length + 1) (vs.take i ++ [u1, u2] ++ vs.drop (i + 1)) (ps.take i ++ [p1, p2] ++ ps.drop (i + 1)) ∧ KeepsP (fun c => c ≠ b) h h' ∧ h'.length = h.length + 2 := by
  have hv := L.len
  have hbl := get_lt L.blk
  have hb1 : (h ++ [(⟨.own, [u1, u2]⟩ : Blk)])[b]? = some ⟨.own, vs⟩ := by rw [List.getElem?_append_left hbl]; exact L.blk
  have hb2 : (h ++ [(⟨.own, [u1, u2]⟩ : Blk)])[h.length]? = some ⟨.own, [u1, u2]⟩ := by simp
  obtain ⟨h4, hh4⟩ : ∃ h4 : Heap, h4 = (h ++ [(⟨.own, [u1, u2]⟩ : Blk)]).set b (⟨.dead, vs⟩ : Blk) ++ [(⟨.own, vs.take i ++ [u1, u2] ++ vs.drop (i + 1)⟩ : Blk)] := ⟨_, rfl⟩
  have l4 : h4.length = h.length + 2 := by rw [hh4]; simp
  have kf : KeepsP (fun c => c ≠ b) h h4 := fun c blk hc hb' hst => by
    have hlt := get_lt hb'
    rw [hh4, List.getElem?_append_left (by simp; omega), List.getElem?_set_ne (Ne.symm hc), List.getElem?_append_left hlt]
    exact hb'
  have keepG : ∀ {z : V} {q : List Int} {G : List Nat}, SdF h z q G → b ∉ G → ∃ G, SdF h4 z q G ∧ h.length + 1 ∉ G := fun {z q G} hz hn => ⟨G, hz.keeps (kf.mono fun c hc e => hn (e ▸ hc)), fun hm => by have := hz.ltF hm; omega⟩
  refine ⟨h4, ?_, ⟨by rw [hh4]; simp, by simp; omega, fun q hq => ?_⟩, kf, l4⟩
  · rw [call_ext (e := repE) rfl]
    show (if i + 1 = i + 1 then splH 1 2 (.slice b 0 ps.length cap) i (i + 1) (.slice h.length 0 2 (.k 2)) _ else none) = _
    rw [if_pos rfl]
    have hrd : rdS (h ++ [(⟨.own, [u1, u2]⟩ : Blk)]) 1 (.slice h.length 0 2 (.k 2)) 2 = some [u1, u2] := rdS_last (by simp)
    simp only [splH, hb1]
    rw [if_pos ⟨⟨trivial, trivial, by omega, by omega, by omega, by omega⟩, hc, rfl, by simp only [blkV]; intro e; injection e with e; omega, by simp [ownV]⟩, hrd]
    rw [hh4]
    simp only [Option.bind_some, Nat.mul_one, List.length_append, List.length_singleton]
    rw [show ps.length - (i + 1 - i) + 2 = ps.length + 1 by omega]
  · have htk : (vs.take i).length = i := by simp; omega
    have htp : (ps.take i).length = i := by simp; omega
    simp only [List.length_append, List.length_take, List.length_drop, List.length_cons, List.length_nil] at hq
    by_cases c1 : q < i
    · obtain ⟨G, hG, hn⟩ := L.el q (by omega)
      have e1 : (vs.take i ++ [u1, u2] ++ vs.drop (i + 1)).getD q .nils = vs.getD q .nils := by
        simp only [List.getD_eq_getElem?_getD, List.append_assoc]
        rw [List.getElem?_append_left (by omega), List.getElem?_take, if_pos c1]
      have e2 : (ps.take i ++ [p1, p2] ++ ps.drop (i + 1))[q]'(by simp; omega) = ps[q]'(by omega) := by
        simp only [List.append_assoc]
        rw [List.getElem_append_left (by omega), List.getElem_take]
      rw [e1, e2]
      exact keepG hG hn
    · by_cases c2 : q < i + 2
      · by_cases c3 : q = i
        · subst c3
          have e1 : (vs.take q ++ [u1, u2] ++ vs.drop (q + 1)).getD q .nils = u1 := by
            simp only [List.getD_eq_getElem?_getD, List.append_assoc]
            rw [List.getElem?_append_right (by omega), htk]; simp
          have e2 : (ps.take q ++ [p1, p2] ++ ps.drop (q + 1))[q]'(by simp; omega) = p1 := by
            simp only [List.append_assoc]
            rw [List.getElem_append_right (by omega)]; simp [htp]
          rw [e1, e2]
          exact keepG h1 n1
        · have c4 : q = i + 1 := by omega
          subst c4
          have e1 : (vs.take i ++ [u1, u2] ++ vs.drop (i + 1)).getD (i + 1) .nils = u2 := by
            simp only [List.getD_eq_getElem?_getD, List.append_assoc]
            rw [List.getElem?_append_right (by omega), htk]; simp
          have e2 : (ps.take i ++ [p1, p2] ++ ps.drop (i + 1))[i + 1]'(by simp; omega) = p2 := by
            simp only [List.append_assoc]
            rw [List.getElem_append_right (by omega)]; simp [htp]
          rw [e1, e2]
          exact keepG h2 n2
      · obtain ⟨G, hG, hn⟩ := L.el (q - 1) (by omega)
        have e1 : (vs.take i ++ [u1, u2] ++ vs.drop (i + 1)).getD q .nils = vs.getD (q - 1) .nils := by
          simp only [List.getD_eq_getElem?_getD]
          rw [List.getElem?_append_right (by simp; omega), List.getElem?_drop]
          simp only [List.length_append, htk, List.length_cons, List.length_nil]
          rw [show i + 1 + (q - (i + (0 + 1 + 1))) = q - 1 by omega]
        have e2 : (ps.take i ++ [p1, p2] ++ ps.drop (i + 1))[q]'(by simp; omega) = ps[q - 1]'(by omega) := by
          rw [List.getElem_append_right (by simp; omega), List.getElem_drop]
          congr 1
          simp only [List.length_append, htp, List.length_cons, List.length_nil]; omega
        rw [e1, e2]
        exact keepG hG hn

noncomputable def saL (k : Nat) (fs : List Dp) : List (List Int) := if okDps k fs = true then splA k fs else []
theorem SplitAll_ok {h : Heap} {vf : V} {k : Nat} {fs : List Dp} {F : List Nat} (hf : SdF h vf fs F) :
    ∃ r h', call p 624 [vi k, vf] h = some (r, h') ∧ ∃ w G, r = .tup [w, .bool (okDps k fs)] ∧ SdF h' w (saL k fs) G ∧ Keeps h h' ∧ h.length ≤ h'.length ∧ (okDps k fs = true → ∃ d i, SpI k fs d i (saL k fs) ∧ ¬ i < (saL k fs).length) := by
  obtain ⟨_, h1, e1, rfl, k1, l1⟩ := GoodDeps_ok hf k
  refine go (fn := g624) rfl rfl fun R hR => ?_
  cases hg : okDps k fs with
  | false =>
    rw [hg] at e1
    simp [g624, e1]
    exact hR _ _ ⟨.nils, [], by rw [hg], by rw [saL, hg]; exact SdF.nil, k1, l1, fun h => absurd (hg.symm.trans h) (by decide)⟩
  | true =>
    rw [hg] at e1
    obtain ⟨hk, hfl, hd⟩ := okDps_in hg
    have hE := splE_le (k := k) (by omega)
    obtain ⟨t15, h2, e2, o2, k2, l2⟩ := allColumns_ok (h := h1) k (by omega)
    obtain ⟨G2, s2, f2⟩ := o2.fr
    have k02 := k1.trans k2
    have kl : Keeps h2 (h2 ++ [⟨.own, [t15]⟩]) := Keeps.append _ _
    have L0 : Ls (h2 ++ [⟨.own, [t15]⟩]) h2.length [t15] [upTo k] := ⟨by simp, rfl, fun i hi => by
      have : i = 0 := by simpa using hi
      subst this
      exact ⟨G2, by simpa using s2.keep kl, fun hm => by have := s2.ltF hm; omega⟩⟩
    simp [g624, upd, e1, e2, s2.cells, s2.cell, fillL]
    refine Wc_dnM (M := [6, 7, 8, 9, 17, 18, 19, 20, 21, 22, 23, 24, 25, 26, 27, 28, 29, 30, 31, 32, 33, 34, 35, 36, 37, 38, 39, 40, 41, 42, 43, 44, 45, 46, 47, 48, 49, 50, 51]) rfl (fun d s => ∃ (i b : Nat) (cap : Cap) (vs : List V) (ps : List (List Int)), s.σ 7 = .v (vi i) ∧ s.σ 6 = .v (.slice b 0 ps.length cap) ∧ capS 1 ps.length cap = true ∧ Ls s.h b vs ps ∧ h2.length ≤ b ∧ Keeps h2 s.h ∧ h2.length ≤ s.h.length ∧ SpI k fs d i ps) (splE k)
      ⟨0, h2.length, .k 1, [t15], [upTo k], by simp, by simp, rfl, by simpa using L0, Nat.le_refl _, kl, by simp, SpI.start⟩ fun d s ⟨i, b, cap, vs, ps, g7, g6, hc, L, hb, hks, hls, I⟩ hM J hJ => ?_
    have hpl : ps.length ≤ 256 := by have := I.len; omega
    by_cases hi : i < ps.length
    · obtain ⟨e, rfl⟩ := I.pos hi
      obtain ⟨r1, r2⟩ := I.ris _ (List.getElem_mem hi)
      obtain ⟨z, Gz, rz, sz, nz, ez⟩ := L.get hi
      have w1 : IntKind.i64.wrap ((i : Int) + 1) = (i + 1 : Nat) := by rw [IntWalk.i64_in] <;> omega
      have hfs := hf.keep (k02.trans hks)
      obtain ⟨_, h3, e3, x, y, F1, F2, rfl, s3x, s3y, k3, l3⟩ := badIn_ok hfs sz hd r1 r2 (by omega)
      obtain ⟨F6, s6⟩ := L.sdC hc (by omega)
      have ix := s6.idx 1 .i64 i hi
      simp only [Nat.mul_one, bOf, oOf, Nat.zero_add] at ix
      cases hbd : badF k fs ps[i] with
      | none =>
        rw [hbd] at e3
        have e3 : call p 665 [vf, z] s.h = some (.tup [.agg [x, y], .bool false], h3) := e3
        simp [g624_0, hM, g7, g6, hi, ix, rz, e3, fillL, upd, s3x.cells, s3x.cell, s3y.cells, s3y.cell, w1, -Int.natCast_add]
        exact hJ e _ (by omega) ⟨i + 1, b, cap, vs, ps, by simp, by simp [g6], hc, L.keep k3, hb, hks.trans k3, by show h2.length ≤ h3.length; omega, I.next hi hbd rfl⟩
      | some w =>
        obtain ⟨q1, q2, q3, q4, q5, q6, q7, q8⟩ := bad_facts r1 r2 hbd
        rw [hbd] at e3
        have e3 : call p 665 [vf, z] s.h = some (.tup [.agg [x, y], .bool true], h3) := e3
        have hfrm : frmB k fs ps[i] = w := by rw [frmB, hbd]; rfl
        have tr : (tosB k fs ps[i]).Pairwise (· < ·) := by rw [q7]; exact (r1.filter _).filter _
        have hpk := rising_len r1 r2
        have hwk := rising_len q2 q3
        have htk : (tosB k fs ps[i]).length ≤ ps[i].length := by rw [q7]; exact Nat.le_trans (List.length_filter_le ..) (List.length_filter_le ..)
        have L3 := L.keep k3
        obtain ⟨t42, h4, e4, ys, G4, s4, f4, r4, m4, k4, l4⟩ := together_ok s3x s3y (by rw [hfrm]; omega)
        have hys : ys = togI (frmB k fs ps[i]) (tosB k fs ps[i]) := togI_eq (by rw [hfrm]; exact q2) tr r4 m4
        subst hys
        have L4 := L3.keep k4
        have sz4 := (sz.keep k3).keep k4
        have s3y4 := s3y.keep k4
        obtain ⟨t49, h5, e5, G5, s5, f5, k5, l5⟩ := without_ok sz4.sl s3y4.sl (by omega)
        have s5 : SdF h5 t49 (outI ps[i] (tosB k fs ps[i])) G5 := s5
        have rz3 := L3.rd hi
        have rz4 := L4.rd hi
        rw [ez] at rz3 rz4
        have hblt := get_lt L3.blk
        have L5 := L4.keep k5
        have s45 := s4.keep k5
        obtain ⟨h7, e7, L7, k7, l7⟩ := L5.split hc hi (by omega) s45 s5 (fun hm => by have := f4.ge b hm; omega) (fun hm => by have := f5.ge b hm; omega)
        have hnl : (ps.take i ++ [togI (frmB k fs ps[i]) (tosB k fs ps[i]), outI ps[i] (tosB k fs ps[i])] ++ ps.drop (i + 1)).length = ps.length + 1 := by simp; omega
        have I2 := I.split hi hbd rfl
        simp [g624_0, hM, g7, g6, hi, ix, rz, e3, fillL, upd, s3x.cells, s3x.cell, s3y.cells, s3y.cell, rz3, rz4, stable, stab1, e4, e5, s4.cells, s4.cell, s5.cells, s5.cell, w1, e7, -Int.natCast_add]
        exact hJ e _ (by omega) ⟨i, h5.length + 1, .o 1, _, _, by simp [g7], by rw [hnl]; simp, by simp [capS], L7, by omega, fun c blk hc' hst => k7 _ _ (by have := get_lt hc'; omega) ((hks.trans k3).trans (k4.trans k5) _ _ hc' hst) hst, by show h2.length ≤ h7.length; omega, I2⟩
    · have hps := I.done hi
      obtain ⟨F6, s6⟩ := L.sdC hc (by omega)
      simp [g624_0, hM, g7, g6, hi]
      exact hR _ _ ⟨_, F6, by rw [hg], by rw [saL, hg, if_pos rfl, ← hps]; exact s6, k02.trans hks, by omega, fun _ => ⟨d, i, by rw [saL, hg, if_pos rfl, ← hps]; exact I, by rw [saL, hg, if_pos rfl, ← hps]; exact hi⟩⟩
end GL

namespace GL
open Go

end GL

namespace GL
open Go

end GL

namespace GL
open Go

end GL

namespace GL
open Go

end GL

namespace GL
open Go

section
variable {α : Type} [Data α] {h : Heap} {v w : V} {xs zs : List α} {lo : Nat} {F G : List Nat}
theorem Od.appS (ho : Od lo h v xs F) (hs : SdF h w zs G) (hG : ∀ b ∈ G, ¬ vB v b) {bytes : Nat} (hb : bytes ≤ 2 ^ 8) (hl : xs.length + zs.length ≤ 2 ^ 30) {k : Nat} (hk : k = Data.sz α) :
    ∃ ys v' h' G', GL.rdS h k w zs.length = some ys ∧ appH k bytes v zs.length ys h = some (v', h') ∧ Od lo h' v' (xs ++ zs) (F ++ G') ∧ (∀ b ∈ G', b ∈ G) ∧ KeepsP (fun i => ¬ vB v i) h h' ∧ h.length ≤ h'.length := by
  obtain ⟨cs, G', e, hr, hm⟩ := hs.rdS
  subst hk
  by_cases h0 : zs.length = 0
  · have hz : zs = [] := List.length_eq_zero_iff.1 h0
    subst hz
    obtain ⟨rfl, rfl⟩ := hr
    obtain ⟨F', hsd, _⟩ := ho.sd
    have := hsd.len
    exact ⟨[], v, h, [], e, by simp [appH, this], by simpa using ho, by simp, KeepsP.refl _ _, Nat.le_refl _⟩
  · obtain ⟨v', h', e1, o', k', l', _⟩ := ho.app (zs := zs) (by omega) hr (fun b hb => hG b (hm b hb)) hb hl rfl rfl
    exact ⟨cs, v', h', G', e, e1, o', hm, k', by omega⟩
end

end GL

namespace GL
open Go

theorem l6EitherD_ok {h : Heap} {v w : V} {xs ys : List Int} (hx : Sl h v xs) (hy : Sl h w ys) (h1 : xs.Pairwise (· < ·)) (h2 : ys.Pairwise (· < ·)) (hl : xs.length ≤ 2 ^ 10) (hl2 : ys.length ≤ 2 ^ 10) : ∃ r h', call p 668 [v, w] h = some (r, h') ∧ ∃ G, SdF h' r (togI xs ys) G ∧ (∀ b ∈ G, h.length ≤ b) ∧ Keeps h h' ∧ h.length ≤ h'.length := by
  obtain ⟨er, v6, g1, e1, G6, s6, f6, k1, l1⟩ := appNew hx (by omega : xs.length ≤ 2 ^ 20) (k := 1) (bytes := 8) rfl (by decide)
  refine go (fn := g668) rfl rfl fun R hR => ?_
  simp [g668, upd, hx.len, er, e1, hy.len]
  refine Wc_upM (M := [5, 7, 13, 14, 15, 16, 17, 18, 19, 20]) rfl ys.length (fun i s => i ≤ ys.length ∧ s.σ 13 = .v (vi i) ∧ Keeps h s.h ∧ h.length ≤ s.h.length ∧ ∃ v5 zs G, s.σ 5 = .v v5 ∧ SdF s.h v5 zs G ∧ (∀ b ∈ G, h.length ≤ b) ∧ zs.Pairwise (· < ·) ∧ (∀ x, x ∈ zs ↔ x ∈ xs ∨ x ∈ ys.take i) ∧ zs.length ≤ xs.length + i) 0
    ⟨by omega, by simp, k1, l1, v6, xs, G6, by simp, s6, f6.ge, h1, by simp, by omega⟩ fun i s ⟨gi, g13, hk, hl0, v5, zs, G, g5, s5, hge, hr, hm, hn⟩ hM J hJ => ?_
  by_cases hi : i < ys.length
  · have hy' := hy.keeps hk
    have ix := hy'.idx 1 .i64 i hi
    have ld := hy'.loadI i hi
    have st := hy'.step hi
    simp only [Nat.mul_one] at ix
    have hm1 : ∀ x, x ∈ ys.take (i + 1) ↔ x ∈ ys.take i ∨ x = ys[i] := fun x => by rw [List.take_succ_eq_append_getElem hi, List.mem_append, List.mem_singleton]
    generalize ys[i] = n at *
    obtain ⟨v6', h3, e3, ys', G3, s3, r3, m3, n3, g3, k3, l3⟩ := l1Put_ok s5 hr (by omega) n
    simp [g668_0, hM, g13, g5, hi, ix, ld, e3, st]
    exact hJ _ hi ⟨hi, by simp, hk.trans k3, by show h.length ≤ h3.length; omega, v6', ys', G3, by simp, s3, fun b hb => by
      rcases g3 b hb with h | h
      · exact hge b h
      · omega, r3, fun x => by rw [m3, hm, hm1, or_assoc], by omega⟩
  · have : i = ys.length := by omega
    subst this
    rw [List.take_length] at hm
    have := togI_eq h1 h2 hr hm
    subst this
    simp [g668_0, hM, g13, g5]
    exact hR _ _ ⟨G, s5, hge, hk, hl0⟩

theorem SplitAllS_ok {h : Heap} {vf : V} {k : Nat} {fs : List Dp} {F : List Nat} (hf : SdF h vf fs F) (hk7 : k ≤ 7) :
    ∃ r h', call p 625 [vi k, vf] h = some (r, h') ∧ ∃ w G, r = .tup [w, .bool (okDps k fs)] ∧ SdF h' w (saL k fs) G ∧ Keeps h h' ∧ h.length ≤ h'.length := by
  have e1 := GoodDepsS_eq hf (k : Int)
  refine go (fn := g625) rfl rfl fun R hR => ?_
  cases hg : okDps k fs with
  | false =>
    rw [hg] at e1
    simp [g625, e1]
    exact hR _ _ ⟨.nils, [], by rw [hg], by rw [saL, hg]; exact SdF.nil, Keeps.refl _, Nat.le_refl _⟩
  | true =>
    rw [hg] at e1
    obtain ⟨hk, hfl, hd⟩ := okDps_in hg
    have hE := splE_le (k := k) (by omega)
    have wu : IntKind.u64.wrap (k : Int) = k := IntWalk.u64_in _ (by omega)
    have es := shl_v (k' := .u64) k (by omega)
    have hpp := Nat.two_pow_pos k
    have hp6 : 2 ^ k ≤ 2 ^ 6 := Nat.pow_le_pow_right (by decide) (by omega)
    have ws : IntKind.i64.wrap (((2 ^ k : Nat) : Int) - 1) = ((2 ^ k - 1 : Nat) : Int) := by
      generalize 2 ^ k = N at *
      rw [IntWalk.i64_in] <;> omega
    obtain ⟨t22, h2, e2, o2, k2, l2⟩ := l5List_ok (h := h) (k := k) (m := 2 ^ k - 1) (by omega) (by omega)
    rw [bits_all] at o2
    obtain ⟨G2, s2, f2⟩ := o2.fr
    have kl : Keeps h2 (h2 ++ [⟨.own, [t22]⟩]) := Keeps.append _ _
    have s0 : SdF (h2 ++ [⟨.own, [t22]⟩]) (.slice h2.length 0 1 (.k 1)) [upTo k] (h2.length :: G2) :=
      ⟨by simp, .inr ⟨h2.length, 0, .k 1, rfl, Nat.le_refl _, .inr ⟨⟨.own, [t22]⟩, [t22], G2, rfl, by simp, by simp, by simp [cut, Data.sz], .one ⟨t22, rfl, s2.keep kl⟩⟩⟩⟩
    generalize hN : 2 ^ k = N at *
    simp [g625, -binV_int, bv_sub, upd, e1, wu, es, ws, e2, s2.cells, s2.cell, fillL]
    refine Wc_dnM (M := [6, 7, 8, 9, 10, 24, 25, 26, 27, 28, 29, 30, 31, 32, 33, 34, 35, 36, 37, 38, 39, 40, 41, 42, 43, 44, 45, 46, 47, 48, 49, 50, 51, 52, 53, 54, 55, 56, 57, 58, 59, 60, 61, 62, 63, 64, 65, 66]) rfl (fun d s => ∃ (i : Nat) (v6 : V) (ps : List (List Int)) (F6 : List Nat), s.σ 7 = .v (vi i) ∧ s.σ 6 = .v v6 ∧ SdF s.h v6 ps F6 ∧ Keeps h s.h ∧ h.length ≤ s.h.length ∧ SpI k fs d i ps) (splE k)
      ⟨0, _, [upTo k], _, by simp, by simp, s0, k2.trans kl, by simp; omega, SpI.start⟩ fun d s ⟨i, v6, ps, F6, g7, g6, s6, hks, hls, I⟩ hM J hJ => ?_
    have hpl : ps.length ≤ 256 := by have := I.len; omega
    have n6 := s6.len
    by_cases hi : i < ps.length
    · obtain ⟨e, rfl⟩ := I.pos hi
      obtain ⟨r1, r2⟩ := I.ris _ (List.getElem_mem hi)
      obtain ⟨z, Gz, rz, sz, _⟩ := s6.loadL i hi
      have ix := s6.idx 1 .i64 i hi
      simp only [Nat.mul_one] at ix
      have w1 : IntKind.i64.wrap ((i : Int) + 1) = (i + 1 : Nat) := by rw [IntWalk.i64_in] <;> omega
      obtain ⟨_, h3, e3, x, y, F1, F2, rfl, s3x, s3y, k3, l3⟩ := l6Bad_ok (hf.keep hks) sz hd r1 r2 (by omega)
      cases hbd : badF k fs ps[i] with
      | none =>
        rw [hbd] at e3
        have e3 : call p 667 [vf, z] s.h = some (.tup [.agg [x, y], .bool false], h3) := e3
        simp [g625_0, hM, g7, g6, n6, hi, ix, rz, e3, fillL, upd, s3x.cells, s3x.cell, s3y.cells, s3y.cell, w1, -Int.natCast_add]
        exact hJ e _ (by omega) ⟨i + 1, v6, ps, F6, by simp, by simp [g6], s6.keep k3, hks.trans k3, by show h.length ≤ h3.length; omega, I.next hi hbd rfl⟩
      | some w =>
        obtain ⟨q1, q2, q3, q4, q5, q6, q7, q8⟩ := bad_facts r1 r2 hbd
        rw [hbd] at e3
        have e3 : call p 667 [vf, z] s.h = some (.tup [.agg [x, y], .bool true], h3) := e3
        have hfrm : frmB k fs ps[i] = w := by rw [frmB, hbd]; rfl
        have tr : (tosB k fs ps[i]).Pairwise (· < ·) := by rw [q7]; exact (r1.filter _).filter _
        have hpk := rising_len r1 r2
        have hwk := rising_len q2 q3
        have htk : (tosB k fs ps[i]).length ≤ ps[i].length := by rw [q7]; exact Nat.le_trans (List.length_filter_le ..) (List.length_filter_le ..)
        have I2 := I.split hi hbd rfl
        -- the first ones
        obtain ⟨u1, H1, c1, t1, m1, _⟩ := s6.sub (lo := none) (hi := some i) (i := 0) (j := i) rfl rfl (Nat.zero_le _) (by omega) (k := 1) rfl
        obtain ⟨u2, H2, c2, t2, m2, _⟩ := s6.sub (lo := some (i + 1)) (hi := none) (i := i + 1) (j := ps.length) rfl rfl (by omega) (Nat.le_refl _) (k := 1) rfl
        rw [List.drop_zero] at t1
        rw [List.take_length] at t2
        have hl1 : (ps.take i).length = i := by simp; omega
        have hl2 : (ps.drop (i + 1)).length = ps.length - (i + 1) := by simp
        have lt6 : ∀ b ∈ F6, b < h3.length := fun b hb => by have := (s6.keep k3).ltF hb; omega
        have ka : Keeps h3 (h3 ++ [⟨.own, []⟩]) := Keeps.append _ _
        have o0 : Od h3.length (h3 ++ [⟨.own, []⟩]) (.slice h3.length 0 0 (.k 0)) ([] : List (List Int)) [] := Od.empty (Nat.le_refl _) (by simp)
        obtain ⟨y1, v10, h4, J1, er1, e4, o4, _, k4, l4⟩ := o0.appS ((t1.keep k3).keep ka) (fun b hb hv => by have := (o0.ge hv).1; have := lt6 b (m1 b hb); omega) (bytes := 24) (by decide) (by simp; omega) (k := 1) rfl
        rw [hl1] at er1 e4
        rw [List.nil_append] at o4
        have k34 : Keeps h3 h4 := Keeps.far (n := h3.length) ka k4 (Nat.le_refl _) fun i hi hv => by have := (o0.ge hv).1; omega
        simp only [List.length_append, List.length_singleton] at l4
        have rz3 := rz
        have s64 := (s6.keep k3).keep k34
        obtain ⟨z4, _, rz4, _, _⟩ := s64.loadL i hi
        obtain ⟨t51, h5, e5, G5, s5, g5, k5, l5⟩ := l6EitherD_ok (s3x.keep k34).sl (s3y.keep k34).sl (by rw [hfrm]; exact q2) tr (by rw [hfrm]; omega) (by omega)
        obtain ⟨z5, _, rz5, _, _⟩ := (s64.keep k5).loadL i hi
        have keep1 : ∀ {ha hb : Heap} {za zb : V}, Keeps ha hb → rdH ha (bOf v6) (oOf v6 + i) 1 = some [za] → rdH hb (bOf v6) (oOf v6 + i) 1 = some [zb] → SdF ha v6 ps F6 → zb = za := fun {ha hb za zb} hk hra hrb hsa => by
          obtain ⟨blk, hb1, hb2⟩ := hsa.lt (hsa.bIn hi)
          have hb3 := hk _ _ hb1 hb2
          rw [rdH_at hb1 hb2] at hra
          rw [rdH_at hb3 hb2, hra] at hrb
          injection hrb with hrb
          injection hrb with hrb
          exact hrb.symm
        have ez4 : z4 = z := keep1 (k3.trans k34) rz rz4 s6
        have ez5 : z5 = z4 := keep1 k5 rz4 rz5 s64
        subst ez4
        rw [ez5] at rz5
        have sz5 := (sz.keep (k3.trans k34)).keep k5
        have sy5 := (s3y.keep k34).keep k5
        obtain ⟨t58, h6, e6, o6, k6, l6⟩ := l6Less_ok sz5.sl sy5.sl (by omega)
        have o6 : Out h5.length h6 t58 (outI ps[i] (tosB k fs ps[i])) := o6
        obtain ⟨G6, s58, f58⟩ := o6.fr
        -- the two
        have kn : Keeps h6 (h6 ++ [⟨.own, [t51, t58]⟩]) := Keeps.append _ _
        have k47 := (k5.trans k6).trans kn
        have o47 := o4.keeps (k47.p fun _ => True) (fun _ _ => trivial) (fun _ _ => trivial) (by simp; omega)
        have hrep : Reps (h6 ++ [⟨.own, [t51, t58]⟩]) [togI (frmB k fs ps[i]) (tosB k fs ps[i]), outI ps[i] (tosB k fs ps[i])] [t51, t58] (G5 ++ G6) := by
          have ra : Data.rep (α := List Int) (h6 ++ [⟨.own, [t51, t58]⟩]) (togI (frmB k fs ps[i]) (tosB k fs ps[i])) [t51] G5 := ⟨t51, rfl, (s5.keep k6).keep kn⟩
          have rb : Data.rep (α := List Int) (h6 ++ [⟨.own, [t51, t58]⟩]) (outI ps[i] (tosB k fs ps[i])) [t58] G6 := ⟨t58, rfl, s58.keep kn⟩
          exact (Reps.one ra).append (Reps.one rb)
        obtain ⟨v60, h8, e8, o8, k8, l8, _⟩ := o47.app (zs := [togI (frmB k fs ps[i]) (tosB k fs ps[i]), outI ps[i] (tosB k fs ps[i])]) (by simp) hrep (fun b hb hv => by
          have := (o4.ge hv).2
          rcases List.mem_append.1 hb with hb | hb
          · have := g5 b hb; omega
          · have := f58.ge b hb; omega) (bytes := 24) (by decide) (by simp; omega) (k := 1) (n := 2) rfl rfl
        have k48 : Keeps h3 h8 := Keeps.far (n := h3.length) (k34.trans k47) k8 (Nat.le_refl _) fun i hi hv => by have := (o4.ge hv).1; omega
        obtain ⟨y2, v66, h9, J2, er9, e9, o9, _, k9, l9⟩ := o8.appS ((t2.keep k3).keep k48) (fun b hb hv => by have := (o8.ge hv).1; have := lt6 b (m2 b hb); omega) (bytes := 24) (by decide) (by simp; omega) (k := 1) rfl
        rw [hl2] at er9 e9
        have k39 : Keeps h3 h9 := Keeps.far (n := h3.length) k48 k9 (Nat.le_refl _) fun i hi hv => by have := (o8.ge hv).1; omega
        obtain ⟨F9, s9, _⟩ := o9.sd
        have len1 := t1.len
        have len2 := t2.len
        rw [hl1] at len1
        rw [hl2] at len2
        have rd7 : rdS (h6 ++ [⟨.own, [t51, t58]⟩]) 1 (.slice h6.length 0 2 (.k 2)) 2 = some [t51, t58] := rdS_last (by simp)
        simp only [List.length_append, List.length_singleton] at l8
        simp [g625_0, hM, g7, g6, n6, hi, ix, rz, e3, fillL, upd, s3x.cells, s3x.cell, s3y.cells, s3y.cell, bounds, takeB, c1, c2, len1, len2, er1, e4, rz4, rz5, stable, stab1, e5, e6, s5.cells, s5.cell, s58.cells, s58.cell, rd7, e8, w1, er9, e9, -Int.natCast_add]
        exact hJ e _ (by omega) ⟨i, v66, _, F9, by simp [g7], by simp, s9, (hks.trans k3).trans k39, by show h.length ≤ h9.length; omega, I2⟩
    · have hps := I.done hi
      simp [g625_0, hM, g7, g6, n6, hi]
      refine Wc_upM (M := [11, 13, 69, 70, 71, 72, 73, 74, 75, 76, 77, 78, 79]) rfl ps.length (fun j t => j ≤ ps.length ∧ t.σ 69 = .v (vi j) ∧ Keeps s.h t.h ∧ s.h.length ≤ t.h.length ∧ ∃ v11 G, t.σ 11 = .v v11 ∧ OdF s.h.length t.h v11 (ps.take j) G) 0
        ⟨by omega, by simp, Keeps.refl _, Nat.le_refl _, .nils, [], by simp, by simpa using OdF.nil (Nat.le_refl _)⟩ fun j t ⟨gj, g69, hk1, hl1, v11, G11, g11, ho⟩ hM' J' hJ' => ?_
      by_cases hj : j < ps.length
      · have s6t := s6.keep hk1
        obtain ⟨z, Gz, rz, sz, _⟩ := s6t.loadL j hj
        have ix := s6t.idx 1 .i64 j hj
        simp only [Nat.mul_one] at ix
        have st := s6t.step hj
        have hpk := rising_len (I.ris _ (List.getElem_mem hj)).1 (I.ris _ (List.getElem_mem hj)).2
        obtain ⟨er, u, h5, e5, F5, s5, f5, k5, l5⟩ := appNew sz.sl (by omega : ps[j].length ≤ 2 ^ 20) (k := 1) (bytes := 8) rfl (by decide)
        obtain ⟨v', h6, e6, o6, kf, l6⟩ := ho.one k5 l5 f5 (x := ps[j]) (cs := [u]) ⟨u, rfl, s5⟩ (by simp; omega) (k := 1) (bytes := 24) rfl (by decide)
        have nz := sz.len
        simp [g625_1, hM', hM, g69, g11, hj, ix, rz, nz, er, e5, s5.cells, s5.cell, fillL, rdS_last, e6, st]
        exact hJ' _ hj ⟨hj, by simp, kf s.h hk1 (Nat.le_refl _), by show s.h.length ≤ h6.length; omega, v', G11 ++ F5, by simp, by rw [List.take_succ_eq_append_getElem hj]; exact o6⟩
      · have : j = ps.length := by omega
        subst this
        rw [List.take_length] at ho
        obtain ⟨Ff, sF, fF⟩ := ho.fresh
        simp [g625_1, hM', hM, g69, g11]
        exact hR _ _ ⟨v11, Ff, by rw [hg], by rw [saL, hg, if_pos rfl, ← hps]; exact sF, hks.trans hk1, by omega⟩
end GL

namespace GL
open Go

/-! draws -/
theorem drawGoodDeps_ok {h : Heap} {v : V} {bs : List Byte} (hs : Sl h v bs) : ∃ r h', call p 623 [v] h = some (r, h') ∧ ∃ (k : Nat) (o : V) (fs : List Dp) (F : List Nat), r = .tup [vi k, o] ∧ k ≤ 7 ∧ SdF h' o fs F ∧ Keeps h h' ∧ h.length ≤ h'.length := by
  have d0 := DC.start hs
  obtain ⟨_, h1, e1, k, rfl, hk, d1, k1, l1⟩ := d0.cols (by decide)
  obtain ⟨o, h2, e2, fs, F, s2, f2, d2, k2, l2⟩ := d1.deps (by decide) k (by omega)
  have e3 : ∃ r h', call p 643 [v] h = some (r, h') ∧ r = .tup [vi k, o] ∧ h' = h2 := by
    refine go (fn := g643) rfl rfl fun R hR => ?_
    simp [g643, hs.cells, hs.cell, fillL, e1, e2]
    exact hR _ _ ⟨rfl, rfl⟩
  obtain ⟨_, _, e3, rfl, rfl⟩ := e3
  refine go (fn := g623) rfl rfl fun R hR => ?_
  simp [g623, hs.cells, hs.cell, e3]
  simp at l1
  exact hR _ _ ⟨k, o, fs, F, rfl, hk, s2, d2.keep, by omega⟩
theorem drawBadIn_ok {h : Heap} {v : V} {bs : List Byte} (hs : Sl h v bs) : ∃ r h', call p 627 [v] h = some (r, h') ∧ ∃ (k : Nat) (o x : V) (fs : List Dp) (xs : List Int) (F Fx : List Nat), r = .tup [vi k, o, x] ∧ k ≤ 7 ∧ SdF h' o fs F ∧ SdF h' x xs Fx ∧ Keeps h h' ∧ h.length ≤ h'.length := by
  obtain ⟨_, h1, e1, k, o, x, fs, xs, F, Fx, rfl, q⟩ := drawClosure_ok hs
  refine go (fn := g627) rfl rfl fun R hR => ?_
  simp [g627, e1]
  exact hR _ _ ⟨k, o, x, fs, xs, F, Fx, rfl, q⟩
theorem pow_sub {k : Nat} (hk : k ≤ 20) : binV .sub (vi (2 ^ k : Nat)) (vi 1) = some (vi (2 ^ k - 1 : Nat)) := by
  have hpp := Nat.two_pow_pos k
  have hp6 : 2 ^ k ≤ 2 ^ 20 := Nat.pow_le_pow_right (by decide) hk
  rw [bv_sub]
  generalize 2 ^ k = N at *
  have ws : IntKind.i64.wrap (((N : Nat) : Int) - 1) = ((N - 1 : Nat) : Int) := by rw [IntWalk.i64_in] <;> omega
  rw [ws]
theorem drawSplitBy_ok {h : Heap} {v : V} {bs : List Byte} (hs : Sl h v bs) : ∃ r h', call p 631 [v] h = some (r, h') ∧ ∃ (k : Nat) (pt x y : V) (part a b : List Int) (Fp Fa Fb : List Nat), r = .tup [vi k, pt, .agg [x, y]] ∧ k ≤ 7 ∧ SdF h' pt part Fp ∧ SdF h' x a Fa ∧ SdF h' y b Fb ∧ a.length ≤ 2 ^ 10 ∧ Keeps h h' ∧ h.length ≤ h'.length := by
  have d0 := DC.start hs
  obtain ⟨_, h1, e1, k, rfl, hk, d1, k1, l1⟩ := d0.cols (by decide)
  have lt1 := d1.lt
  obtain ⟨u, h2, e2, us, o2, _, d2, k2, l2⟩ := d1.someCols (by decide) k (by omega)
  obtain ⟨Fu, su, fu⟩ := o2.fr
  obtain ⟨bb, h3, e3, d3, k3, l3⟩ := d2.one (by decide) 2 (by decide)
  have nu : ∀ b ∈ Fu, b ≠ h.length := fun b hb => by have := fu.ge b hb; omega
  have su3 := su.keeps (k3.P.mono nu)
  have wu : IntKind.u64.wrap (k : Int) = k := IntWalk.u64_in _ (by omega)
  have es := shl_v (k' := .u64) k (by omega)
  have ep := pow_sub (k := k) (by omega)
  simp at l1
  -- the rest, wherever the part lies
  have rest : ∀ (hh : Heap) (w : V) (part : List Int) (Fp : List Nat), SdF hh w part Fp → (∀ b ∈ Fp, b ≠ h.length) → DC h hh 500 → h.length < hh.length → ∃ x h5 t h6 y h7 a b Fp2 Fa Fb, call p 658 [.ptr h.length 0, vi k] hh = some (x, h5) ∧ call p 658 [.ptr h.length 0, vi k] h5 = some (t, h6) ∧ call p 548 [t, x] h6 = some (y, h7) ∧ SdF h7 w part Fp2 ∧ SdF h7 x a Fa ∧ SdF h7 y b Fb ∧ a.length ≤ 2 ^ 10 ∧ Keeps h h7 ∧ hh.length ≤ h7.length := fun hh w part Fp sp np dd hlt => by
    obtain ⟨x, h5, e5, a, o5, a5, d5, k5, l5⟩ := dd.someCols (by decide) k (by omega)
    obtain ⟨Fx, sx, fx⟩ := o5.fr
    obtain ⟨t, h6, e6, ts, o6, a6, d6, k6, l6⟩ := d5.someCols (by decide) k (by omega)
    obtain ⟨Ft, st, ft⟩ := o6.fr
    have nx : ∀ b ∈ Fx, b ≠ h.length := fun b hb => by have := fx.ge b hb; omega
    have sx6 := sx.keeps (k6.P.mono nx)
    have sp6 := (sp.keeps (k5.P.mono np)).keeps (k6.P.mono np)
    obtain ⟨y, h7, e7, o7, k7, l7⟩ := l6Less_ok st.sl sx6.sl (by omega)
    obtain ⟨Fy, sy, fy⟩ := o7.fr
    exact ⟨x, h5, t, h6, y, h7, a, _, Fp, Fx, Fy, e5, e6, e7, sp6.keep k7, sx6.keep k7, sy, by omega, d6.keep.trans k7, by omega⟩
  refine go (fn := g631) rfl rfl fun R hR => ?_
  cases bb with
  | true =>
    obtain ⟨w, h4, e4, o4, k4, l4⟩ := l5List_ok (h := h3) (k := k) (m := 2 ^ k - 1) (by have := Nat.two_pow_pos k; omega) (by omega)
    obtain ⟨Fw, sw, fw⟩ := o4.fr
    obtain ⟨x, h5, t, h6, y, h7, a, b, Fp2, Fa, Fb, q1, q2, q3, q4, q5, q6, q7, q8, q9⟩ := rest h4 w _ Fw sw (fun b hb => by have := fw.ge b hb; omega) ((d3.keeps k4).mono (by omega)) (by omega)
    generalize 2 ^ k = N at *
    simp [g631, -binV_int, upd, hs.cells, hs.cell, fillL, e1, e2, e3, wu, es, ep, e4, q1, q2, q3, q5.cells, q5.cell, q6.cells, q6.cell, resV, mkV]
    exact hR _ _ ⟨k, w, x, y, _, a, b, Fp2, Fa, Fb, rfl, hk, q4, q5, q6, q7, q8, by omega⟩
  | false =>
    obtain ⟨x, h5, t, h6, y, h7, a, b, Fp2, Fa, Fb, q1, q2, q3, q4, q5, q6, q7, q8, q9⟩ := rest h3 u _ Fu su3 nu (d3.mono (by omega)) (by omega)
    simp [g631, upd, hs.cells, hs.cell, fillL, e1, e2, e3, q1, q2, q3, q5.cells, q5.cell, q6.cells, q6.cell, resV, mkV]
    exact hR _ _ ⟨k, u, x, y, us, a, b, Fp2, Fa, Fb, rfl, hk, q4, q5, q6, q7, q8, by omega⟩
theorem drawIsKept_ok {h : Heap} {v : V} {bs : List Byte} (hs : Sl h v bs) : ∃ r h', call p 633 [v] h = some (r, h') ∧ ∃ (k : Nat) (o pt x y : V) (fs : List Dp) (part a b : List Int) (F Fp Fa Fb : List Nat), r = .tup [vi k, o, pt, .agg [x, y]] ∧ k ≤ 7 ∧ SdF h' o fs F ∧ SdF h' pt part Fp ∧ SdF h' x a Fa ∧ SdF h' y b Fb ∧ Keeps h h' ∧ h.length ≤ h'.length := by
  have d0 := DC.start hs
  obtain ⟨_, h1, e1, k, rfl, hk, d1, k1, l1⟩ := d0.cols (by decide)
  have lt1 := d1.lt
  obtain ⟨o, h2, e2, fs, F, s2, f2, d2, k2, l2⟩ := d1.deps (by decide) k (by omega)
  have nF : ∀ b ∈ F, b ≠ h.length := fun b hb => by have := f2 b hb; omega
  have wu : IntKind.u64.wrap (k : Int) = k := IntWalk.u64_in _ (by omega)
  have es := shl_v (k' := .u64) k (by omega)
  have ep := pow_sub (k := k) (by omega)
  obtain ⟨w, h3, e3, o3, k3, l3⟩ := l5List_ok (h := h2) (k := k) (m := 2 ^ k - 1) (by have := Nat.two_pow_pos k; omega) (by omega)
  obtain ⟨Fw, sw, fw⟩ := o3.fr
  have nw : ∀ b ∈ Fw, b ≠ h.length := fun b hb => by have := fw.ge b hb; omega
  obtain ⟨bb, h4, e4, d4, k4, l4⟩ := (d2.keeps k3).one (by decide) 4 (by decide)
  have s24 := (s2.keep k3).keeps (k4.P.mono nF)
  have sw4 := sw.keeps (k4.P.mono nw)
  simp at l1
  have em : max (0 : Int) (k : Int) = k := by omega
  have rest : ∀ (hh : Heap) (w : V) (part : List Int) (Fp : List Nat), SdF hh o fs F → SdF hh w part Fp → (∀ b ∈ Fp, b ≠ h.length) → DC h hh 5000 → h.length < hh.length → ∃ x h5 y h6 a b F2 Fp2 Fa Fb, call p 658 [.ptr h.length 0, vi k] hh = some (x, h5) ∧ call p 658 [.ptr h.length 0, vi k] h5 = some (y, h6) ∧ SdF h6 o fs F2 ∧ SdF h6 w part Fp2 ∧ SdF h6 x a Fa ∧ SdF h6 y b Fb ∧ Keeps h h6 ∧ hh.length ≤ h6.length := fun hh w part Fp so sp np dd hlt => by
    obtain ⟨x, h5, e5, a, o5, a5, d5, k5, l5⟩ := dd.someCols (by decide) k (by omega)
    obtain ⟨Fx, sx, fx⟩ := o5.fr
    obtain ⟨t, h6, e6, ts, o6, a6, d6, k6, l6⟩ := d5.someCols (by decide) k (by omega)
    obtain ⟨Ft, st, ft⟩ := o6.fr
    have nx : ∀ b ∈ Fx, b ≠ h.length := fun b hb => by have := fx.ge b hb; omega
    exact ⟨x, h5, t, h6, a, ts, F, Fp, Fx, Ft, e5, e6, (so.keeps (k5.P.mono nF)).keeps (k6.P.mono nF), (sp.keeps (k5.P.mono np)).keeps (k6.P.mono np), sx.keeps (k6.P.mono nx), st, d6.keep, by omega⟩
  refine go (fn := g633) rfl rfl fun R hR => ?_
  cases bb with
  | true =>
    obtain ⟨u, h5, e5, us, o5, _, d5, k5, l5⟩ := d4.someCols (by decide) k (by omega)
    obtain ⟨Fu, su, fu⟩ := o5.fr
    have nu : ∀ b ∈ Fu, b ≠ h.length := fun b hb => by have := fu.ge b hb; omega
    obtain ⟨x, h6, y, h7, a, b, F2, Fp2, Fa, Fb, q1, q2, q3, q4, q5, q6, q7, q8⟩ := rest h5 u us Fu (s24.keeps (k5.P.mono nF)) su nu (d5.mono (by omega)) (by omega)
    generalize 2 ^ k = N at *
    simp [g633, -binV_int, upd, hs.cells, hs.cell, fillL, e1, e2, em, wu, es, ep, e3, e4, e5, q1, q2, q5.cells, q5.cell, q6.cells, q6.cell, resV, mkV]
    exact hR _ _ ⟨k, o, u, x, y, fs, us, a, b, F2, Fp2, Fa, Fb, rfl, hk, q3, q4, q5, q6, q7, by omega⟩
  | false =>
    obtain ⟨x, h6, y, h7, a, b, F2, Fp2, Fa, Fb, q1, q2, q3, q4, q5, q6, q7, q8⟩ := rest h4 w _ Fw s24 sw4 nw (d4.mono (by omega)) (by omega)
    generalize 2 ^ k = N at *
    simp [g633, -binV_int, upd, hs.cells, hs.cell, fillL, e1, e2, em, wu, es, ep, e3, e4, q1, q2, q5.cells, q5.cell, q6.cells, q6.cell, resV, mkV]
    exact hR _ _ ⟨k, o, w, x, y, fs, _, a, b, F2, Fp2, Fa, Fb, rfl, hk, q3, q4, q5, q6, q7, by omega⟩
end GL

namespace GL
open Go

theorem upd_offA {f : Nat → T} {i k : Nat} {x : T} (h : k ≠ i) : upd f i x k = f k := if_neg h
/-- no part tells some of itself -/
theorem apart_bad {vs vf : V} {H : Heap} {k : Nat} {fs : List Dp} {ps : List (List Int)} {F G : List Nat} (hf : SdF H vf fs F) (hs : SdF H vs ps G) (hall : ∀ p ∈ ps, badF k fs p = none) (s0 : S) (K : Ex → S → Prop)
    (g5 : s0.σ 5 = .v (vi k)) (g6 : s0.σ 6 = .v vf) (g81 : s0.σ 81 = .v vs) (g82 : s0.σ 82 = .v (vi ps.length)) (g83 : s0.σ 83 = .v (vi 0)) (gh : s0.h = H)
    (hK : ∀ s, Keeps H s.h → H.length ≤ s.h.length → (∀ k, k ∉ [4, 12, 13, 14, 83, 84, 85, 86, 87, 88, 89, 90, 91, 92, 93, 94, 95] → s.σ k = s0.σ k) → K (.exit 0) s) : Wc p (.loop g622_0) s0 K := by
  refine Wc_upM (M := [4, 12, 13, 14, 83, 84, 85, 86, 87, 88, 89, 90, 91, 92, 93, 94, 95]) rfl ps.length (fun i s => s.σ 83 = .v (vi i) ∧ Keeps H s.h ∧ H.length ≤ s.h.length) 0
    ⟨g83, by rw [gh]; exact Keeps.refl _, by rw [gh]; exact Nat.le_refl _⟩ fun i s ⟨g83, hk, hl⟩ hM J hJ => ?_
  by_cases hi : i < ps.length
  · have hs' := hs.keep hk
    obtain ⟨z, Gz, rz, sz, _⟩ := hs'.loadL i hi
    have ix := hs'.idx 1 .i64 i hi
    simp only [Nat.mul_one] at ix
    have st := hs'.step hi
    obtain ⟨_, h2, e2, x, y, F1, F2, rfl, s1, s2, k2, l2⟩ := BadIn_ok (k := k) (hf.keep hk) sz
    have hb : biB k fs ps[i] = false := by rw [biB, hall _ (List.getElem_mem hi)]; simp
    rw [hb] at e2
    simp [g622_0, hM, g5, g6, g81, g82, g83, hi, ix, rz, e2, fillL, upd, resV, mkV, s1.cells, s1.cell, s2.cells, s2.cell, st]
    exact hJ _ hi ⟨by simp, hk.trans k2, by show H.length ≤ h2.length; omega⟩
  · simp [g622_0, hM, g82, g83, hi]
    exact hK _ hk hl (fun k hk' => (upd_offA (fun e => hk' (by rw [e]; decide))).trans (hM k hk'))
/-- all columns are in some part -/
theorem apart_cols {vs : V} {H : Heap} {k : Nat} {ps : List (List Int)} {G : List Nat} (hk7 : k ≤ 7) (hs : SdF H vs ps G) (hall : ∀ x : Nat, x < k → ∃ p ∈ ps, (x : Int) ∈ p) (s0 : S) (K : Ex → S → Prop)
    (g5 : s0.σ 5 = .v (vi k)) (g7 : s0.σ 7 = .v vs) (g15 : s0.σ 15 = .v (vi 0)) (gh : s0.h = H)
    (hK : ∀ s, s.h = H → (∀ k, k ∉ [4, 15, 16, 18, 96, 97, 98, 99, 100, 101, 102, 103, 104, 105, 106, 107, 108, 109, 110, 111, 112, 113, 114, 115] → s.σ k = s0.σ k) → K (.exit 2) s) : Wc p (.loop g622_2) s0 K := by
  refine Wc_upM (M := [4, 15, 16, 18, 96, 97, 98, 99, 100, 101, 102, 103, 104, 105, 106, 107, 108, 109, 110, 111, 112, 113, 114, 115]) rfl k (fun i s => i ≤ k ∧ s.σ 15 = .v (vi i) ∧ s.h = H) 0 ⟨by omega, g15, gh⟩ fun i s ⟨gi, g15, gh⟩ hM J hJ => ?_
  have ns := hs.len
  by_cases hi : i < k
  · have hic : (i : Int) < (k : Int) := by omega
    have wi : IntKind.i64.wrap ((i : Int) + 1) = (i + 1 : Nat) := by rw [IntWalk.i64_in] <;> omega
    simp [g622_2, hM, g5, g7, g15, gh, hi, ns]
    refine Wc_upM (M := [16, 18, 103, 104, 105, 106, 107, 108, 109, 110, 111, 112, 113]) rfl ps.length (fun j t => j ≤ ps.length ∧ t.σ 103 = .v (vi j) ∧ t.h = H ∧ t.σ 16 = .v (.bool ((ps.take j).any fun p => decide ((i : Int) ∈ p)))) 0 ⟨by omega, by simp, rfl, by simp⟩ fun j t ⟨gj, g103, gth, g16⟩ hM2 J2 hJ2 => ?_
    by_cases hj : j < ps.length
    · obtain ⟨z, Gz, rz, sz, _⟩ := hs.loadL j hj
      have ix := hs.idx 1 .i64 j hj
      simp only [Nat.mul_one] at ix
      have st := hs.step hj
      have eh := has_eq sz.sl (i : Int)
      have hT : (ps.take (j + 1)).any (fun p => decide ((i : Int) ∈ p)) = ((ps.take j).any (fun p => decide ((i : Int) ∈ p)) || decide ((i : Int) ∈ ps[j])) := by
        rw [List.take_succ_eq_append_getElem hj, List.any_append]; simp
      cases hb : (ps.take j).any fun p => decide ((i : Int) ∈ p) with
      | true =>
        rw [hb] at g16 hT
        rw [Bool.true_or] at hT
        simp [g622_1, hM2, hM, g103, gth, g15, g16, hj, ix, rz, st]
        exact hJ2 _ hj ⟨hj, by simp, rfl, by rw [hT]; simp⟩
      | false =>
        rw [hb] at g16 hT
        rw [Bool.false_or] at hT
        rw [← hT] at eh
        generalize ((ps.take (j + 1)).any fun p => decide ((i : Int) ∈ p)) = b at *
        simp [g622_1, hM2, hM, g103, gth, g15, g16, hj, ix, rz, eh, st]
        exact hJ2 _ hj ⟨hj, by simp, rfl, by simp⟩
    · have : j = ps.length := by omega
      subst this
      have hy : ((ps.take ps.length).any fun p => decide ((i : Int) ∈ p)) = true := by
        rw [List.take_length]
        obtain ⟨p, hp, hx⟩ := hall i hi
        exact List.any_eq_true.2 ⟨p, hp, by simpa using hx⟩
      rw [hy] at g16
      simp [g622_1, hM2, hM, g103, gth, g15, g16, wi, -Int.natCast_add]
      exact hJ _ hi ⟨hi, by simp, rfl⟩
  · have hic : ¬ (i : Int) < (k : Int) := by omega
    simp [g622_2, hM, g5, g15, gh, hi]
    refine hK _ rfl (fun k hk' => ?_)
    refine Eq.trans ?_ (hM k hk')
    first
      | exact (upd_offA (fun e => hk' (by rw [e]; decide))).trans ((upd_offA (fun e => hk' (by rw [e]; decide))).trans (upd_offA (fun e => hk' (by rw [e]; decide))))
      | exact (upd_offA (fun e => hk' (by rw [e]; decide))).trans (upd_offA (fun e => hk' (by rw [e]; decide)))
      | exact upd_offA (fun e => hk' (by rw [e]; decide))

/-- what a bad part gives -/
theorem bad_good {k : Nat} {fs : List Dp} {part : List Int} (hb : biB k fs part = true) : sbB k part (biF k fs part) (biT k fs part) = true ∧ ikB k fs part (biF k fs part) (biT k fs part) = true ∧ ikV k fs part (biF k fs part) (biT k fs part) = true ∧ (sbL k part (biF k fs part) (biT k fs part)).length < part.length ∧ (sbR k part (biF k fs part) (biT k fs part)).length < part.length ∧ (biF k fs part).length ≤ 2 ^ 10 := by
  simp only [biB, Bool.and_eq_true] at hb
  obtain ⟨ho, hs⟩ := hb
  obtain ⟨s, hs⟩ := Option.isSome_iff_exists.1 hs
  have ho' := ho
  simp only [biO, Bool.and_eq_true] at ho'
  obtain ⟨hk, _, hd⟩ := okDps_in ho'.1
  obtain ⟨i1, i2⟩ := ris_in ho'.2
  obtain ⟨f1, f2, f3, f4, f5, f6, f7, f8⟩ := bad_facts i2 i1 hs
  have hF : biF k fs part = s := by rw [biF, if_pos ho, frmB, hs]; rfl
  have hT : biT k fs part = tosB k fs part := by rw [biT, if_pos ho]
  rw [hF, hT]
  have hsub : ∀ x ∈ s, x ∈ part := fun x hx => (List.mem_filter.1 (f1 x hx)).1
  have htol : ∀ x ∈ tosB k fs part, x ∈ tolL k fs part s ∧ x ∉ s := fun x hx => by
    rw [f7] at hx
    have := List.mem_filter.1 hx
    exact ⟨this.1, by simpa using this.2⟩
  have htp : ∀ x ∈ tosB k fs part, x ∈ part := fun x hx => (List.mem_filter.1 (htol x hx).1).1
  have htr : (tosB k fs part).Pairwise (· < ·) := by rw [f7]; exact (i2.filter _).filter _
  have p1 : partB part s = true := by simp only [partB, Bool.and_eq_true, List.all_eq_true, decide_eq_true_eq]; exact ⟨hsub, f2⟩
  have p2 : partB part (tosB k fs part) = true := by simp only [partB, Bool.and_eq_true, List.all_eq_true, decide_eq_true_eq]; exact ⟨htp, htr⟩
  have hc : (comI s (tosB k fs part)).length = 0 := by
    have : comI s (tosB k fs part) = [] := List.filter_eq_nil_iff.2 fun x hx => by
      have : x ∉ tosB k fs part := fun h => (htol x h).2 hx
      simpa using this
    rw [this]; rfl
  have hsb : sbB k part s (tosB k fs part) = true := by simp only [sbB, hk, ho'.2, p1, p2, hc]; simp
  have hik : ikB k fs part s (tosB k fs part) = true := by simp [ikB, ho'.1, ho'.2, p1, p2]
  refine ⟨hsb, hik, ?_, ?_, ?_, by have := rising_len f2 f3; omega⟩
  · rw [ikV, hik, Bool.true_and, impD]
    simp only [List.all_eq_true, decide_eq_true_eq]
    intro x hx
    have := (List.mem_filter.1 (htol x hx).1).2
    simpa using this
  · rw [sbL, if_pos hsb, f4]; exact f5
  · rw [sbR, if_pos hsb]; exact f6

/-- the law's last part -/
theorem apart_tail {H : Heap} {vb : V} {bs : List Byte} (hb : Sl H vb bs) : ∃ (m : Nat) (pt x y : V) (h1 : Heap) (a1 b1 : V) (ok : Bool) (h2 : Heap) (a2 b2 : V) (h3 : Heap) (n : Nat) (q pt2 x2 y2 : V) (h4 : Heap) (kv kb : Bool) (h5 h6 : Heap),
    call p 631 [vb] H = some (.tup [vi m, pt, .agg [x, y]], h1) ∧ call p 629 [vi m, pt, .agg [x, y]] h1 = some (.tup [a1, b1, .bool ok], h2) ∧ call p 632 [vi m, pt, .agg [x, y]] h2 = some (.tup [a2, b2, .bool ok], h3) ∧ call p 633 [vb] h3 = some (.tup [vi n, q, pt2, .agg [x2, y2]], h4) ∧
    call p 630 [vi n, q, pt2, .agg [x2, y2]] h4 = some (.tup [.bool kv, .bool kb], h5) ∧ call p 634 [vi n, q, pt2, .agg [x2, y2]] h5 = some (.tup [.bool kv, .bool kb], h6) ∧ call p 24 [a1, a2] h6 = some (.bool true, h6) ∧ call p 24 [b1, b2] h6 = some (.bool true, h6) ∧
    (x.cells = [x] ∧ x.cell = true) ∧ (y.cells = [y] ∧ y.cell = true) ∧ (x2.cells = [x2] ∧ x2.cell = true) ∧ (y2.cells = [y2] ∧ y2.cell = true) := by
  obtain ⟨_, h1, e1, m, pt, x, y, part, a, b, Fp, Fa, Fb, rfl, hm, sp, sa, sb, al, k1, l1⟩ := drawSplitBy_ok hb
  obtain ⟨_, h2, e2, a1, b1, rfl, s1, t1, k2, l2⟩ := SplitBy_ok (k := m) sp sa sb al
  obtain ⟨_, h3, e3, a2, b2, rfl, s2, t2, k3, l3⟩ := SplitByS_ok (k := m) (sp.keep k2) (sa.keep k2) (sb.keep k2) al hm
  have k13 := (k1.trans k2).trans k3
  obtain ⟨_, h4, e4, n, q, pt2, x2, y2, fs, part2, c, d, F4, Fp2, Fc, Fd, rfl, hn, sf, sp2, sc, sd, k4, l4⟩ := drawIsKept_ok (hb.keeps k13)
  obtain ⟨_, h5, e5, rfl, k5, l5⟩ := IsKept_ok (k := n) sf sp2 sc sd
  obtain ⟨_, h6, e6, rfl, k6, l6⟩ := IsKeptS_ok (k := n) (sf.keep k5) (sp2.keep k5) (sc.keep k5) (sd.keep k5) hn
  have k46 := (k4.trans k5).trans k6
  refine ⟨m, pt, x, y, h1, a1, b1, _, h2, a2, b2, h3, n, q, pt2, x2, y2, h4, _, _, h5, h6, e1, e2, e3, e4, e5, e6, ?_, ?_, ⟨sa.cells, sa.cell⟩, ⟨sb.cells, sb.cell⟩, ⟨sc.cells, sc.cell⟩, ⟨sd.cells, sd.cell⟩⟩
  · rw [sameInts_eq (s1.keeps (k3.trans k46)) (s2.keeps k46)]; simp
  · rw [sameInts_eq (t1.keeps (k3.trans k46)) (t2.keeps k46)]; simp
/-- the law's middle -/
theorem apart_mid {H : Heap} {vb : V} {bs : List Byte} (hb : Sl H vb bs) : ∃ (n : Nat) (q pt x1 y1 x2 y2 : V) (ok : Bool) (l : Int) (h1 h2 h3 : Heap),
    call p 627 [vb] H = some (.tup [vi n, q, pt], h1) ∧ call p 626 [vi n, q, pt] h1 = some (.tup [.agg [x1, y1], .bool ok], h2) ∧ call p 628 [vi n, q, pt] h2 = some (.tup [.agg [x2, y2], .bool ok], h3) ∧ call p 24 [x1, x2] h3 = some (.bool true, h3) ∧ call p 24 [y1, y2] h3 = some (.bool true, h3) ∧
    (x1.cells = [x1] ∧ x1.cell = true) ∧ (y1.cells = [y1] ∧ y1.cell = true) ∧ (x2.cells = [x2] ∧ x2.cell = true) ∧ (y2.cells = [y2] ∧ y2.cell = true) ∧ Keeps H h3 ∧
    (ok = true → ∃ (a b : V) (la lb lp : Nat) (h4 h5 : Heap), call p 629 [vi n, pt, .agg [x1, y1]] h3 = some (.tup [a, b, .bool true], h4) ∧ call p 630 [vi n, q, pt, .agg [x1, y1]] h4 = some (.tup [.bool true, .bool true], h5) ∧ lenV a = some la ∧ lenV b = some lb ∧ lenV pt = some lp ∧ la < lp ∧ lb < lp ∧ Keeps h3 h5) := by
  obtain ⟨_, h1, e1, n, q, pt, fs, part, F, Fp, rfl, hn, sf, sp, k1, l1⟩ := drawBadIn_ok hb
  obtain ⟨_, h2, e2, x1, y1, F1, F2, rfl, s1, t1, k2, l2⟩ := BadIn_ok (k := n) sf sp
  obtain ⟨_, h3, e3, x2, y2, F3, F4, rfl, s2, t2, k3, l3⟩ := BadInS_ok (k := n) (sf.keep k2) (sp.keep k2) hn
  refine ⟨n, q, pt, x1, y1, x2, y2, _, 0, h1, h2, h3, e1, e2, e3, ?_, ?_, ⟨s1.cells, s1.cell⟩, ⟨t1.cells, t1.cell⟩, ⟨s2.cells, s2.cell⟩, ⟨t2.cells, t2.cell⟩, (k1.trans k2).trans k3, fun hok => ?_⟩
  · rw [sameInts_eq (s1.keep k3).sl s2.sl]; simp
  · rw [sameInts_eq (t1.keep k3).sl t2.sl]; simp
  · obtain ⟨g1, g2, g3, g4, g5, g6⟩ := bad_good hok
    have sp3 := sp.keep (k2.trans k3)
    obtain ⟨_, h4, e4, a, b, rfl, sa, sb, k4, l4⟩ := SplitBy_ok (k := n) sp3 (s1.keep k3) (t1.keep k3) g6
    rw [g1] at e4
    obtain ⟨_, h5, e5, rfl, k5, l5⟩ := IsKept_ok (k := n) ((sf.keep (k2.trans k3)).keep k4) (sp3.keep k4) ((s1.keep k3).keep k4) ((t1.keep k3).keep k4)
    rw [g2, g3] at e5
    exact ⟨a, b, _, _, _, h4, h5, e4, e5, sa.len, sb.len, sp.len, g4, g5, k4.trans k5⟩

set_option maxRecDepth 20000 in
theorem FnApart_ok {h : Heap} {va vb : V} {az bs : List Byte} (ha : Sl h va az) (hb : Sl h vb bs) : ∃ r h', call p 622 [va, vb] h = some (r, h') ∧ r = .bool true := by
  refine go (fn := g622) rfl rfl fun R hR => ?_
  by_cases hbig : (1048576 : Int) < IntKind.i64.wrap ((az.length : Int) + bs.length)
  · simp [g622, ha.len, hb.len, hbig]
    exact hR _ _ rfl
  · obtain ⟨_, h1, e1, k, o, fs, F, rfl, hk, sf, k1, l1⟩ := drawGoodDeps_ok ha
    obtain ⟨_, h2, e2, w1, G1, rfl, s1, k2, l2, hall⟩ := SplitAll_ok (k := k) sf
    obtain ⟨_, h3, e3, w2, G2, rfl, s2, k3, l3⟩ := SplitAllS_ok (k := k) (sf.keep k2) hk
    have e4 := sameRows_same (s1.keep k3) s2
    have k13 := (k1.trans k2).trans k3
    -- from the middle on
    have tail : ∀ (H : Heap), Keeps h H → ∃ (n : Nat) (q pt x1 y1 x2 y2 : V) (ok : Bool) (h1 h2 h3 : Heap) (a b : V) (la lb lp : Nat) (h4 h5 : Heap) (m : Nat) (pt2 x3 y3 : V) (g1 : Heap) (a1 b1 : V) (ok2 : Bool) (g2 : Heap) (a2 b2 : V) (g3 : Heap) (n2 : Nat) (q2 pt3 x4 y4 : V) (g4 : Heap) (kv kb : Bool) (g5 g6 : Heap),
        (call p 627 [vb] H = some (.tup [vi n, q, pt], h1) ∧ call p 626 [vi n, q, pt] h1 = some (.tup [.agg [x1, y1], .bool ok], h2) ∧ call p 628 [vi n, q, pt] h2 = some (.tup [.agg [x2, y2], .bool ok], h3) ∧ call p 24 [x1, x2] h3 = some (.bool true, h3) ∧ call p 24 [y1, y2] h3 = some (.bool true, h3) ∧
        (x1.cells = [x1] ∧ x1.cell = true) ∧ (y1.cells = [y1] ∧ y1.cell = true) ∧ (x2.cells = [x2] ∧ x2.cell = true) ∧ (y2.cells = [y2] ∧ y2.cell = true) ∧
        (ok = true → call p 629 [vi n, pt, .agg [x1, y1]] h3 = some (.tup [a, b, .bool true], h4) ∧ call p 630 [vi n, q, pt, .agg [x1, y1]] h4 = some (.tup [.bool true, .bool true], h5) ∧ lenV a = some la ∧ lenV b = some lb ∧ lenV pt = some lp ∧ la < lp ∧ lb < lp) ∧ (ok = false → h5 = h3)) ∧
        (call p 631 [vb] h5 = some (.tup [vi m, pt2, .agg [x3, y3]], g1) ∧ call p 629 [vi m, pt2, .agg [x3, y3]] g1 = some (.tup [a1, b1, .bool ok2], g2) ∧ call p 632 [vi m, pt2, .agg [x3, y3]] g2 = some (.tup [a2, b2, .bool ok2], g3) ∧ call p 633 [vb] g3 = some (.tup [vi n2, q2, pt3, .agg [x4, y4]], g4) ∧
        call p 630 [vi n2, q2, pt3, .agg [x4, y4]] g4 = some (.tup [.bool kv, .bool kb], g5) ∧ call p 634 [vi n2, q2, pt3, .agg [x4, y4]] g5 = some (.tup [.bool kv, .bool kb], g6) ∧ call p 24 [a1, a2] g6 = some (.bool true, g6) ∧ call p 24 [b1, b2] g6 = some (.bool true, g6) ∧
        (x3.cells = [x3] ∧ x3.cell = true) ∧ (y3.cells = [y3] ∧ y3.cell = true) ∧ (x4.cells = [x4] ∧ x4.cell = true) ∧ (y4.cells = [y4] ∧ y4.cell = true)) := fun H hkH => by
      obtain ⟨n, q, pt, x1, y1, x2, y2, ok, _, h1, h2, h3, m1, m2, m3, m4, m5, c1, c2, c3, c4, kk, more⟩ := apart_mid (hb.keeps hkH)
      cases ok with
      | true =>
        obtain ⟨a, b, la, lb, lp, h4, h5, p1, p2, p3, p4, p5, p6, p7, p8⟩ := more rfl
        obtain ⟨m, pt2, x3, y3, g1, a1, b1, ok2, g2, a2, b2, g3, n2, q2, pt3, x4, y4, g4, kv, kb, g5, g6, rest⟩ := apart_tail (hb.keeps ((hkH.trans kk).trans p8))
        exact ⟨n, q, pt, x1, y1, x2, y2, true, h1, h2, h3, a, b, la, lb, lp, h4, h5, m, pt2, x3, y3, g1, a1, b1, ok2, g2, a2, b2, g3, n2, q2, pt3, x4, y4, g4, kv, kb, g5, g6, ⟨m1, m2, m3, m4, m5, c1, c2, c3, c4, fun _ => ⟨p1, p2, p3, p4, p5, p6, p7⟩, (nomatch ·)⟩, rest⟩
      | false =>
        obtain ⟨m, pt2, x3, y3, g1, a1, b1, ok2, g2, a2, b2, g3, n2, q2, pt3, x4, y4, g4, kv, kb, g5, g6, rest⟩ := apart_tail (hb.keeps (hkH.trans kk))
        exact ⟨n, q, pt, x1, y1, x2, y2, false, h1, h2, h3, pt, pt, 0, 0, 0, h3, h3, m, pt2, x3, y3, g1, a1, b1, ok2, g2, a2, b2, g3, n2, q2, pt3, x4, y4, g4, kv, kb, g5, g6, ⟨m1, m2, m3, m4, m5, c1, c2, c3, c4, (nomatch ·), fun _ => rfl⟩, rest⟩
    cases hok : okDps k fs with
    | false =>
      rw [hok] at e2 e3
      obtain ⟨n, q, pt, x1, y1, x2, y2, ok, i1, i2, i3, a, b, la, lb, lp, i4, i5, m, pt2, x3, y3, g1, a1, b1, ok2, g2, a2, b2, g3, n2, q2, pt3, x4, y4, g4, kv, kb, g5, g6, ⟨m1, m2, m3, m4, m5, c1, c2, c3, c4, mt, mf⟩, t1, t2, t3, t4, t5, t6, t7, t8, d1, d2, d3, d4⟩ := tail h3 k13
      cases ok with
      | true =>
        obtain ⟨p1, p2, p3, p4, p5, p6, p7⟩ := mt rfl
        have q6 : ¬ lp ≤ la := by omega
        have q7 : ¬ lp ≤ lb := by omega
        simp [g622, ha.len, hb.len, hbig, fillL, upd, resV, mkV, e1, e2, e3, e4, m1, m2, m3, m4, m5, c1, c2, c3, c4, p1, p2, p3, p4, p5, q6, q7, t1, t2, t3, t4, t5, t6, t7, t8, d1, d2, d3, d4]
        exact hR _ _ rfl
      | false =>
        have hi5 := mf rfl
        subst hi5
        simp [g622, ha.len, hb.len, hbig, fillL, upd, resV, mkV, e1, e2, e3, e4, m1, m2, m3, m4, m5, c1, c2, c3, c4, t1, t2, t3, t4, t5, t6, t7, t8, d1, d2, d3, d4]
        exact hR _ _ rfl
    | true =>
      obtain ⟨dd, ii, I, hii⟩ := hall hok
      have hgood : ∀ p ∈ saL k fs, badF k fs p = none := fun p hp => I.good p (by rw [List.take_of_length_le (by omega)]; exact hp)
      rw [hok] at e2 e3
      have ns := s1.len
      simp [g622, ha.len, hb.len, hbig, fillL, upd, resV, mkV, e1, e2, e3, e4, ns]
      refine apart_bad (k := k) (sf.keep (k2.trans k3)) (s1.keep k3) hgood _ _ (by simp) (by simp) (by simp) (by simp) (by simp) rfl fun s hk1 hl1 hM1 => ?_
      have m5' := hM1 5 (by decide)
      have m7' := hM1 7 (by decide)
      have m1' := hM1 1 (by decide)
      simp at m5' m7' m1'
      simp
      refine apart_cols (k := k) hk ((s1.keep k3).keep hk1) I.all _ _ (by simp [m5']) (by simp [m7']) (by simp) rfl fun s2' gh2 hM2 => ?_
      have n1' := hM2 1 (by decide)
      simp [m1'] at n1'
      obtain ⟨n, q, pt, x1, y1, x2, y2, ok, i1, i2, i3, a, b, la, lb, lp, i4, i5, m, pt2, x3, y3, g1, a1, b1, ok2, g2, a2, b2, g3, n2, q2, pt3, x4, y4, g4, kv, kb, g5, g6, ⟨m1, m2, m3, m4, m5, c1, c2, c3, c4, mt, mf⟩, t1, t2, t3, t4, t5, t6, t7, t8, d1, d2, d3, d4⟩ := tail s.h (k13.trans hk1)
      cases ok with
      | true =>
        obtain ⟨p1, p2, p3, p4, p5, p6, p7⟩ := mt rfl
        have q6 : ¬ lp ≤ la := by omega
        have q7 : ¬ lp ≤ lb := by omega
        simp [gh2, n1', fillL, upd, resV, mkV, m1, m2, m3, m4, m5, c1, c2, c3, c4, p1, p2, p3, p4, p5, q6, q7, t1, t2, t3, t4, t5, t6, t7, t8, d1, d2, d3, d4]
        exact hR _ _ rfl
      | false =>
        have hi5 := mf rfl
        subst hi5
        simp [gh2, n1', fillL, upd, resV, mkV, m1, m2, m3, m4, m5, c1, c2, c3, c4, t1, t2, t3, t4, t5, t6, t7, t8, d1, d2, d3, d4]
        exact hR _ _ rfl
end GL

