import Derived.ChangeArms
import Derived.IntWalk
import Derived.WideShapes
import Derived.Test.YtkmggfhfefaehaaGreatGuFnLosslessA
/- What the functions of the law do, on the machine. -/
set_option linter.unusedSimpArgs false
set_option linter.unusedVariables false
set_option linter.unnecessarySimpa false
namespace GL
open Go

/-- a list of lists of one's own, each of which may grow -/
def Pcs (lo : Nat) (h : Heap) (b : Nat) (xs : List (List Int)) : Prop :=
  ∃ rs : List V, h[b]? = some ⟨.own, rs⟩ ∧ rs.length = xs.length ∧ lo ≤ b ∧ (∀ k (hr : k < rs.length) (hx : k < xs.length), Out (b + 1) h rs[k] xs[k]) ∧ ∀ j k (hj : j < rs.length) (hk : k < rs.length), j ≠ k → ∀ i, vB rs[j] i → ¬ vB rs[k] i
theorem Pcs.load {lo : Nat} {h : Heap} {b : Nat} {xs : List (List Int)} (hp : Pcs lo h b xs) {k : Nat} (hk : k < xs.length) : ∃ v, rdH h b k 1 = some [v] ∧ Out (b + 1) h v xs[k] := by
  obtain ⟨rs, hb, hl, h1, h2, h3⟩ := hp
  have hk' : k < rs.length := by omega
  refine ⟨rs[k], ?_, h2 k hk' hk⟩
  rw [rdH_at hb (by simp)]
  simp only [cut]
  rw [if_pos (by show k + 1 ≤ rs.length; omega), List.drop_eq_getElem_cons hk']; rfl
theorem reps_rows {h : Heap} {lo : Nat} : ∀ {rs : List V} {xs : List (List Int)}, rs.length = xs.length → (∀ k (hr : k < rs.length) (hx : k < xs.length), Out lo h rs[k] xs[k]) → ∃ F, Reps h xs rs F ∧ ∀ b ∈ F, lo ≤ b
  | [], [], _, _ => ⟨[], .nil, by simp⟩
  | [], _ :: _, hl, _ => by simp at hl
  | _ :: _, [], hl, _ => by simp at hl
  | r :: rs, x :: xs, hl, ho => by
    obtain ⟨F1, s1, f1⟩ := (ho 0 (by simp) (by simp)).fr
    obtain ⟨F2, s2, f2⟩ := reps_rows (rs := rs) (xs := xs) (by simpa using hl) fun k hr hx => ho (k + 1) (by simp; omega) (by simp; omega)
    refine ⟨F1 ++ F2, ⟨[r], rs, F1, F2, rfl, rfl, ⟨r, rfl, s1⟩, s2⟩, fun b hb => ?_⟩
    rcases List.mem_append.1 hb with h | h
    · exact f1.ge b h
    · exact f2 b h
theorem Pcs.sdF {lo : Nat} {h : Heap} {b : Nat} {xs : List (List Int)} (hp : Pcs lo h b xs) (hx : xs.length < 2 ^ 63) : ∃ F, SdF h (.slice b 0 xs.length (.k xs.length)) xs F ∧ ∀ i ∈ F, lo ≤ i := by
  obtain ⟨rs, hb, hl, h1, h2, h3⟩ := hp
  obtain ⟨F, hr, hF⟩ := reps_rows hl h2
  have hsz : Data.sz (List Int) = 1 := rfl
  refine ⟨b :: F, ⟨hx, .inr ⟨b, 0, .k xs.length, rfl, Nat.le_refl _, .inr ⟨_, rs, F, rfl, hb, by simp, ?_, hr⟩⟩⟩, fun i hi => ?_⟩
  · rw [hsz, Nat.mul_one, ← hl]; simp [cut]
  · rcases List.mem_cons.1 hi with h | h
    · omega
    · have := hF i h; omega
theorem Pcs.start (h : Heap) (n : Nat) : Pcs h.length (h ++ [⟨.own, List.replicate n V.nils⟩]) h.length (List.replicate n []) :=
  ⟨List.replicate n .nils, by simp, by simp, Nat.le_refl _, fun k hr hx => by rw [List.getElem_replicate, List.getElem_replicate]; exact Out.nil (by simp), fun j k hj hk _ i hv => by rw [List.getElem_replicate] at hv; obtain ⟨_, _, _, e⟩ := hv; cases e⟩

end GL

namespace GL
open Go

end GL

namespace GL
open Go

end GL

namespace GL
open Go

end GL

namespace GL
open Go

/-- a list of one's own of lists that do not change -/
def Rws (lo : Nat) (h : Heap) (b : Nat) (xs : List (List Int)) : Prop :=
  ∃ rs : List V, h[b]? = some ⟨.own, rs⟩ ∧ rs.length = xs.length ∧ lo ≤ b ∧ ∀ k (hr : k < rs.length) (hx : k < xs.length), ∃ F, SdF h rs[k] xs[k] F ∧ ∀ i ∈ F, b < i
theorem Rws.keep {lo : Nat} {h h' : Heap} {b : Nat} {xs : List (List Int)} (hp : Rws lo h b xs) (hk : Keeps h h') : Rws lo h' b xs := by
  obtain ⟨rs, h1, h2, h3, h4⟩ := hp
  exact ⟨rs, hk _ _ h1 (by simp), h2, h3, fun k hr hx => by obtain ⟨F, q1, q2⟩ := h4 k hr hx; exact ⟨F, q1.keep hk, q2⟩⟩
theorem Rws.load {lo : Nat} {h : Heap} {b : Nat} {xs : List (List Int)} (hp : Rws lo h b xs) {k : Nat} (hk : k < xs.length) : ∃ v F, rdH h b k 1 = some [v] ∧ SdF h v xs[k] F ∧ ∀ i ∈ F, b < i := by
  obtain ⟨rs, hb, hl, h1, h2⟩ := hp
  have hk' : k < rs.length := by omega
  obtain ⟨F, q1, q2⟩ := h2 k hk' hk
  refine ⟨rs[k], F, ?_, q1, q2⟩
  rw [rdH_at hb (by simp)]
  simp only [cut]
  rw [if_pos (by show k + 1 ≤ rs.length; omega), List.drop_eq_getElem_cons hk']; rfl
theorem Rws.put {lo : Nat} {h : Heap} {b : Nat} {xs : List (List Int)} (hp : Rws lo h b xs) {k : Nat} (hk : k < xs.length) {w : V} {ys : List Int} {G : List Nat} (hw : SdF h w ys G) (hG : ∀ i ∈ G, b < i) :
    ∃ h2, wrH h b k [w] = some h2 ∧ Rws lo h2 b (xs.set k ys) ∧ KeepsP (fun i => i < lo) h h2 ∧ h2.length = h.length := by
  obtain ⟨rs, hb, hl, h1, h2⟩ := hp
  have hk' : k < rs.length := by omega
  have kb : KeepsP (fun i => i ≠ b) h (h.set b ⟨.own, rs.set k w⟩) := fun i blk hi hbi _ => by rw [List.getElem?_set_ne (Ne.symm hi)]; exact hbi
  refine ⟨h.set b ⟨.own, rs.set k w⟩, ?_, ⟨rs.set k w, by rw [List.getElem?_set_self (get_lt hb)], by simp [hl], h1, fun j hj hxj => ?_⟩, kb.mono fun i hi => by omega, by simp⟩
  · rw [wrH_at hb rfl]
    simp only [lay, List.length_singleton]
    have hset : rs.set k w = rs.take k ++ [w] ++ rs.drop (k + 1) := by rw [List.set_eq_take_append_cons_drop, if_pos hk']; simp
    rw [if_pos (by show k + 1 ≤ rs.length; omega), hset]; rfl
  · simp only [List.length_set] at hj hxj
    by_cases hjk : k = j
    · subst hjk
      simp only [List.getElem_set_self]
      exact ⟨G, hw.keeps (kb.mono fun i hi => by have := hG i hi; omega), hG⟩
    · rw [List.getElem_set_ne hjk, List.getElem_set_ne hjk]
      obtain ⟨F, q1, q2⟩ := h2 j hj hxj
      exact ⟨F, q1.keeps (kb.mono fun i hi => by have := q2 i hi; omega), q2⟩
theorem reps_rws {h : Heap} {b : Nat} : ∀ {rs : List V} {xs : List (List Int)}, rs.length = xs.length → (∀ k (hr : k < rs.length) (hx : k < xs.length), ∃ F, SdF h rs[k] xs[k] F ∧ ∀ i ∈ F, b < i) → ∃ F, Reps h xs rs F ∧ ∀ i ∈ F, b < i
  | [], [], _, _ => ⟨[], .nil, by simp⟩
  | [], _ :: _, hl, _ => by simp at hl
  | _ :: _, [], hl, _ => by simp at hl
  | r :: rs, x :: xs, hl, ho => by
    obtain ⟨F1, s1, f1⟩ := ho 0 (by simp) (by simp)
    obtain ⟨F2, s2, f2⟩ := reps_rws (rs := rs) (xs := xs) (by simpa using hl) fun k hr hx => ho (k + 1) (by simp; omega) (by simp; omega)
    refine ⟨F1 ++ F2, ⟨[r], rs, F1, F2, rfl, rfl, ⟨r, rfl, s1⟩, s2⟩, fun b hb => ?_⟩
    rcases List.mem_append.1 hb with h | h
    · exact f1 b h
    · exact f2 b h
theorem Rws.sdF {lo : Nat} {h : Heap} {b : Nat} {xs : List (List Int)} (hp : Rws lo h b xs) (hx : xs.length < 2 ^ 63) : ∃ F, SdF h (.slice b 0 xs.length (.k xs.length)) xs F ∧ ∀ i ∈ F, lo ≤ i := by
  obtain ⟨rs, hb, hl, h1, h2⟩ := hp
  obtain ⟨F, hr, hF⟩ := reps_rws hl h2
  have hsz : Data.sz (List Int) = 1 := rfl
  refine ⟨b :: F, ⟨hx, .inr ⟨b, 0, .k xs.length, rfl, Nat.le_refl _, .inr ⟨_, rs, F, rfl, hb, by simp, ?_, hr⟩⟩⟩, fun i hi => ?_⟩
  · rw [hsz, Nat.mul_one, ← hl]; simp [cut]
  · rcases List.mem_cons.1 hi with h | h
    · omega
    · have := hF i h; omega
theorem Rws.start (h : Heap) (n : Nat) : Rws h.length (h ++ [⟨.own, List.replicate n V.nils⟩]) h.length (List.replicate n []) :=
  ⟨List.replicate n .nils, by simp, by simp, Nat.le_refl _, fun k hr hx => by rw [List.getElem_replicate, List.getElem_replicate]; exact ⟨[], .nil, by simp⟩⟩

end GL

namespace GL
open Go

end GL

namespace GL
open Go

end GL

namespace GL
open Go

end GL

namespace GL
open Go

end GL

namespace GL
open Go

end GL

namespace GL
open Go

structure Lk where
  rd : List (List Int)
  wr : List Int
  ov : List Int
structure Ak where
  who : Int
  item : Int
  w : Bool
  e : Bool
def LkV (h : Heap) (v : V) (c : Lk) (F : List Nat) : Prop := ∃ x y z F1 F2 F3, v = .agg [x, y, z] ∧ F = F1 ++ F2 ++ F3 ∧ SdF h x c.rd F1 ∧ SdF h y c.wr F2 ∧ SdF h z c.ov F3
section
variable {h h' : Heap} {v : V} {c : Lk} {F : List Nat}
theorem LkV.keeps (hc : LkV h v c F) (hk : KeepsP (fun b => b ∈ F) h h') : LkV h' v c F := by
  obtain ⟨x, y, z, F1, F2, F3, rfl, rfl, hx, hy, hz⟩ := hc
  exact ⟨x, y, z, F1, F2, F3, rfl, rfl, hx.keeps (hk.mono fun b hb => by simp [hb]), hy.keeps (hk.mono fun b hb => by simp [hb]), hz.keeps (hk.mono fun b hb => by simp [hb])⟩
theorem LkV.keep (hc : LkV h v c F) (hk : Keeps h h') : LkV h' v c F := hc.keeps (hk.p _)
theorem LkV.lt (hc : LkV h v c F) {b : Nat} (hb : b ∈ F) : b < h.length := by
  obtain ⟨x, y, z, F1, F2, F3, rfl, rfl, hx, hy, hz⟩ := hc
  rcases List.mem_append.1 hb with hb | hb
  · rcases List.mem_append.1 hb with hb | hb
    · exact hx.ltF hb
    · exact hy.ltF hb
  · exact hz.ltF hb
end
def rowQ (c : Lk) (i : Nat) : Prop := risB 0 3 (c.rd.getD i []) = true ∧ (-1 ≤ c.wr.getD i 0 ∧ c.wr.getD i 0 ≤ 3) ∧ (0 ≤ c.wr.getD i 0 → c.rd.getD i [] = [] ∨ c.rd.getD i [] = [c.wr.getD i 0])
def goodLk (c : Lk) : Prop := c.rd.length = 4 ∧ c.wr.length = 4 ∧ (∀ x ∈ c.ov, 0 ≤ x ∧ x ≤ 3) ∧ c.ov.Nodup ∧ (∀ i, i < 4 → rowQ c i) ∧ ∀ i, i < 4 → c.wr.getD i 0 ∉ c.ov ∧ ∀ x ∈ c.rd.getD i [], x ∉ c.ov
instance (c : Lk) (i : Nat) : Decidable (rowQ c i) := by unfold rowQ; infer_instance
instance (c : Lk) : Decidable (goodLk c) := by unfold goodLk; infer_instance
end GL

namespace GL
open Go

end GL

namespace GL
open Go

end GL

namespace GL
open Go

/-- locks of one's own, in memory -/
def LkO (lo : Nat) (h : Heap) (x y z : V) (c : Lk) (F1 F2 : List Nat) : Prop := SdF h x c.rd F1 ∧ SdF h y c.wr F2 ∧ Out lo h z c.ov ∧ Fresh lo h (F1 ++ F2) ∧ ∀ i, vB z i → i ∉ F1 ++ F2
section
variable {lo : Nat} {h h' : Heap} {x y z : V} {c : Lk} {F1 F2 : List Nat}
theorem LkO.keeps {P : Nat → Prop} (o : LkO lo h x y z c F1 F2) (hk : KeepsP P h h') (hp : ∀ i ∈ F1 ++ F2, P i) (hz : ∀ i, vB z i → P i) (hl : h.length ≤ h'.length) : LkO lo h' x y z c F1 F2 := by
  obtain ⟨h1, h2, h3, h4, h5⟩ := o
  exact ⟨h1.keeps (hk.mono fun i hi => hp i (by simp [hi])), h2.keeps (hk.mono fun i hi => hp i (by simp [hi])), h3.keeps hk hz hl, h4.keeps (hk.mono hp), h5⟩
theorem LkO.keep (o : LkO lo h x y z c F1 F2) (hk : Keeps h h') (hl : h.length ≤ h'.length) : LkO lo h' x y z c F1 F2 := o.keeps (hk.p fun _ => True) (fun _ _ => trivial) (fun _ _ => trivial) hl
theorem LkO.v (o : LkO lo h x y z c F1 F2) : ∃ F, LkV h (.agg [x, y, z]) c F ∧ Fresh lo h F ∧ ∀ i ∈ F, i ∈ F1 ++ F2 ∨ vB z i := by
  obtain ⟨h1, h2, h3, h4, h5⟩ := o
  have h3' := h3
  obtain ⟨_, _, ⟨rfl, hov⟩ | ⟨b1, rfl, hb1, _⟩ | ⟨b1, rfl, hov, _⟩⟩ := h3
  · exact ⟨F1 ++ F2 ++ [], ⟨x, y, .nils, F1, F2, [], rfl, rfl, h1, h2, by rw [hov]; exact .nil⟩, by simpa using h4, fun i hi => .inl (by simpa using hi)⟩
  · obtain ⟨F, hF, hF2, hF3⟩ := h3'.sl.sdF h3'.cap
    refine ⟨F1 ++ F2 ++ F, ⟨x, y, _, F1, F2, F, rfl, rfl, h1, h2, hF⟩, ⟨List.nodup_append.2 ⟨h4.nodup, hF.flatF.2.1, fun a ha b hb e => ?_⟩, fun i hi => ?_, fun i hi => ?_⟩, fun i hi => ?_⟩
    · subst e; exact h5 a (hF2 a hb).2 ha
    · rcases List.mem_append.1 hi with hi | hi
      · exact h4.ge i hi
      · exact (h3'.ge (hF2 i hi).2).1
    · rcases List.mem_append.1 hi with hi | hi
      · exact h4.own i hi
      · have := (hF2 i hi).1; simp [bOf] at this; subst this; exact ⟨_, hb1⟩
    · rcases List.mem_append.1 hi with hi | hi
      · exact .inl hi
      · exact .inr (hF2 i hi).2
  · exact ⟨F1 ++ F2 ++ [], ⟨x, y, _, F1, F2, [], rfl, rfl, h1, h2, by rw [hov]; exact ⟨by simp, .inr ⟨b1, 0, .k 0, rfl, Nat.le_refl _, .inl ⟨rfl, rfl⟩⟩⟩⟩, by simpa using h4, fun i hi => .inl (by simpa using hi)⟩
end
section
variable {lo : Nat} {h h' : Heap} {x y z : V} {c : Lk} {F1 F2 : List Nat}
end
end GL

namespace GL
open Go

end GL

namespace GL
open Go

end GL

namespace GL
open Go

end GL

namespace GL
open Go

end GL

namespace GL
open Go

end GL

namespace GL
open Go

instance lkData : Data Lk where
  sz := 3
  pos := by decide
  rep := fun h c cs F => ∃ x y z F1 F2 F3, cs = [x, y, z] ∧ F = F1 ++ F2 ++ F3 ∧ SdF h x c.rd F1 ∧ SdF h y c.wr F2 ∧ SdF h z c.ov F3
  len := by rintro h a cs F ⟨x, y, z, F1, F2, F3, rfl, _⟩; rfl
  ok := by rintro h a cs F ⟨x, y, z, F1, F2, F3, rfl, _, h1, h2, h3⟩; simp [allCell, h1.cell, h2.cell, h3.cell]
  keeps := by
    rintro h h' a cs F ⟨x, y, z, F1, F2, F3, rfl, rfl, h1, h2, h3⟩ hk
    exact ⟨x, y, z, F1, F2, F3, rfl, rfl, h1.keeps (hk.mono fun b hb => by simp [hb]), h2.keeps (hk.mono fun b hb => by simp [hb]), h3.keeps (hk.mono fun b hb => by simp [hb])⟩
  lt := by
    rintro h a cs F b ⟨x, y, z, F1, F2, F3, rfl, rfl, h1, h2, h3⟩ hb
    rcases List.mem_append.1 hb with hb | hb
    · rcases List.mem_append.1 hb with hb | hb
      · exact h1.lt hb
      · exact h2.lt hb
    · exact h3.lt hb
def Lk.of (p : List (List Int) × List Int × List Int) : Lk := ⟨p.1, p.2.1, p.2.2⟩
instance : Flat Ak := ⟨4, fun x => [vi x.who, vi x.item, .bool x.w, .bool x.e], fun _ => rfl, fun _ => rfl, by decide⟩
def Ak.of (p : Int × Int × Bool × Bool) : Ak := ⟨p.1, p.2.1, p.2.2.1, p.2.2.2⟩
end GL

namespace GL
open Go

end GL

namespace GL
open Go

structure Ac where
  who : Int
  item : Int
  wr : Bool
deriving DecidableEq
instance : Flat Ac := ⟨3, fun x => [vi x.who, vi x.item, .bool x.wr], fun _ => rfl, fun _ => rfl, by decide⟩
theorem LkO.mono {lo lo' : Nat} {h : Heap} {x y z : V} {c : Lk} {F1 F2 : List Nat} (o : LkO lo h x y z c F1 F2) (hl : lo' ≤ lo) : LkO lo' h x y z c F1 F2 :=
  ⟨o.1, o.2.1, o.2.2.1.mono hl, o.2.2.2.1.mono hl, o.2.2.2.2⟩

end GL

namespace GL
open Go

theorem LkO.but {lo b0 : Nat} {h h' : Heap} {x y z : V} {c : Lk} {F1 F2 : List Nat} (o : LkO lo h x y z c F1 F2) (hk : KeepsBut b0 h h') (hb : b0 < lo) (hl : h.length ≤ h'.length) : LkO lo h' x y z c F1 F2 :=
  o.keeps hk.P (fun i hi e => by have := o.2.2.2.1.ge i hi; omega) (fun i hi e => by have := (o.2.2.1.ge hi).1; omega) hl

end GL

namespace GL
open Go

end GL

namespace GL
open Go

end GL

namespace GL
open Go

end GL

namespace GL
open Go

end GL

namespace GL
open Go

/-! dependencies: columns that settle columns -/
structure Dp where
  l : List Int
  r : List Int
instance dpData : Data Dp where
  sz := 2
  pos := by decide
  rep := fun h c cs F => ∃ x y F1 F2, cs = [x, y] ∧ F = F1 ++ F2 ∧ SdF h x c.l F1 ∧ SdF h y c.r F2
  len := by rintro h a cs F ⟨x, y, F1, F2, rfl, _⟩; rfl
  ok := by rintro h a cs F ⟨x, y, F1, F2, rfl, _, h1, h2⟩; simp [allCell, h1.cell, h2.cell]
  keeps := by
    rintro h h' a cs F ⟨x, y, F1, F2, rfl, rfl, h1, h2⟩ hk
    exact ⟨x, y, F1, F2, rfl, rfl, h1.keeps (hk.mono fun b hb => List.mem_append_left _ hb), h2.keeps (hk.mono fun b hb => List.mem_append_right _ hb)⟩
  lt := by
    rintro h a cs F b ⟨x, y, F1, F2, rfl, rfl, h1, h2⟩ hb
    rcases List.mem_append.1 hb with hb | hb
    · exact h1.lt hb
    · exact h2.lt hb
theorem SdF.loadDp {h : Heap} {v : V} {xs : List Dp} {F : List Nat} (hs : SdF h v xs F) (i : Nat) (hi : i < xs.length) : ∃ x y F1 F2, rdH h (bOf v) (oOf v + i * 2) 2 = some [x, y] ∧ SdF h x xs[i].l F1 ∧ SdF h y xs[i].r F2 ∧ (∀ b ∈ F1, b ∈ F) ∧ (∀ b ∈ F2, b ∈ F) ∧ F1 ++ F2 = F1 ++ F2 := by
  obtain ⟨cs, G1, G2, G3, e, ⟨x, y, F1, F2, rfl, rfl, h1, h2⟩, rfl⟩ := hs.load i hi
  exact ⟨x, y, F1, F2, e, h1, h2, fun b hb => by simp [hb], fun b hb => by simp [hb], rfl⟩

def okDp (k : Int) (f : Dp) : Bool := risB 0 (k - 1) f.l && risB 0 (k - 1) f.r
def okDps (k : Int) (fs : List Dp) : Bool := decide (1 ≤ k ∧ k ≤ 6) && decide (fs.length ≤ 8) && fs.all (okDp k)

theorem areColumns_eq {h : Heap} {v : V} {xs : List Int} (hs : Sl h v xs) (k : Int) (hk : 1 ≤ k ∧ k ≤ 6) : call p 655 [vi k, v] h = some (.bool (risB 0 (k - 1) xs), h) := by
  have w1 : IntKind.i64.wrap (k - 1) = k - 1 := by rw [IntWalk.i64_in] <;> omega
  have e1 := isRising_eq hs 0 (k - 1)
  refine go_eq (fn := g655) rfl rfl fun R hR => ?_
  simp [g655, w1, e1, hs.cells, hs.cell]; exact hR
theorem isDep_eq {h : Heap} {x y : V} {f : Dp} (hx : Sl h x f.l) (hy : Sl h y f.r) (k : Int) (hk : 1 ≤ k ∧ k ≤ 6) : call p 656 [vi k, .agg [x, y]] h = some (.bool (okDp k f), h) := by
  have e1 := areColumns_eq hx k hk
  have e2 := areColumns_eq hy k hk
  refine go_eq (fn := g656) rfl rfl fun R hR => ?_
  unfold okDp at hR
  cases h1 : risB 0 (k - 1) f.l <;> rw [h1] at e1 hR <;> simp [g656, upd, e1, e2, hx.cells, hx.cell, hy.cells, hy.cell] <;> exact hR
theorem l5Dep_eq {h : Heap} {x y : V} {f : Dp} (hx : Sl h x f.l) (hy : Sl h y f.r) (k : Int) (hk : 1 ≤ k ∧ k ≤ 6) : call p 672 [vi k, .agg [x, y]] h = some (.bool (okDp k f), h) := by
  have w1 : IntKind.i64.wrap (k - 1) = k - 1 := by rw [IntWalk.i64_in] <;> omega
  have e1 := l1Rising_eq hx 0 (k - 1)
  have e2 := l1Rising_eq hy 0 (k - 1)
  refine go_eq (fn := g672) rfl rfl fun R hR => ?_
  unfold okDp at hR
  cases h1 : risB 0 (k - 1) f.l <;> rw [h1] at e1 hR <;> simp [g672, upd, w1, e1, e2, hx.cells, hx.cell, hy.cells, hy.cell] <;> exact hR
theorem notDep_eq {h : Heap} {x y : V} {f : Dp} (hx : Sl h x f.l) (hy : Sl h y f.r) (k : Int) (hk : 1 ≤ k ∧ k ≤ 6) {b : Nat} (hb : rdH h b 0 1 = some [vi k]) : call p 653 [.agg [x, y], .ptr b 0] h = some (.bool (!okDp k f), h) := by
  have e1 := isDep_eq hx hy k hk
  refine go_eq (fn := g653) rfl rfl fun R hR => ?_
  simp [g653, upd, hb, e1, hx.cells, hx.cell, hy.cells, hy.cell]
  exact hR
theorem indexDp_eq {h : Heap} {v : V} {xs : List Dp} {F : List Nat} (hs : SdF h v xs F) (k : Int) (hk : 1 ≤ k ∧ k ≤ 6) {b : Nat} (hb : rdH h b 0 1 = some [vi k]) : ∃ r h', call p 675 [v, .fn 653 [.ptr b 0]] h = some (r, h') ∧ h' = h ∧ ∃ k' : Int, r = vi k' ∧ decide (0 ≤ k') = !xs.all (okDp k) := by
  refine go (fn := g675) rfl rfl fun R hR => ?_
  simp [g675, hs.len]
  refine Wc_upM (M := [4, 5, 8, 9, 10, 11, 12, 13, 14, 15, 16, 17, 18]) rfl xs.length (fun i s => s.σ 8 = .v (vi i) ∧ s.h = h ∧ ∀ x ∈ xs.take i, okDp k x = true) 0 (by simp) fun i s ⟨g8, gh, hall⟩ hM J hJ => ?_
  by_cases hn : i < xs.length
  · obtain ⟨x, y, F1, F2, ld, hx, hy, _⟩ := hs.loadDp i hn
    have e1 := notDep_eq hx.sl hy.sl k hk hb
    cases he : okDp k xs[i] with
    | false =>
      rw [he] at e1
      simp [g675_0, hM, g8, gh, hn, hs.idx, ld, hx.cells, hx.cell, hy.cells, hy.cell, e1]
      refine hR _ _ ⟨rfl, i, rfl, ?_⟩
      have : xs.all (okDp k) = false := List.all_eq_false.2 ⟨xs[i], List.getElem_mem hn, by simp [he]⟩
      simp [this]
    | true =>
      rw [he] at e1
      simp [g675_0, hM, g8, gh, hn, hs.idx, ld, hx.cells, hx.cell, hy.cells, hy.cell, e1, hs.step hn]
      exact hJ _ hn ⟨by simp, rfl, (all_take_succ hn).2 ⟨hall, he⟩⟩
  · rw [List.take_of_length_le (by omega)] at hall
    have : xs.all (okDp k) = true := List.all_eq_true.2 hall
    simp [g675_0, hM, g8, gh, hn]
    exact hR _ _ ⟨rfl, -1, rfl, by simp [this]⟩
theorem containsDp_eq {h : Heap} {v : V} {xs : List Dp} {F : List Nat} (hs : SdF h v xs F) (k : Int) (hk : 1 ≤ k ∧ k ≤ 6) {b : Nat} (hb : rdH h b 0 1 = some [vi k]) : call p 654 [v, .fn 653 [.ptr b 0]] h = some (.bool (!xs.all (okDp k)), h) := by
  obtain ⟨_, _, e, rfl, k', rfl, hk'⟩ := indexDp_eq hs k hk hb
  refine go_eq (fn := g654) rfl rfl fun R hR => ?_
  simp [g654, e, hk']
  simpa using hR
theorem GoodDeps_ok {h : Heap} {v : V} {xs : List Dp} {F : List Nat} (hs : SdF h v xs F) (k : Int) : ∃ r h', call p 616 [vi k, v] h = some (r, h') ∧ r = .bool (okDps k xs) ∧ Keeps h h' ∧ h.length ≤ h'.length := by
  have k0 : Keeps h (h ++ [⟨.own, [vi k]⟩]) := Keeps.append _ _
  have hb0 : (h ++ [⟨.own, [vi k]⟩])[h.length]? = some ⟨.own, [vi k]⟩ := get_last _ _
  have r0 : rdH (h ++ [⟨.own, [vi k]⟩]) h.length 0 1 = some [vi k] := by rw [rdH_at hb0 (by simp)]; rfl
  refine go (fn := g616) rfl rfl fun R hR => ?_
  by_cases hk : 1 ≤ k ∧ k ≤ 6
  · have e1 := containsDp_eq (hs.keep k0) k hk r0
    by_cases h8 : xs.length ≤ 8
    · have h8' : (xs.length : Int) ≤ 8 := by omega
      simp [g616, r0, hk, hs.len, h8, h8', e1, -Bool.decide_and]
      exact hR _ _ ⟨by simp [okDps, hk, h8], k0, by simp⟩
    · have h8' : ¬ (xs.length : Int) ≤ 8 := by omega
      simp [g616, r0, hk, hs.len, h8, h8', -Bool.decide_and]
      exact hR _ _ ⟨by simp [okDps, h8], k0, by simp⟩
  · simp [g616, r0, hk, -Bool.decide_and]
    exact hR _ _ ⟨by simp [okDps, hk, -Bool.decide_and], k0, by simp⟩
theorem GoodDepsS_eq {h : Heap} {v : V} {xs : List Dp} {F : List Nat} (hs : SdF h v xs F) (k : Int) : call p 647 [vi k, v] h = some (.bool (okDps k xs), h) := by
  refine go_eq (fn := g647) rfl rfl fun R hR => ?_
  by_cases hk : 1 ≤ k ∧ k ≤ 6
  · by_cases h8 : xs.length ≤ 8
    · have h8' : (xs.length : Int) ≤ 8 := by omega
      have h8n : ¬ (8 : Int) < xs.length := by omega
      simp [g647, hk, hs.len, h8, h8', h8n, -Bool.decide_and]
      refine Wc_upM (M := [4, 6, 17, 18, 19, 20, 21, 22, 23, 24, 25]) rfl xs.length (fun i s => s.σ 17 = .v (vi i) ∧ s.h = h ∧ ∀ x ∈ xs.take i, okDp k x = true) 0 (by simp) fun i s ⟨g8, gh, hall⟩ hM J hJ => ?_
      by_cases hn : i < xs.length
      · obtain ⟨x, y, F1, F2, ld, hx, hy, _⟩ := hs.loadDp i hn
        have e1 := l5Dep_eq hx.sl hy.sl k hk
        cases he : okDp k xs[i] with
        | false =>
          rw [he] at e1
          have : xs.all (okDp k) = false := List.all_eq_false.2 ⟨xs[i], List.getElem_mem hn, by simp [he]⟩
          rw [okDps, this, Bool.and_false] at hR
          simp [g647_0, hM, g8, gh, hn, hs.idx, ld, upd, hx.cells, hx.cell, hy.cells, hy.cell, e1]
          exact hR
        | true =>
          rw [he] at e1
          simp [g647_0, hM, g8, gh, hn, hs.idx, ld, upd, hx.cells, hx.cell, hy.cells, hy.cell, e1, hs.step hn]
          exact hJ _ hn ⟨by simp, rfl, (all_take_succ hn).2 ⟨hall, he⟩⟩
      · rw [List.take_of_length_le (by omega)] at hall
        have : xs.all (okDp k) = true := List.all_eq_true.2 hall
        rw [okDps, this, decide_eq_true hk, decide_eq_true h8] at hR
        simp [g647_0, hM, g8, gh, hn]
        exact hR
    · have h8n : (8 : Int) < xs.length := by omega
      rw [okDps, decide_eq_false h8] at hR
      simp [g647, hk, hs.len, h8n, -Bool.decide_and]
      simpa using hR
  · rw [okDps, decide_eq_false hk] at hR
    simp [g647, hk, -Bool.decide_and]
    simpa using hR
end GL

namespace GL
open Go

/-! the closure of columns under dependencies -/
def Cld (fs : List Dp) (s : List Int) : Prop := ∀ f ∈ fs, (∀ x ∈ f.l, x ∈ s) → ∀ x ∈ f.r, x ∈ s
def InK (k : Nat) (xs : List Int) : Prop := ∀ x ∈ xs, 0 ≤ x ∧ x < k
def DepsIn (k : Nat) (fs : List Dp) : Prop := ∀ f ∈ fs, InK k f.l ∧ InK k f.r ∧ f.l.Pairwise (· < ·) ∧ f.r.Pairwise (· < ·)
open Classical in
noncomputable def clos (k : Nat) (fs : List Dp) (xs : List Int) : List Int := (upTo k).filter fun n => decide (∀ s : List Int, (∀ x ∈ xs, x ∈ s) → Cld fs s → n ∈ s)
section
variable {k : Nat} {fs : List Dp} {xs : List Int}
theorem mem_clos {n : Int} : n ∈ clos k fs xs ↔ (0 ≤ n ∧ n < k) ∧ ∀ s : List Int, (∀ x ∈ xs, x ∈ s) → Cld fs s → n ∈ s := by
  rw [clos, List.mem_filter, mem_upTo]; simp
theorem clos_ris : (clos k fs xs).Pairwise (· < ·) := List.Pairwise.filter _ (range_rising k)
theorem clos_min {n : Int} (hn : n ∈ clos k fs xs) {s : List Int} (h1 : ∀ x ∈ xs, x ∈ s) (h2 : Cld fs s) : n ∈ s := (mem_clos.1 hn).2 s h1 h2
structure CurOK (k : Nat) (fs : List Dp) (xs cur : List Int) : Prop where
  ris : cur.Pairwise (· < ·)
  ink : InK k cur
  sub : ∀ x ∈ xs, x ∈ cur
  min : ∀ x ∈ cur, ∀ s : List Int, (∀ x ∈ xs, x ∈ s) → Cld fs s → x ∈ s
theorem CurOK.start (h1 : xs.Pairwise (· < ·)) (h2 : InK k xs) : CurOK k fs xs xs := ⟨h1, h2, fun _ h => h, fun x hx s h1 _ => h1 x hx⟩
theorem CurOK.eq {cur : List Int} (h : CurOK k fs xs cur) (hc : Cld fs cur) : cur = clos k fs xs :=
  rising_ext h.ris clos_ris fun x => ⟨fun hx => mem_clos.2 ⟨h.ink x hx, fun s h1 h2 => h.min x hx s h1 h2⟩, fun hx => clos_min hx h.sub hc⟩
theorem CurOK.len {cur : List Int} (h : CurOK k fs xs cur) : cur.length ≤ k := rising_len h.ris h.ink
theorem CurOK.grow {cur ys : List Int} (h : CurOK k fs xs cur) (hd : DepsIn k fs) {f : Dp} (hf : f ∈ fs) (hl : ∀ x ∈ f.l, x ∈ cur) (hr : ys.Pairwise (· < ·)) (hm : ∀ x, x ∈ ys ↔ x ∈ cur ∨ x ∈ f.r) : CurOK k fs xs ys :=
  ⟨hr, fun x hx => by
    rcases (hm x).1 hx with h1 | h1
    · exact h.ink x h1
    · exact (hd f hf).2.1 x h1, fun x hx => (hm x).2 (.inl (h.sub x hx)), fun x hx s h1 h2 => by
    rcases (hm x).1 hx with h3 | h3
    · exact h.min x h3 s h1 h2
    · exact h2 f hf (fun y hy => h.min y (hl y hy) s h1 h2) x h3⟩
theorem longer {cur ys : List Int} (hn : cur.Pairwise (· < ·)) (hs : ∀ x ∈ cur, x ∈ ys) {z : Int} (hz : z ∈ ys) (hc : z ∉ cur) : cur.length < ys.length := by
  have := sub_len (l := z :: cur) (m := ys) (List.nodup_cons.2 ⟨hc, hn.imp fun h => Int.ne_of_lt h⟩) fun x hx => by
    rcases List.mem_cons.1 hx with rfl | h
    · exact hz
    · exact hs x h
  simp only [List.length_cons] at this; omega
end

theorem closure_ok {h : Heap} {vf vx : V} {k : Nat} {fs : List Dp} {xs : List Int} {F : List Nat} (hf : SdF h vf fs F) (hx : Sl h vx xs) (hd : DepsIn k fs) (hr : xs.Pairwise (· < ·)) (hin : InK k xs) (hk : k ≤ 2 ^ 10) :
    ∃ r h', call p 645 [vf, vx] h = some (r, h') ∧ ∃ G, SdF h' r (clos k fs xs) G ∧ Keeps h h' ∧ h.length ≤ h'.length := by
  have hxl : xs.length ≤ k := rising_len hr hin
  obtain ⟨r, h1, e1, G1, c1, f1, k1, l1⟩ := cloneI_ok hx (by omega)
  refine go (fn := g645) rfl rfl fun R hR => ?_
  simp [g645, hx.cells, hx.cell, e1]
  refine Wc_dnM (M := [5, 6, 8, 11, 12, 13, 14, 15, 16, 17, 18, 19, 20, 21, 22, 23, 24, 25, 26, 27, 28, 29, 30, 31, 32, 33]) rfl (fun m s => ∃ (cur : List Int) (v : V) (G : List Nat) (b : Bool), s.σ 5 = .v v ∧ s.σ 6 = .v (.bool b) ∧ SdF s.h v cur G ∧ CurOK k fs xs cur ∧ Keeps h s.h ∧ h.length ≤ s.h.length ∧ ((b = true ∧ m = k + 1 - cur.length) ∨ (b = false ∧ m = 0 ∧ Cld fs cur))) (k + 1 - xs.length)
    ⟨xs, r, G1, true, by simp, by simp, c1, .start hr hin, k1, l1, .inl ⟨rfl, rfl⟩⟩ fun m s ⟨cur, v, G, b, g5, g6, sc, hc, hk0, hl0, hb⟩ hM J hJ => ?_
  rcases hb with ⟨rfl, hm⟩ | ⟨rfl, hm, hcl⟩
  · have hlen := hc.len
    simp [g645_1, hM, g6, hf.len]
    refine Wc_upM (M := [5, 6, 8, 14, 15, 16, 17, 18, 19, 20, 21, 22, 23, 24, 25, 26, 27, 28, 29, 30, 31, 32, 33]) rfl fs.length (fun i s => s.σ 14 = .v (vi i) ∧ ∃ (cur' : List Int) (v : V) (G : List Nat) (b : Bool), s.σ 5 = .v v ∧ s.σ 6 = .v (.bool b) ∧ SdF s.h v cur' G ∧ CurOK k fs xs cur' ∧ Keeps h s.h ∧ h.length ≤ s.h.length ∧ ((b = true ∧ cur.length < cur'.length) ∨ (b = false ∧ cur' = cur ∧ ∀ f ∈ fs.take i, (∀ x ∈ f.l, x ∈ cur) → ∀ x ∈ f.r, x ∈ cur))) 0
      ⟨by simp, cur, v, G, false, by simp [g5], by simp, sc, hc, hk0, hl0, .inr ⟨rfl, rfl, by simp⟩⟩ fun i s1 ⟨g14, cur', v', G', b', g5', g6', sc', hc', hk1, hl1, hb'⟩ hM1 J1 hJ1 => ?_
    have hM' : ∀ q, q ∉ [5, 6, 8, 11, 12, 13, 14, 15, 16, 17, 18, 19, 20, 21, 22, 23, 24, 25, 26, 27, 28, 29, 30, 31, 32, 33] → s1.σ q = s.σ q := fun q hq => by rw [hM1 q (by simp at hq ⊢; omega)]; simp at hq; simp [hq]
    by_cases hn : i < fs.length
    · have hf1 := hf.keep hk1
      obtain ⟨x, y, F1, F2, ld, sx, sy, _⟩ := hf1.loadDp i hn
      have st := hf.step hn
      have hmem := List.getElem_mem hn
      obtain ⟨_, h2, e2, rfl, k2, l2⟩ := hasAll_ok sc'.sl sx.sl
      by_cases hall : ∀ x ∈ fs[i].l, x ∈ cur'
      · have ea : (fs[i].l.all fun n => decide (n ∈ cur')) = true := List.all_eq_true.2 fun x hx => by simpa using hall x hx
        rw [ea] at e2
        have sc2 := sc'.keep k2
        have sy2 := sy.keep k2
        obtain ⟨_, h3, e3, rfl, k3, l3⟩ := hasAll_ok sc2.sl sy2.sl
        by_cases hall2 : ∀ x ∈ fs[i].r, x ∈ cur'
        · have eb : (fs[i].r.all fun n => decide (n ∈ cur')) = true := List.all_eq_true.2 fun x hx => by simpa using hall2 x hx
          rw [eb] at e3
          simp [g645_0, hM1, hM, g14, g5', g6', hn, hf1.idx, ld, upd, sx.cells, sx.cell, sy.cells, sy.cell, e2, e3, st]
          refine hJ1 _ hn ⟨by simp, cur', v', G', b', by simp [g5'], by simp [g6'], sc2.keep k3, hc', (hk1.trans k2).trans k3, by show h.length ≤ h3.length; omega, ?_⟩
          rcases hb' with hb' | ⟨h4, h5, h6⟩
          · exact .inl hb'
          · subst h5
            exact .inr ⟨h4, rfl, (all_take_succ hn).2 ⟨h6, fun _ => hall2⟩⟩
        · have eb : (fs[i].r.all fun n => decide (n ∈ cur')) = false := by
            rw [Bool.eq_false_iff]; intro h; exact hall2 fun x hx => by simpa using List.all_eq_true.1 h x hx
          rw [eb] at e3
          have hyl := rising_len hc'.ris hc'.ink
          have sy3 := sy2.keep k3
          have hrl := rising_len (hd _ hmem).2.2.2 (hd _ hmem).2.1
          have hln : cur'.length + fs[i].r.length ≤ 2 ^ 20 := by omega
          obtain ⟨r4, h4, e4, ys, G4, c4, f4, pw, hm4, k4, l4⟩ := together_ok (sc2.keep k3) sy3 hln
          simp [g645_0, hM1, hM, g14, g5', g6', hn, hf1.idx, ld, upd, sx.cells, sx.cell, sy.cells, sy.cell, e2, e3, e4, st]
          refine hJ1 _ hn ⟨by simp, ys, r4, G4, true, by simp, by simp, c4, hc'.grow hd hmem hall pw hm4, ((hk1.trans k2).trans k3).trans k4, by show h.length ≤ h4.length; omega, .inl ⟨rfl, ?_⟩⟩
          obtain ⟨z, hz, hzn⟩ : ∃ z ∈ fs[i].r, z ∉ cur' := by
            apply Classical.byContradiction; intro hne; exact hall2 fun x hx => Classical.byContradiction fun hx' => hne ⟨x, hx, hx'⟩
          have h9 := longer hc'.ris (ys := ys) (fun x hx => (hm4 x).2 (.inl hx)) ((hm4 z).2 (.inr hz)) hzn
          rcases hb' with ⟨_, h5⟩ | ⟨_, h5, _⟩
          · omega
          · subst h5; exact h9
      · have ea : (fs[i].l.all fun n => decide (n ∈ cur')) = false := by
          rw [Bool.eq_false_iff]; intro h; exact hall fun x hx => by simpa using List.all_eq_true.1 h x hx
        rw [ea] at e2
        simp [g645_0, hM1, hM, g14, g5', g6', hn, hf1.idx, ld, upd, sx.cells, sx.cell, sy.cells, sy.cell, e2, st]
        refine hJ1 _ hn ⟨by simp, cur', v', G', b', by simp [g5'], by simp [g6'], sc'.keep k2, hc', hk1.trans k2, by show h.length ≤ h2.length; omega, ?_⟩
        rcases hb' with hb' | ⟨h4, h5, h6⟩
        · exact .inl hb'
        · subst h5
          exact .inr ⟨h4, rfl, (all_take_succ hn).2 ⟨h6, fun h => absurd h hall⟩⟩
    · simp [g645_0, hM1, g14, hn]
      rcases hb' with ⟨h4, h5⟩ | ⟨h4, h5, h6⟩
      · have := hc'.len
        exact hJ _ _ (by omega) ⟨cur', v', G', b', g5', g6', sc', hc', hk1, hl1, .inl ⟨h4, rfl⟩⟩
      · rw [List.take_of_length_le (by omega)] at h6
        subst h5
        exact hJ 0 _ (by omega) ⟨cur', v', G', b', g5', g6', sc', hc', hk1, hl1, .inr ⟨h4, rfl, h6⟩⟩
  · simp [g645_1, hM, g6, g5]
    rw [hc.eq hcl] at sc
    exact hR _ _ ⟨G, sc, hk0, hl0⟩
end GL

namespace GL
open Go

theorem l5Closure_ok {h : Heap} {vf vx : V} {k : Nat} {fs : List Dp} {xs : List Int} {F : List Nat} (hf : SdF h vf fs F) (hx : Sl h vx xs) (hd : DepsIn k fs) (hr : xs.Pairwise (· < ·)) (hin : InK k xs) (hk : k ≤ 2 ^ 10) :
    ∃ r h', call p 649 [vf, vx] h = some (r, h') ∧ ∃ G, SdF h' r (clos k fs xs) G ∧ Keeps h h' ∧ h.length ≤ h'.length := by
  have hxl : xs.length ≤ k := rising_len hr hin
  obtain ⟨e0, r, h1, e1, G1, c1, f1, k1, l1⟩ := appNew hx (show xs.length ≤ 2 ^ 20 by omega) (k := 1) (bytes := 8) rfl (by decide)
  refine go (fn := g649) rfl rfl fun R hR => ?_
  simp [g649, hx.len, hx.cells, hx.cell, e0, e1]
  refine Wc_dnM (M := [5, 6, 8, 10, 14, 15, 16, 17, 18, 19, 20, 21, 22, 23, 24, 25, 26, 27, 28, 29, 30, 31, 32, 33, 34, 35, 36, 37, 38, 39, 40, 41, 42, 43]) rfl (fun m s => ∃ (cur : List Int) (v : V) (G : List Nat) (b : Bool), s.σ 5 = .v v ∧ s.σ 6 = .v (.bool b) ∧ SdF s.h v cur G ∧ CurOK k fs xs cur ∧ Keeps h s.h ∧ h.length ≤ s.h.length ∧ ((b = true ∧ m = k + 1 - cur.length) ∨ (b = false ∧ m = 0 ∧ Cld fs cur))) (k + 1 - xs.length)
    ⟨xs, r, G1, true, by simp, by simp, c1, .start hr hin, k1, by simpa using l1, .inl ⟨rfl, rfl⟩⟩ fun m s ⟨cur, v, G, b, g5, g6, sc, hc, hk0, hl0, hb⟩ hM J hJ => ?_
  rcases hb with ⟨rfl, hm⟩ | ⟨rfl, hm, hcl⟩
  · have hlen := hc.len
    simp [g649_2, hM, g6, hf.len]
    refine Wc_upM (M := [5, 6, 8, 10, 17, 18, 19, 20, 21, 22, 23, 24, 25, 26, 27, 28, 29, 30, 31, 32, 33, 34, 35, 36, 37, 38, 39, 40, 41, 42, 43]) rfl fs.length (fun i s => s.σ 17 = .v (vi i) ∧ ∃ (cur' : List Int) (v : V) (G : List Nat) (b : Bool), s.σ 5 = .v v ∧ s.σ 6 = .v (.bool b) ∧ SdF s.h v cur' G ∧ CurOK k fs xs cur' ∧ Keeps h s.h ∧ h.length ≤ s.h.length ∧ ((b = true ∧ cur.length < cur'.length) ∨ (b = false ∧ cur' = cur ∧ ∀ f ∈ fs.take i, (∀ x ∈ f.l, x ∈ cur) → ∀ x ∈ f.r, x ∈ cur))) 0
      ⟨by simp, cur, v, G, false, by simp [g5], by simp, sc, hc, hk0, hl0, .inr ⟨rfl, rfl, by simp⟩⟩ fun i s1 ⟨g14, cur', v', G', b', g5', g6', sc', hc', hk1, hl1, hb'⟩ hM1 J1 hJ1 => ?_
    by_cases hn : i < fs.length
    · have hf1 := hf.keep hk1
      obtain ⟨x, y, F1, F2, ld, sx, sy, _⟩ := hf1.loadDp i hn
      have st := hf.step hn
      have hmem := List.getElem_mem hn
      have e2 := l5Sub_eq sx.sl sc'.sl
      by_cases hall : ∀ x ∈ fs[i].l, x ∈ cur'
      · have ea : (fs[i].l.all fun n => decide (n ∈ cur')) = true := List.all_eq_true.2 fun x hx => by simpa using hall x hx
        rw [ea] at e2
        have e3 := l5Sub_eq sy.sl sc'.sl
        by_cases hall2 : ∀ x ∈ fs[i].r, x ∈ cur'
        · have eb : (fs[i].r.all fun n => decide (n ∈ cur')) = true := List.all_eq_true.2 fun x hx => by simpa using hall2 x hx
          rw [eb] at e3
          simp [g649_1, hM1, hM, g14, g5', g6', hn, hf1.idx, ld, upd, sx.cells, sx.cell, sy.cells, sy.cell, e2, e3, st]
          refine hJ1 _ hn ⟨by simp, cur', v', G', b', by simp [g5'], by simp [g6'], sc', hc', hk1, hl1, ?_⟩
          rcases hb' with hb' | ⟨h4, h5, h6⟩
          · exact .inl hb'
          · subst h5
            exact .inr ⟨h4, rfl, (all_take_succ hn).2 ⟨h6, fun _ => hall2⟩⟩
        · have eb : (fs[i].r.all fun n => decide (n ∈ cur')) = false := by
            rw [Bool.eq_false_iff]; intro h; exact hall2 fun x hx => by simpa using List.all_eq_true.1 h x hx
          rw [eb] at e3
          have hyl := rising_len hc'.ris hc'.ink
          have hrl := rising_len (hd _ hmem).2.2.2 (hd _ hmem).2.1
          simp [g649_1, hM1, hM, g14, g5', g6', hn, hf1.idx, ld, upd, sx.cells, sx.cell, sy.cells, sy.cell, sy.len, e2, e3, st]
          refine Wc_upM (M := [5, 10, 35, 36, 37, 38, 39, 40, 41, 42]) rfl fs[i].r.length (fun j s => s.σ 35 = .v (vi j) ∧ ∃ (c2 : List Int) (v : V) (G : List Nat), s.σ 5 = .v v ∧ SdF s.h v c2 G ∧ c2.Pairwise (· < ·) ∧ (∀ x, x ∈ c2 ↔ x ∈ cur' ∨ x ∈ fs[i].r.take j) ∧ c2.length ≤ cur'.length + j ∧ Keeps s1.h s.h ∧ s1.h.length ≤ s.h.length) 0
            ⟨by simp, cur', v', G', by simp [g5'], sc', hc'.ris, by simp, by omega, Keeps.refl _, Nat.le_refl _⟩ fun j s2 ⟨g35, c2, v2, G2, g52, sc2, hr2, hm2, hl2, hk2, hlen2⟩ hM2 J2 hJ2 => ?_
          by_cases hj : j < fs[i].r.length
          · have sy2 := (sy.keep hk2).sl
            have ix := sy2.idx 1 .i64 j hj
            have ldj := sy2.loadI j hj
            have stj := sy2.step hj
            simp only [Nat.mul_one] at ix
            obtain ⟨r5, h5, e5, ys, G5, sc5, hr5, hm5, hl5, _, k5, l5⟩ := l1Put_ok sc2 hr2 (by omega) fs[i].r[j]
            have hts := List.take_succ_eq_append_getElem hj
            simp [g649_0, hM2, hM1, hM, g35, g52, hj, ix, ldj, upd, e5, stj]
            refine hJ2 _ hj ⟨by simp, ys, r5, G5, by simp, sc5, hr5, fun x => by rw [hm5 x, hm2 x, hts, List.mem_append, List.mem_singleton, or_assoc], by omega, hk2.trans k5, by show s1.h.length ≤ h5.length; omega⟩
          · rw [List.take_of_length_le (by omega)] at hm2
            have g6f : s2.σ 6 = .v (.bool true) := by rw [hM2 6 (by simp)]; simp
            have stj := st
            simp [g649_0, hM2, hM1, hM, g35, g52, hj, stj, g14]
            refine hJ1 _ hn ⟨by simp, c2, v2, G2, true, by simp [g52], by simp [g6f], sc2, hc'.grow hd hmem hall hr2 hm2, hk1.trans hk2, by show h.length ≤ s2.h.length; omega, .inl ⟨rfl, ?_⟩⟩
            obtain ⟨z, hz, hzn⟩ : ∃ z ∈ fs[i].r, z ∉ cur' := by
              apply Classical.byContradiction; intro hne; exact hall2 fun x hx => Classical.byContradiction fun hx' => hne ⟨x, hx, hx'⟩
            have h9 := longer hc'.ris (ys := c2) (fun x hx => (hm2 x).2 (.inl hx)) ((hm2 z).2 (.inr hz)) hzn
            rcases hb' with ⟨_, h5⟩ | ⟨_, h5, _⟩
            · omega
            · subst h5; exact h9
      · have ea : (fs[i].l.all fun n => decide (n ∈ cur')) = false := by
          rw [Bool.eq_false_iff]; intro h; exact hall fun x hx => by simpa using List.all_eq_true.1 h x hx
        rw [ea] at e2
        simp [g649_1, hM1, hM, g14, g5', g6', hn, hf1.idx, ld, upd, sx.cells, sx.cell, sy.cells, sy.cell, e2, st]
        refine hJ1 _ hn ⟨by simp, cur', v', G', b', by simp [g5'], by simp [g6'], sc', hc', hk1, hl1, ?_⟩
        rcases hb' with hb' | ⟨h4, h5, h6⟩
        · exact .inl hb'
        · subst h5
          exact .inr ⟨h4, rfl, (all_take_succ hn).2 ⟨h6, fun h => absurd h hall⟩⟩
    · simp [g649_1, hM1, g14, hn]
      rcases hb' with ⟨h4, h5⟩ | ⟨h4, h5, h6⟩
      · have := hc'.len
        exact hJ _ _ (by omega) ⟨cur', v', G', b', g5', g6', sc', hc', hk1, hl1, .inl ⟨h4, rfl⟩⟩
      · rw [List.take_of_length_le (by omega)] at h6
        subst h5
        exact hJ 0 _ (by omega) ⟨cur', v', G', b', g5', g6', sc', hc', hk1, hl1, .inr ⟨h4, rfl, h6⟩⟩
  · simp [g649_2, hM, g6, g5]
    rw [hc.eq hcl] at sc
    exact hR _ _ ⟨G, sc, hk0, hl0⟩
end GL

namespace GL
open Go

end GL

namespace GL
open Go

end GL

namespace GL
open Go

theorem ris_of {lo hi : Int} {xs : List Int} : risB lo hi xs = true ↔ (∀ x ∈ xs, lo ≤ x ∧ x ≤ hi) ∧ xs.Pairwise (· < ·) := by simp only [risB, decide_eq_true_eq]
theorem ris_in {k : Nat} {xs : List Int} (h : risB 0 ((k : Int) - 1) xs = true) : InK k xs ∧ xs.Pairwise (· < ·) := by
  obtain ⟨h1, h2⟩ := ris_of.1 h
  exact ⟨fun x hx => by have := h1 x hx; omega, h2⟩
theorem okDp_in {k : Nat} {f : Dp} (h : okDp k f = true) : InK k f.l ∧ InK k f.r ∧ f.l.Pairwise (· < ·) ∧ f.r.Pairwise (· < ·) := by
  simp only [okDp, Bool.and_eq_true] at h
  exact ⟨(ris_in h.1).1, (ris_in h.2).1, (ris_in h.1).2, (ris_in h.2).2⟩
theorem okDps_in {k : Nat} {fs : List Dp} (h : okDps k fs = true) : (1 ≤ k ∧ k ≤ 6) ∧ fs.length ≤ 8 ∧ DepsIn k fs := by
  simp only [okDps, Bool.and_eq_true, decide_eq_true_eq, List.all_eq_true] at h
  exact ⟨by omega, h.1.2, fun f hf => okDp_in (h.2 f hf)⟩

end GL

namespace GL
open Go

/-! keys: lists that settle all, and no part of which does -/
def Bx (h : Heap) (b : Nat) (x : V) : Prop := ∃ st, st ≠ .dead ∧ h[b]? = some ⟨st, [x]⟩
theorem Bx.rd {h : Heap} {b : Nat} {x : V} (hb : Bx h b x) : rdH h b 0 1 = some [x] := by
  obtain ⟨st, h1, h2⟩ := hb
  rw [rdH_at h2 h1]; rfl
theorem Bx.keeps {h h' : Heap} {b : Nat} {x : V} {P : Nat → Prop} (hb : Bx h b x) (k : KeepsP P h h') (hp : P b) : Bx h' b x := by
  obtain ⟨st, h1, h2⟩ := hb
  exact ⟨st, h1, k _ _ hp h2 h1⟩
theorem Bx.keep {h h' : Heap} {b : Nat} {x : V} (hb : Bx h b x) (k : Keeps h h') : Bx h' b x := hb.keeps (k.p fun _ => True) trivial
theorem Bx.last (h : Heap) (x : V) : Bx (h ++ [⟨.own, [x]⟩]) h.length x := ⟨.own, by simp, get_last _ _⟩
theorem Bx.lt {h : Heap} {b : Nat} {x : V} (hb : Bx h b x) : b < h.length := by obtain ⟨_, _, h2⟩ := hb; exact get_lt h2

end GL

namespace GL
open Go

theorem OdF.od {α : Type} [Data α] {lo : Nat} {h : Heap} {v : V} {xs : List α} {G : List Nat} (o : OdF lo h v xs G) : Od lo h v xs G := o.1

end GL

namespace GL
open Go

end GL

namespace GL
open Go

end GL

namespace GL
open Go

end GL

namespace GL
open Go

theorem DepsIn.sub {k : Nat} {fs gs : List Dp} (h : DepsIn k fs) (hs : ∀ f ∈ gs, f ∈ fs) : DepsIn k gs := fun f hf => h f (hs f hf)
end GL

namespace GL
open Go

end GL

namespace GL
open Go

end GL

namespace GL
open Go

theorem DC.someCols {h0 h : Heap} {N : Nat} (d : DC h0 h N) (hN : N < 2 ^ 57) (n : Nat) (hn : n ≤ 30) : ∃ v h', call p 658 [.ptr h0.length 0, vi n] h = some (v, h') ∧ ∃ (xs : List Int), Out h.length h' v xs ∧ xs.length ≤ 31 ∧ DC h0 h' (N + 70) ∧ KeepsBut h0.length h h' ∧ h.length ≤ h'.length := by
  have hlt := d.lt
  refine go (fn := g658) rfl rfl fun R hR => ?_
  simp [g658]
  refine Wc_upM (M := [5, 6, 7, 8, 9, 10, 11, 12, 13, 14, 15, 16, 17]) rfl n (fun i s => i ≤ n ∧ s.σ 6 = .v (vi i) ∧ ∃ (xs : List Int) (v : V), s.σ 5 = .v v ∧ Out h.length s.h v xs ∧ xs.length ≤ i ∧ DC h0 s.h (N + i * 2) ∧ KeepsBut h0.length h s.h ∧ h.length ≤ s.h.length) 0
    ⟨by omega, by simp, [], .nils, by simp, Out.nil (Nat.le_refl _), by simp, by simpa using d, KeepsBut.refl _ _, by simp⟩ fun i s ⟨gi, g6, xs, v, g5, ho, hx, d, kb, hl⟩ hM J hJ => ?_
  by_cases hi : i < n
  · have w1 : IntKind.i64.wrap ((i : Int) + 1) = (i + 1 : Nat) := by rw [IntWalk.i64_in] <;> omega
    obtain ⟨b, h1, e1, d1, k1, l1⟩ := d.one (by omega) 3 (by decide)
    have o1 := k1.out ho (by omega) (by omega)
    cases b
    · simp [g658_0, hM, g6, hi, e1, w1, -Int.natCast_add]
      exact hJ _ hi ⟨hi, by simp, xs, v, by simp [g5], o1, by omega, d1.mono (by omega), kb.trans k1, by show h.length ≤ h1.length; omega⟩
    · obtain ⟨v', h2, e2, o2, d2, k2, l2⟩ := Out.draw (k := 1) (bytes := 8) d1 (kb.trans k1) o1 (Nat.le_refl _) hlt (i : Int) (by omega) rfl (by decide) rfl
      simp [Flat.cells] at e2
      simp [g658_0, hM, g6, g5, hi, e1, fillL, rdS_last, e2, w1, -Int.natCast_add]
      exact hJ _ hi ⟨hi, by simp, _, v', by simp, o2, by simp; omega, d2.mono (by omega), k2, by show h.length ≤ h2.length; omega⟩
  · obtain ⟨b, h1, e1, d1, k1, l1⟩ := d.one (by omega) 40 (by decide)
    have o1 := k1.out ho (by omega) (by omega)
    cases b
    · simp [g658_0, hM, g6, g5, hi, e1]
      exact hR _ _ ⟨xs, o1, by omega, d1.mono (by omega), kb.trans k1, by omega⟩
    · obtain ⟨v', h2, e2, o2, d2, k2, l2⟩ := Out.draw (k := 1) (bytes := 8) d1 (kb.trans k1) o1 (Nat.le_refl _) hlt (n : Int) (by omega) rfl (by decide) rfl
      simp [Flat.cells] at e2
      simp [g658_0, hM, g6, g5, hi, e1, fillL, rdS_last, e2]
      exact hR _ _ ⟨_, o2, by simp; omega, d2.mono (by omega), k2, by omega⟩

theorem DC.cols {h0 h : Heap} {N : Nat} (d : DC h0 h N) (hN : N < 2 ^ 57) : ∃ v h', call p 670 [.ptr h0.length 0] h = some (v, h') ∧ ∃ (n : Nat), v = vi n ∧ n ≤ 7 ∧ DC h0 h' (N + 2) ∧ KeepsBut h0.length h h' ∧ h.length ≤ h'.length := by
  obtain ⟨x, h1, e1, hx, d1, k1, l1⟩ := d.amongL (by omega) [0, 1, 3, 4, 4, 5, 6, 7] 8 rfl [vi 0, vi 1, vi 3, vi 4, vi 4, vi 5, vi 6, vi 7] rfl (.k 8) (by decide) (by decide)
  refine go (fn := g670) rfl rfl fun R hR => ?_
  simp [g670, fillL, e1]
  have hx' : 0 ≤ x ∧ x ≤ 7 := by simp at hx; omega
  exact hR _ _ ⟨x.toNat, by congr 1; omega, by omega, d1, k1, l1⟩

theorem two_fresh {h h5 h4 : Heap} {c : Nat} {F1 F2 : List Nat} {n : Nat} (hc : c < n) (f1 : Fresh n h4 F1) (f2 : Fresh h4.length h5 F2) (k5 : KeepsBut c h4 h5) (hn : n ≤ h4.length) : Fresh n h5 (F1 ++ F2) := by
  have n1 : ∀ b ∈ F1, b ≠ c := fun b hb => by have := f1.ge b hb; omega
  have f1' := f1.keeps (k5.P.mono n1)
  exact ⟨List.nodup_append.2 ⟨f1.nodup, f2.nodup, fun a ha b hb e => by have := (f1.own a ha).lt; have := f2.ge b hb; omega⟩, fun b hb => by
    rcases List.mem_append.1 hb with hb | hb
    · exact f1.ge b hb
    · have := f2.ge b hb; omega, fun b hb => by
    rcases List.mem_append.1 hb with hb | hb
    · exact f1'.own b hb
    · exact f2.own b hb⟩

theorem DC.deps {h0 h : Heap} {N : Nat} (d : DC h0 h N) (hN : N < 2 ^ 56) (n : Nat) (hn : n ≤ 30) : ∃ v h', call p 671 [.ptr h0.length 0, vi n] h = some (v, h') ∧ ∃ (xs : List Dp) (F : List Nat), SdF h' v xs F ∧ (∀ b ∈ F, h.length ≤ b) ∧ DC h0 h' (N + 2000) ∧ KeepsBut h0.length h h' ∧ h.length ≤ h'.length := by
  have hlt := d.lt
  refine go (fn := g671) rfl rfl fun R hR => ?_
  obtain ⟨a, h1, e1, ha, d1, k1, l1⟩ := d.pick (by omega) 6 (by decide)
  obtain ⟨one, h2, e2, d2, k2, l2⟩ := d1.one (by omega) 20 (by decide)
  have loop : ∀ (k : Nat) (s0 : S) (K : Ex → S → Prop), k ≤ 9 → s0.σ 0 = .v (.ptr h0.length 0) → s0.σ 1 = .v (vi n) → s0.σ 5 = .v .nils → s0.σ 6 = .v (vi k) → DC h0 s0.h (N + 6) → KeepsBut h0.length h s0.h → h.length ≤ s0.h.length →
      (∀ s v (xs : List Dp) F, s.σ 5 = .v v → OdF h.length s.h v xs F → DC h0 s.h (N + 2000) → KeepsBut h0.length h s.h → h.length ≤ s.h.length → K (.exit 0) s) → Wc p (.loop g671_0) s0 K := by
    intro k s0 K hk g0 g1 g5 g6 dc kb hl hK
    refine Wc_dnM (M := [5, 6, 14, 15, 16, 17, 18, 19, 20, 21, 22, 23, 24, 25, 26, 27]) rfl (fun k s => k ≤ 9 ∧ s.σ 6 = .v (vi k) ∧ ∃ (xs : List Dp) (v : V) (G : List Nat), xs.length + k ≤ 9 ∧ s.σ 5 = .v v ∧ OdF h.length s.h v xs G ∧ DC h0 s.h (N + 6 + 140 * xs.length) ∧ KeepsBut h0.length h s.h ∧ h.length ≤ s.h.length) k
      ⟨hk, g6, [], .nils, [], by simpa using hk, g5, OdF.nil hl, by simpa using dc, kb, hl⟩ fun k s ⟨hk, g6, xs, v, G, hx, g5, ho, dc, kb, hl⟩ hM J hJ => ?_
    by_cases hk0 : 0 < k
    · have hk0' : (0 : Int) < k := by omega
      have w2 : IntKind.i64.wrap ((k : Int) - 1) = (k - 1 : Nat) := by rw [IntWalk.i64_in] <;> omega
      obtain ⟨x, h4, e4, az, o4, _, d4, k4, l4⟩ := dc.someCols (by omega) n hn
      obtain ⟨y, h5, e5, bs, o5, _, d5, k5, l5⟩ := d4.someCols (by omega) n hn
      obtain ⟨F1, s1, f1⟩ := o4.fr
      obtain ⟨F2, s2, f2⟩ := o5.fr
      have n1 : ∀ b ∈ F1, b ≠ h0.length := fun b hb => by have := f1.ge b hb; omega
      have s1' := s1.keeps (k5.P.mono n1)
      have f12 := two_fresh (h := h) (by omega) f1 f2 k5 l4
      have hr : Data.rep h5 (⟨az, bs⟩ : Dp) [x, y] (F1 ++ F2) := ⟨x, y, F1, F2, rfl, rfl, s1', s2⟩
      have kk := k4.trans k5
      obtain ⟨v', h6, e6, o6, d6, k6, l6⟩ := OdF.draw d5 (kb.trans kk) ho kk (by omega) (Nat.le_refl _) (by omega) f12 hr (by omega) (k := 2) rfl (bytes := 48) (by decide)
      have z1 := s1'.cells
      have z2 := s1'.cell
      have z3 := s2.cells
      have z4 := s2.cell
      simp [g671_0, hM, g0, g1, g6, g5, hk0, hk0', e4, e5, z1, z2, z3, z4, rdS_last, e6, fillL, w2, -Int.natCast_add]
      exact hJ (k - 1) _ (by omega) ⟨by omega, by simp, xs ++ [⟨az, bs⟩], v', G ++ (F1 ++ F2), by simp; omega, by simp, o6, d6.mono (by simp; omega), k6, by show h.length ≤ h6.length; omega⟩
    · have : k = 0 := by omega
      subst this
      simp [g671_0, hM, g6]
      exact hK _ v xs G (by simp [g5]) ho (dc.mono (by omega)) kb hl
  have fin : ∀ s v (xs : List Dp) F, OdF h.length s v xs F → DC h0 s (N + 2000) → KeepsBut h0.length h s → h.length ≤ s.length → R v s := fun s v xs F ho d2 k2 l2 => by
    obtain ⟨F', hs, fr⟩ := ho.fresh
    exact hR _ _ ⟨xs, F', hs, fr.ge, d2, k2, l2⟩
  cases one with
  | false =>
    simp [g671, e1, e2]
    refine loop a _ _ (by omega) (by simp) (by simp) (by simp) (by simp) (d2.mono (by omega)) (k1.trans k2) (by show h.length ≤ h2.length; omega) fun s v xs F g5 ho dd kk ll => ?_
    simp [g5]
    exact fin _ _ _ _ ho dd kk ll
  | true =>
    obtain ⟨b, h3, e3, hb, d3, k3, l3⟩ := d2.pick (by omega) 2 (by decide)
    have w1 : IntKind.i64.wrap (8 + (b : Int)) = (8 + b : Nat) := by rw [IntWalk.i64_in] <;> omega
    simp [g671, e1, e2, e3, w1, -Int.natCast_add]
    refine loop (8 + b) _ _ (by omega) (by simp) (by simp) (by simp) (by simp) (d3.mono (by omega)) ((k1.trans k2).trans k3) (by show h.length ≤ h3.length; omega) fun s v xs F g5 ho dd kk ll => ?_
    simp [g5]
    exact fin _ _ _ _ ho dd kk ll

end GL

namespace GL
open Go

/-! relations: columns and rows -/
structure Rl where
  c : List Int
  rows : List (List Int)
def RlV (h : Heap) (v : V) (r : Rl) : Prop := ∃ x y F1 F2, v = .agg [x, y] ∧ SdF h x r.c F1 ∧ SdF h y r.rows F2
theorem RlV.keep {h h' : Heap} {v : V} {r : Rl} (hr : RlV h v r) (k : Keeps h h') : RlV h' v r := by
  obtain ⟨x, y, F1, F2, rfl, h1, h2⟩ := hr
  exact ⟨x, y, F1, F2, rfl, h1.keep k, h2.keep k⟩

def ltL : List Int → List Int → Bool
  | [], _ => false
  | _ :: _, [] => false
  | x :: xs, y :: ys => if x = y then ltL xs ys else decide (x < y)

theorem cmpI_eq (x y : Int) (h : Heap) : call p 159 [vi x, vi y] h = some (vi (if x < y then -1 else if y < x then 1 else 0), h) := by
  refine go_eq (fn := g159) rfl rfl fun R hR => ?_
  by_cases h1 : x < y
  · rw [if_pos h1] at hR
    simp [g159, isNaN_eq, h1]; exact hR
  · rw [if_neg h1] at hR
    by_cases h2 : y < x
    · rw [if_pos h2] at hR
      simp [g159, isNaN_eq, h1, h2]; exact hR
    · rw [if_neg h2] at hR
      simp [g159, isNaN_eq, h1, h2]; exact hR
theorem ltL_drop {a b : List Int} {i : Nat} (ha : i < a.length) (hb : i < b.length) : ltL (a.drop i) (b.drop i) = if a[i] = b[i] then ltL (a.drop (i + 1)) (b.drop (i + 1)) else decide (a[i] < b[i]) := by
  rw [List.drop_eq_getElem_cons ha, List.drop_eq_getElem_cons hb, ltL]

theorem l3Less_eq {h : Heap} {v w : V} {a b : List Int} (ha : Sl h v a) (hb : Sl h w b) (hl : a.length = b.length) : call p 678 [v, w] h = some (.bool (ltL a b), h) := by
  refine go_eq (fn := g678) rfl rfl fun R hR => ?_
  simp [g678, ha.len]
  refine Wc_upM (M := [4, 5, 8, 9, 10, 11, 12, 13, 14, 15, 16, 17, 18, 19, 20, 21, 22, 23, 24, 25, 26, 27, 28, 29]) rfl a.length (fun i s => s.σ 8 = .v (vi i) ∧ s.h = h ∧ ltL a b = ltL (a.drop i) (b.drop i)) 0 (by simp) fun i s ⟨g8, gh, he⟩ hM J hJ => ?_
  by_cases hi : i < a.length
  · have hib : i < b.length := by omega
    have ix := ha.idx 1 .i64 i hi
    have iy := hb.idx 1 .i64 i hib
    have ld := ha.loadI i hi
    have le := hb.loadI i hib
    simp only [Nat.mul_one] at ix iy
    have st := ha.step hi
    rw [ltL_drop hi hib] at he
    generalize a[i] = p at *
    generalize b[i] = q at *
    by_cases hpq : p = q
    · rw [if_pos hpq] at he
      simp [g678_0, hM, g8, gh, hi, ix, iy, ld, le, hpq, st]
      exact hJ _ hi ⟨by simp, rfl, he⟩
    · rw [if_neg hpq] at he
      rw [he] at hR
      simp [g678_0, hM, g8, gh, hi, ix, iy, ld, le, hpq, st]
      exact hR
  · rw [List.drop_of_length_le (by omega)] at he
    rw [he] at hR
    simp [g678_0, hM, g8, gh, hi]
    exact hR
theorem CompareI_eq {h : Heap} {v w : V} {a b : List Int} (ha : Sl h v a) (hb : Sl h w b) (hl : a.length = b.length) : ∃ k : Int, call p 677 [v, w] h = some (vi k, h) ∧ decide (0 ≤ k) = !ltL a b := by
  have : ∃ r h', call p 677 [v, w] h = some (r, h') ∧ ∃ k : Int, r = vi k ∧ h' = h ∧ decide (0 ≤ k) = !ltL a b := by
    refine go (fn := g677) rfl rfl fun R hR => ?_
    simp [g677, ha.len]
    refine Wc_upM (M := [4, 5, 6, 7, 8, 11, 12, 13, 14, 15, 16, 17, 18, 19, 20, 21, 22, 23, 24, 25, 26, 27, 28, 29, 30]) rfl a.length (fun i s => s.σ 11 = .v (vi i) ∧ s.h = h ∧ ltL a b = ltL (a.drop i) (b.drop i)) 0 (by simp) fun i s ⟨g8, gh, he⟩ hM J hJ => ?_
    by_cases hi : i < a.length
    · have hib : i < b.length := by omega
      have hib' : ¬ b.length ≤ i := by omega
      have ix := ha.idx 1 .i64 i hi
      have iy := hb.idx 1 .i64 i hib
      have ld := ha.loadI i hi
      have le := hb.loadI i hib
      simp only [Nat.mul_one] at ix iy
      have st := ha.step hi
      rw [ltL_drop hi hib] at he
      have hbl := hb.len
      have ec := cmpI_eq a[i] b[i] h
      generalize a[i] = p at *
      generalize b[i] = q at *
      by_cases hpq : p = q
      · rw [if_pos hpq] at he
        subst hpq
        rw [if_neg (by omega), if_neg (by omega)] at ec
        simp [g677_0, hM, g8, gh, hi, ix, iy, ld, le, hbl, hib', ec, st]
        exact hJ _ hi ⟨by simp, rfl, he⟩
      · rw [if_neg hpq] at he
        by_cases hlt : p < q
        · rw [if_pos hlt] at ec
          rw [decide_eq_true hlt] at he
          simp [g677_0, hM, g8, gh, hi, ix, iy, ld, le, hbl, hib', ec, st]
          exact hR _ _ ⟨-1, rfl, rfl, by simp [he]⟩
        · rw [if_neg hlt, if_pos (by omega)] at ec
          rw [decide_eq_false hlt] at he
          simp [g677_0, hM, g8, gh, hi, ix, iy, ld, le, hbl, hib', ec, st]
          exact hR _ _ ⟨1, rfl, rfl, by simp [he]⟩
    · rw [List.drop_of_length_le (by omega)] at he
      have hbl : lenV w = some a.length := by rw [hl]; exact hb.len
      simp [g677_0, hM, g8, gh, hi, ha.len, hbl]
      exact hR _ _ ⟨0, rfl, rfl, by simp [he, ltL]⟩
  obtain ⟨_, _, e, k, rfl, rfl, hk⟩ := this
  exact ⟨k, e, hk⟩

/-- a part of the columns, rising -/
def partB (c xs : List Int) : Bool := (xs.all fun x => decide (x ∈ c)) && decide (xs.Pairwise (· < ·))
end GL

namespace GL
open Go

def smallQ (n : Int) : Bool := decide (-1000 ≤ n ∧ n ≤ 1000)
def rowQ2 (n : Nat) (rows : List (List Int)) (j : Nat) : Bool := decide ((rows.getD j []).length = n) && (rows.getD j []).all smallQ && (decide (j = 0) || ltL (rows.getD (j - 1) []) (rows.getD j []))
def rowsP2 (n : Nat) (rows : List (List Int)) (i : Nat) : Bool := (List.range i).all (rowQ2 n rows)
def goodRl (r : Rl) : Bool := decide (r.c.length ≤ 6) && risB 0 20 r.c && decide (r.rows.length ≤ 60) && rowsP2 r.c.length r.rows r.rows.length
theorem rowsP2_succ (n : Nat) (rows : List (List Int)) (i : Nat) : rowsP2 n rows (i + 1) = (rowsP2 n rows i && rowQ2 n rows i) := by
  simp [rowsP2, List.range_succ]
theorem rowsP2_false {n : Nat} {rows : List (List Int)} {i : Nat} (hi : i < rows.length) (h : rowQ2 n rows i = false) : rowsP2 n rows rows.length = false := by
  rw [rowsP2, List.all_eq_false]; exact ⟨i, List.mem_range.2 hi, by simp [h]⟩
theorem rowsP2_at {n : Nat} {rows : List (List Int)} {i j : Nat} (h : rowsP2 n rows i = true) (hj : j < i) : rowQ2 n rows j = true := List.all_eq_true.1 h j (List.mem_range.2 hj)
theorem notSmall_eq (n : Int) (h : Heap) : call p 676 [vi n] h = some (.bool (!smallQ n), h) := by
  refine go_eq (fn := g676) rfl rfl fun R hR => ?_
  unfold smallQ at hR
  simp [g676, -Bool.decide_and]; exact hR

theorem GoodRelation_eq {h : Heap} {v : V} {r : Rl} (hv : RlV h v r) : call p 659 [v] h = some (.bool (goodRl r), h) := by
  obtain ⟨x, y, F1, F2, rfl, hx, hy⟩ := hv
  have hxs := hx.sl
  have er := isRising_eq hxs 0 20
  refine go_eq (fn := g659) rfl rfl fun R hR => ?_
  by_cases h6 : r.c.length ≤ 6
  · have h6' : ¬ (6 : Int) < r.c.length := by omega
    cases hr : risB 0 20 r.c with
    | false =>
      rw [hr] at er
      rw [goodRl, hr, Bool.and_false] at hR
      simp [g659, upd, hx.cells, hx.cell, hy.cells, hy.cell, hx.len, h6', er]
      exact hR
    | true =>
      rw [hr] at er
      by_cases h60 : r.rows.length ≤ 60
      · have h60' : ¬ (60 : Int) < r.rows.length := by omega
        simp [g659, upd, hx.cells, hx.cell, hy.cells, hy.cell, hx.len, h6', er, hy.len, h60']
        refine Wc_upM (M := [2, 3, 4, 24, 25, 26, 27, 28, 29, 30, 31, 32, 33, 34, 35, 36, 37, 38, 39, 40, 41, 42, 43, 44, 45, 46, 47, 48, 49, 50, 51, 52]) rfl r.rows.length (fun i s => i ≤ r.rows.length ∧ s.σ 24 = .v (vi i) ∧ s.h = h ∧ s.L 1 = (1, [x, y]) ∧ rowsP2 r.c.length r.rows i = true) 0 ⟨by omega, by simp, rfl, by simp [upd], rfl⟩ fun i s ⟨gi, g24, gh, gL, hp⟩ hM J hJ => ?_
        by_cases hi : i < r.rows.length
        · obtain ⟨z, F3, ez, hz, _⟩ := hy.loadL i hi
          have ix := hy.idx 1 .i64 i hi
          simp only [Nat.mul_one] at ix
          have st := hy.step hi
          have bad : rowQ2 r.c.length r.rows i = false → R (.bool false) h := fun hb => by
            rw [goodRl, rowsP2_false hi hb, Bool.and_false] at hR; exact hR
          have gd : r.rows.getD i [] = r.rows[i] := getD_in hi _
          have hS := rowsP2_succ r.c.length r.rows i
          rw [hp, Bool.true_and] at hS
          by_cases hl : r.rows[i].length = r.c.length
          · have ec := containsFh_eq hz.sl 676 [] (fun n => !smallQ n) fun n => notSmall_eq n h
            have ea : (r.rows[i].any fun n => !smallQ n) = !(r.rows[i].all smallQ) := by rw [List.not_all_eq_any_not]
            rw [ea] at ec
            cases hs : r.rows[i].all smallQ with
            | false =>
              rw [hs] at ec
              have hzl := hz.len
              rw [hl] at hzl
              simp [g659_0, hM, g24, gh, gL, hi, ix, ez, upd, hzl, hx.len, ec]
              exact bad (by rw [rowQ2, gd, hs]; simp)
            | true =>
              rw [hs] at ec
              have hzl := hz.len
              rw [hl] at hzl
              by_cases h0 : 0 < i
              · have w : IntKind.i64.wrap ((i : Int) - 1) = (i - 1 : Nat) := by rw [IntWalk.i64_in] <;> omega
                have hi1 : i - 1 < r.rows.length := by omega
                obtain ⟨z2, F4, ez2, hz2, _⟩ := hy.loadL (i - 1) hi1
                have ix2 := hy.idx 1 .i64 (i - 1) hi1
                simp only [Nat.mul_one] at ix2
                have gd2 : r.rows.getD (i - 1) [] = r.rows[i - 1] := getD_in hi1 _
                have hl2 : r.rows[i - 1].length = r.c.length := by
                  have := rowsP2_at hp (show i - 1 < i by omega)
                  rw [rowQ2, gd2] at this
                  simp at this; exact this.1.1
                obtain ⟨k, ek, hk⟩ := CompareI_eq hz2.sl hz.sl (by omega)
                have hq : rowQ2 r.c.length r.rows i = ltL r.rows[i - 1] r.rows[i] := by
                  rw [rowQ2, gd, gd2, hs, decide_eq_true hl, decide_eq_false (by omega : ¬ i = 0)]; rfl
                cases hlt : ltL r.rows[i - 1] r.rows[i] with
                | true =>
                  rw [hlt] at hk hq
                  have hk' : ¬ 0 ≤ k := of_decide_eq_false hk
                  simp [g659_0, hM, g24, gh, gL, hi, ix, ez, upd, hzl, hx.len, ec, h0, w, ix2, ez2, ek, hk', st, -Int.natCast_add]
                  exact hJ _ hi ⟨hi, by simp, by simp, by simp [gL], by rw [hS, hq]⟩
                | false =>
                  rw [hlt] at hk hq
                  have hk' : 0 ≤ k := of_decide_eq_true hk
                  simp [g659_0, hM, g24, gh, gL, hi, ix, ez, upd, hzl, hx.len, ec, h0, w, ix2, ez2, ek, hk']
                  exact bad hq
              · have h0i : i = 0 := by omega
                subst h0i
                have hq : rowQ2 r.c.length r.rows 0 = true := by rw [rowQ2, gd, hs, decide_eq_true hl]; rfl
                simp at g24
                simp at ix ez
                simp at st
                simp [g659_0, hM, g24, gh, gL, hi, ix, ez, upd, hzl, hx.len, ec, st]
                exact hJ _ hi ⟨hi, by simp, by simp, by simp [gL], by rw [hS, hq]⟩
          · have hne : ¬ (r.rows[i].length : Int) = r.c.length := by omega
            simp [g659_0, hM, g24, gh, gL, hi, ix, ez, upd, hz.len, hx.len, hl, hne]
            exact bad (by rw [rowQ2, gd, decide_eq_false hl]; rfl)
        · have : i = r.rows.length := by omega
          subst this
          rw [goodRl, hp, hr, decide_eq_true h6, decide_eq_true h60] at hR
          simp [g659_0, hM, g24, gh]
          exact hR
      · have h60' : (60 : Int) < r.rows.length := by omega
        rw [goodRl, decide_eq_false h60, Bool.and_false] at hR
        simp [g659, upd, hx.cells, hx.cell, hy.cells, hy.cell, hx.len, h6', er, hy.len, h60']
        exact hR
  · have h6' : (6 : Int) < r.c.length := by omega
    rw [goodRl, decide_eq_false h6] at hR
    simp [g659, upd, hx.cells, hx.cell, hy.cells, hy.cell, hx.len, h6']
    exact hR
end GL

namespace GL
open Go

theorem GoodRelationS_eq {h : Heap} {v : V} {r : Rl} (hv : RlV h v r) : call p 662 [v] h = some (.bool (goodRl r), h) := by
  obtain ⟨x, y, F1, F2, rfl, hx, hy⟩ := hv
  have hxs := hx.sl
  have er := l1Rising_eq hxs 0 20
  refine go_eq (fn := g662) rfl rfl fun R hR => ?_
  by_cases h6 : r.c.length ≤ 6
  · have h6' : ¬ (6 : Int) < r.c.length := by omega
    cases hr : risB 0 20 r.c with
    | false =>
      rw [hr] at er
      rw [goodRl, hr, Bool.and_false] at hR
      simp [g662, upd, hx.cells, hx.cell, hy.cells, hy.cell, hx.len, h6', er]
      exact hR
    | true =>
      rw [hr] at er
      by_cases h60 : r.rows.length ≤ 60
      · have h60' : ¬ (60 : Int) < r.rows.length := by omega
        simp [g662, upd, hx.cells, hx.cell, hy.cells, hy.cell, hx.len, h6', er, hy.len, h60']
        refine Wc_upM (M := [2, 3, 4, 24, 25, 26, 27, 28, 29, 30, 31, 32, 33, 34, 35, 36, 37, 38, 39, 40, 41, 42, 43, 44, 45, 46, 47, 48, 49, 50, 51, 52, 53, 54, 55]) rfl r.rows.length (fun i s => i ≤ r.rows.length ∧ s.σ 24 = .v (vi i) ∧ s.h = h ∧ s.L 1 = (1, [x, y]) ∧ rowsP2 r.c.length r.rows i = true) 0 ⟨by omega, by simp, rfl, by simp [upd], rfl⟩ fun i s ⟨gi, g24, gh, gL, hp⟩ hM J hJ => ?_
        by_cases hi : i < r.rows.length
        · obtain ⟨z, F3, ez, hz, _⟩ := hy.loadL i hi
          have ix := hy.idx 1 .i64 i hi
          simp only [Nat.mul_one] at ix
          have st := hy.step hi
          have bad : rowQ2 r.c.length r.rows i = false → R (.bool false) h := fun hb => by
            rw [goodRl, rowsP2_false hi hb, Bool.and_false] at hR; exact hR
          have gd : r.rows.getD i [] = r.rows[i] := getD_in hi _
          have hS := rowsP2_succ r.c.length r.rows i
          rw [hp, Bool.true_and] at hS
          by_cases hl : r.rows[i].length = r.c.length
          · have ec := l1All_eq hz.sl (-1000) 1000
            rw [show (r.rows[i].all fun n => decide (-1000 ≤ n ∧ n ≤ 1000)) = r.rows[i].all smallQ from rfl] at ec
            cases hs : r.rows[i].all smallQ with
            | false =>
              rw [hs] at ec
              have hzl := hz.len
              rw [hl] at hzl
              simp [g662_0, hM, g24, gh, gL, hi, ix, ez, upd, hzl, hx.len, ec]
              exact bad (by rw [rowQ2, gd, hs]; simp)
            | true =>
              rw [hs] at ec
              have hzl := hz.len
              rw [hl] at hzl
              by_cases h0 : 0 < i
              · have w : IntKind.i64.wrap ((i : Int) - 1) = (i - 1 : Nat) := by rw [IntWalk.i64_in] <;> omega
                have hi1 : i - 1 < r.rows.length := by omega
                obtain ⟨z2, F4, ez2, hz2, _⟩ := hy.loadL (i - 1) hi1
                have ix2 := hy.idx 1 .i64 (i - 1) hi1
                simp only [Nat.mul_one] at ix2
                have gd2 : r.rows.getD (i - 1) [] = r.rows[i - 1] := getD_in hi1 _
                have hl2 : r.rows[i - 1].length = r.c.length := by
                  have := rowsP2_at hp (show i - 1 < i by omega)
                  rw [rowQ2, gd2] at this
                  simp at this; exact this.1.1
                have ek := l3Less_eq hz2.sl hz.sl (by omega)
                have hq : rowQ2 r.c.length r.rows i = ltL r.rows[i - 1] r.rows[i] := by
                  rw [rowQ2, gd, gd2, hs, decide_eq_true hl, decide_eq_false (by omega : ¬ i = 0)]; rfl
                cases hlt : ltL r.rows[i - 1] r.rows[i] with
                | true =>
                  rw [hlt] at ek hq
                  simp [g662_0, hM, g24, gh, gL, hi, ix, ez, upd, hzl, hx.len, ec, h0, w, ix2, ez2, ek, st, -Int.natCast_add]
                  exact hJ _ hi ⟨hi, by simp, by simp, by simp [gL], by rw [hS, hq]⟩
                | false =>
                  rw [hlt] at ek hq
                  simp [g662_0, hM, g24, gh, gL, hi, ix, ez, upd, hzl, hx.len, ec, h0, w, ix2, ez2, ek]
                  exact bad hq
              · have h0i : i = 0 := by omega
                subst h0i
                have hq : rowQ2 r.c.length r.rows 0 = true := by rw [rowQ2, gd, hs, decide_eq_true hl]; rfl
                simp at g24
                simp at ix ez
                simp at st
                simp [g662_0, hM, g24, gh, gL, hi, ix, ez, upd, hzl, hx.len, ec, st]
                exact hJ _ hi ⟨hi, by simp, by simp, by simp [gL], by rw [hS, hq]⟩
          · have hne : ¬ (r.rows[i].length : Int) = r.c.length := by omega
            simp [g662_0, hM, g24, gh, gL, hi, ix, ez, upd, hz.len, hx.len, hl, hne]
            exact bad (by rw [rowQ2, gd, decide_eq_false hl]; rfl)
        · have : i = r.rows.length := by omega
          subst this
          rw [goodRl, hp, hr, decide_eq_true h6, decide_eq_true h60] at hR
          simp [g662_0, hM, g24, gh]
          exact hR
      · have h60' : (60 : Int) < r.rows.length := by omega
        rw [goodRl, decide_eq_false h60, Bool.and_false] at hR
        simp [g662, upd, hx.cells, hx.cell, hy.cells, hy.cell, hx.len, h6', er, hy.len, h60']
        exact hR
  · have h6' : (6 : Int) < r.c.length := by omega
    rw [goodRl, decide_eq_false h6] at hR
    simp [g662, upd, hx.cells, hx.cell, hy.cells, hy.cell, hx.len, h6']
    exact hR
end GL

namespace GL
open Go

theorem isPart_eq {h : Heap} {v w : V} {xs c : List Int} (hs : Sl h v xs) (hc : Sl h w c) : call p 660 [v, w] h = some (.bool (partB c xs), h) := by
  refine go_eq (fn := g660) rfl rfl fun R hR => ?_
  simp [g660, hs.len]
  refine Wc_upM (M := [4, 5, 6, 9, 10, 11, 12, 13, 14, 15, 16, 17, 18, 19, 20, 21, 22, 23, 24, 25, 26, 27, 28, 29, 30, 31]) rfl xs.length (fun i s => i ≤ xs.length ∧ s.σ 9 = .v (vi i) ∧ s.h = h ∧ (∀ x ∈ xs.take i, x ∈ c) ∧ (xs.take i).Pairwise (· < ·)) 0 ⟨by omega, by simp, rfl, by simp, by simp⟩ fun i s ⟨gi, g9, gh, q1, q2⟩ hM J hJ => ?_
  by_cases hn : i < xs.length
  · have ht := List.take_succ_eq_append_getElem hn
    have bad : ¬ ((∀ x ∈ xs, x ∈ c) ∧ xs.Pairwise (· < ·)) → R (.bool false) h := fun hb => by
      have : partB c xs = false := by
        rw [Bool.eq_false_iff]; intro h; simp only [partB, Bool.and_eq_true, List.all_eq_true, decide_eq_true_eq] at h; exact hb h
      rw [this] at hR; exact hR
    have ix := hs.idx 1 .i64 i hn
    have ld := hs.loadI i hn
    have st := hs.step hn
    simp only [Nat.mul_one] at ix
    have ec := containsI_eq hc xs[i]
    by_cases h1 : xs[i] ∈ c
    · rw [decide_eq_true h1] at ec
      by_cases h0 : 0 < i
      · have w : IntKind.i64.wrap ((i : Int) - 1) = (i - 1 : Nat) := by have := hs.bd; rw [IntWalk.i64_in] <;> omega
        have hi1 : i - 1 < xs.length := by omega
        have ix2 := hs.idx 1 .i64 (i - 1) hi1
        have ld2 := hs.loadI (i - 1) hi1
        simp only [Nat.mul_one] at ix2
        by_cases h2 : xs[i - 1] < xs[i]
        · have h2' : ¬ xs[i] ≤ xs[i - 1] := by omega
          simp [g660_0, hM, g9, gh, hn, ix, ld, ec, h0, w, ix2, ld2, h2', st]
          refine hJ _ hn ⟨hn, by simp, rfl, (all_take_succ hn).2 ⟨q1, h1⟩, ?_⟩
          rw [ht]
          refine ris_snoc q2 fun hp => ?_
          simp at hp
          have e : (xs.take i).length - 1 = i - 1 := by simp; omega
          simp only [e, List.getElem_take]; exact h2
        · have h2' : xs[i] ≤ xs[i - 1] := by omega
          simp [g660_0, hM, g9, gh, hn, ix, ld, ec, h0, w, ix2, ld2, h2']
          exact bad fun ⟨_, b⟩ => h2 ((List.pairwise_iff_getElem.1 b) (i - 1) i hi1 hn (by omega))
      · simp [g660_0, hM, g9, gh, hn, ix, ld, ec, h0, st]
        refine hJ _ hn ⟨hn, by simp, rfl, (all_take_succ hn).2 ⟨q1, h1⟩, ?_⟩
        rw [ht]
        refine ris_snoc q2 fun hp => ?_
        simp at hp; omega
    · rw [decide_eq_false h1] at ec
      simp [g660_0, hM, g9, gh, hn, ix, ld, ec]
      exact bad fun ⟨a, _⟩ => h1 (a _ (List.getElem_mem hn))
  · rw [List.take_of_length_le (by omega)] at q1 q2
    simp [g660_0, hM, g9, gh, hn]
    have : partB c xs = true := by simp only [partB, Bool.and_eq_true, List.all_eq_true, decide_eq_true_eq]; exact ⟨q1, q2⟩
    rw [this] at hR; exact hR
theorem place_neg {c : List Int} {n : Int} : placeL c n < 0 ↔ n ∉ c := by
  rw [placeL]; split
  · rename_i h; constructor
    · intro h2; omega
    · exact fun h2 => absurd h h2
  · rename_i h; exact ⟨fun _ => h, fun _ => by decide⟩
theorem l3Sub_eq {h : Heap} {v w : V} {xs c : List Int} (hc : Sl h v c) (hs : Sl h w xs) (hin : ∀ x ∈ c, 0 ≤ x ∧ x ≤ 20) : call p 663 [v, w] h = some (.bool (partB c xs), h) := by
  have er := l1Rising_eq hs 0 20
  refine go_eq (fn := g663) rfl rfl fun R hR => ?_
  simp [g663, hs.len]
  refine Wc_upM (M := [4, 6, 9, 10, 11, 12, 13, 14, 15, 16, 17]) rfl xs.length (fun i s => s.σ 9 = .v (vi i) ∧ s.h = h ∧ (∀ x ∈ xs.take i, x ∈ c)) 0 ⟨by simp, rfl, by simp⟩ fun i s ⟨g9, gh, q1⟩ hM J hJ => ?_
  by_cases hn : i < xs.length
  · have ix := hs.idx 1 .i64 i hn
    have ld := hs.loadI i hn
    have st := hs.step hn
    simp only [Nat.mul_one] at ix
    have ec := l3At_eq hc xs[i]
    by_cases h1 : xs[i] ∈ c
    · have h2 : ¬ placeL c xs[i] < 0 := fun h => place_neg.1 h h1
      simp [g663_0, hM, g9, gh, hn, ix, ld, ec, h2, st]
      exact hJ _ hn ⟨by simp, rfl, (all_take_succ hn).2 ⟨q1, h1⟩⟩
    · have h2 : placeL c xs[i] < 0 := place_neg.2 h1
      have : partB c xs = false := by
        rw [partB, all_false hn (decide_eq_false h1)]; rfl
      rw [this] at hR
      simp [g663_0, hM, g9, gh, hn, ix, ld, ec, h2]
      exact hR
  · rw [List.take_of_length_le (by omega)] at q1
    have e : risB 0 20 xs = partB c xs := by
      rw [partB, List.all_eq_true.2 fun x hx => decide_eq_true (q1 x hx), Bool.true_and, risB]
      congr 1
      simp only [eq_iff_iff, and_iff_right_iff_imp]
      exact fun _ x hx => hin x (q1 x hx)
    rw [e] at er
    simp [g663_0, hM, g9, gh, hn, er]
    exact hR

def pickL (c row xs : List Int) : List Int := xs.map fun x => row.getD (placeL c x).toNat 0
theorem place_in {c : List Int} {n : Int} (h : n ∈ c) : 0 ≤ placeL c n ∧ placeL c n < c.length := by
  rw [placeL, if_pos h]
  have := List.idxOf_lt_length_iff.2 h
  omega
theorem under_ok {h : Heap} {v w u : V} {c row xs : List Int} (hc : Sl h v c) (hr : Sl h w row) (hs : Sl h u xs) (hl : row.length = c.length) (hin : ∀ x ∈ xs, x ∈ c) (hx : xs.length ≤ 2 ^ 20) (hcl : c.length ≤ 2 ^ 20) :
    ∃ r h', call p 661 [v, w, u] h = some (r, h') ∧ Out h.length h' r (pickL c row xs) ∧ Keeps h h' ∧ h.length ≤ h'.length := by
  refine go (fn := g661) rfl rfl fun R hR => ?_
  simp [g661, hs.len]
  refine Wc_upM (M := [7, 9, 13, 14, 15, 16, 17, 18, 19, 20, 21, 22, 23, 24, 25, 26]) rfl xs.length (fun i s => i ≤ xs.length ∧ s.σ 13 = .v (vi i) ∧ ∃ v7, s.σ 7 = .v v7 ∧ Out h.length s.h v7 (pickL c row (xs.take i)) ∧ Keeps h s.h ∧ h.length ≤ s.h.length) 0
    ⟨by omega, by simp, .slice h.length 0 0 (.k 0), by simp, by simpa [pickL] using Out.empty (Nat.le_refl _) (by simp), Keeps.append _ _, by simp⟩ fun i s ⟨gi, g13, v7, g7, ho, hk, hl0⟩ hM J hJ => ?_
  by_cases hn : i < xs.length
  · have ix := hs.idx 1 .i64 i hn
    have ld := (hs.keeps hk).loadI i hn
    have st := hs.step hn
    simp only [Nat.mul_one] at ix
    have hm := hin _ (List.getElem_mem hn)
    have ec := indexPl_eq (hc.keeps hk) xs[i]
    have pin := place_in hm
    have hrk := hr.keeps hk
    obtain ⟨q, hq⟩ : ∃ q : Nat, placeL c xs[i] = q := ⟨(placeL c xs[i]).toNat, by omega⟩
    have hqr : q < row.length := by omega
    have iy := hrk.idx 1 .i64 q hqr
    have ly := hrk.loadI q hqr
    simp only [Nat.mul_one] at iy
    rw [hq] at ec
    have ht : pickL c row (xs.take (i + 1)) = pickL c row (xs.take i) ++ [row[q]] := by
      rw [List.take_succ_eq_append_getElem hn, pickL, List.map_append, pickL]
      simp [hq, hqr]
    obtain ⟨v', h2, e2, o2, k2, l2⟩ := ho.one row[q] (by simp [pickL]; omega)
    have kk := ho.far hk k2 (Nat.le_refl _)
    generalize row[q] = z at *
    simp [g661_0, hM, g13, g7, hn, ix, ld, ec, iy, ly, fillL, rdS_last, e2, st]
    refine hJ _ hn ⟨hn, by simp, v', by simp, by rw [ht]; exact o2, kk, by show h.length ≤ h2.length; omega⟩
  · have : i = xs.length := by omega
    subst this
    rw [List.take_length] at ho
    simp [g661_0, hM, g13, g7]
    exact hR _ _ ⟨ho, hk, hl0⟩
theorem l3Pick_ok {h : Heap} {v w u : V} {c row xs : List Int} (hc : Sl h v c) (hr : Sl h w row) (hs : Sl h u xs) (hl : row.length = c.length) (hin : ∀ x ∈ xs, x ∈ c) (hx : xs.length ≤ 2 ^ 20) (hcl : c.length ≤ 2 ^ 20) :
    ∃ r h', call p 679 [v, w, u] h = some (r, h') ∧ Out h.length h' r (pickL c row xs) ∧ Keeps h h' ∧ h.length ≤ h'.length := by
  refine go (fn := g679) rfl rfl fun R hR => ?_
  simp [g679, hs.len]
  refine Wc_upM (M := [7, 9, 12, 13, 14, 15, 16, 17, 18, 19, 20, 21, 22, 23, 24, 25]) rfl xs.length (fun i s => i ≤ xs.length ∧ s.σ 12 = .v (vi i) ∧ ∃ v7, s.σ 7 = .v v7 ∧ Out h.length s.h v7 (pickL c row (xs.take i)) ∧ Keeps h s.h ∧ h.length ≤ s.h.length) 0
    ⟨by omega, by simp, .nils, by simp, by simpa [pickL] using Out.nil (Nat.le_refl _), Keeps.refl _, Nat.le_refl _⟩ fun i s ⟨gi, g13, v7, g7, ho, hk, hl0⟩ hM J hJ => ?_
  by_cases hn : i < xs.length
  · have ix := hs.idx 1 .i64 i hn
    have ld := (hs.keeps hk).loadI i hn
    have st := hs.step hn
    simp only [Nat.mul_one] at ix
    have hm := hin _ (List.getElem_mem hn)
    have ec := l3At_eq (hc.keeps hk) xs[i]
    have pin := place_in hm
    have hrk := hr.keeps hk
    obtain ⟨q, hq⟩ : ∃ q : Nat, placeL c xs[i] = q := ⟨(placeL c xs[i]).toNat, by omega⟩
    have hqr : q < row.length := by omega
    have iy := hrk.idx 1 .i64 q hqr
    have ly := hrk.loadI q hqr
    simp only [Nat.mul_one] at iy
    rw [hq] at ec
    have ht : pickL c row (xs.take (i + 1)) = pickL c row (xs.take i) ++ [row[q]] := by
      rw [List.take_succ_eq_append_getElem hn, pickL, List.map_append, pickL]
      simp [hq, hqr]
    obtain ⟨v', h2, e2, o2, k2, l2⟩ := ho.one row[q] (by simp [pickL]; omega)
    have kk := ho.far hk k2 (Nat.le_refl _)
    generalize row[q] = z at *
    simp [g679_0, hM, g13, g7, hn, ix, ld, ec, iy, ly, fillL, rdS_last, e2, st]
    refine hJ _ hn ⟨hn, by simp, v', by simp, by rw [ht]; exact o2, kk, by show h.length ≤ h2.length; omega⟩
  · have : i = xs.length := by omega
    subst this
    rw [List.take_length] at ho
    simp [g679_0, hM, g13, g7]
    exact hR _ _ ⟨ho, hk, hl0⟩
end GL

namespace GL
open Go

def DpV (h : Heap) (v : V) (f : Dp) : Prop := ∃ x y F1 F2, v = .agg [x, y] ∧ SdF h x f.l F1 ∧ SdF h y f.r F2
theorem DpV.keep {h h' : Heap} {v : V} {f : Dp} (hr : DpV h v f) (k : Keeps h h') : DpV h' v f := by
  obtain ⟨x, y, F1, F2, rfl, h1, h2⟩ := hr
  exact ⟨x, y, F1, F2, rfl, h1.keep k, h2.keep k⟩
def holdsP (r : Rl) (f : Dp) (i j : Nat) : Bool := !(decide (pickL r.c (r.rows.getD i []) f.l = pickL r.c (r.rows.getD j []) f.l) && !decide (pickL r.c (r.rows.getD i []) f.r = pickL r.c (r.rows.getD j []) f.r))
def holdsB (r : Rl) (f : Dp) : Bool := (List.range r.rows.length).all fun i => (List.range i).all (holdsP r f i)
theorem goodRl_facts {r : Rl} (h : goodRl r = true) : r.c.length ≤ 6 ∧ (∀ x ∈ r.c, 0 ≤ x ∧ x ≤ 20) ∧ r.rows.length ≤ 60 ∧ ∀ i (hi : i < r.rows.length), r.rows[i].length = r.c.length := by
  simp only [goodRl, Bool.and_eq_true, decide_eq_true_eq] at h
  refine ⟨h.1.1.1, (ris_of.1 h.1.1.2).1, h.1.2, fun i hi => ?_⟩
  have := rowsP2_at h.2 hi
  simp only [rowQ2, Bool.and_eq_true, decide_eq_true_eq] at this
  rw [getD_in hi] at this
  exact this.1.1
theorem part_facts {c xs : List Int} (h : partB c xs = true) : (∀ x ∈ xs, x ∈ c) ∧ xs.length ≤ c.length := by
  simp only [partB, Bool.and_eq_true, decide_eq_true_eq, List.all_eq_true] at h
  exact ⟨h.1, sub_len (h.2.imp fun q => Int.ne_of_lt q) h.1⟩

theorem holds_loop {h : Heap} {v w : V} {r : Rl} {f : Dp} (hv : RlV h v r) (hw : DpV h w f) (hg : goodRl r = true) (hp1 : partB r.c f.l = true) (hp2 : partB r.c f.r = true) (s0 : S) (K : Ex → S → Prop) {x y a b : V} (ev : v = .agg [x, y]) (ew : w = .agg [a, b]) (gh : s0.h = h) (gL2 : s0.L 2 = (1, [x, y])) (gL3 : s0.L 3 = (1, [a, b])) (g2 : s0.σ 2 = .lp 2 1 0) (g3 : s0.σ 3 = .lp 3 1 0) (gi0 : s0.σ 30 = .v y) (gi1 : s0.σ 31 = .v (vi r.rows.length)) (gi2 : s0.σ 32 = .v (vi 0))
    (hK1 : ∀ s, Keeps h s.h → h.length ≤ s.h.length → holdsB r f = true → K (.exit 0) s)
    (hK2 : ∀ s, Keeps h s.h → h.length ≤ s.h.length → holdsB r f = false → s.σ 4 = .v (.bool false) → s.σ 5 = .v (.bool true) → K .ret s) : Wc p (.loop g620_1) s0 K := by
  obtain ⟨x', y', F1, F2, ev', hx, hy⟩ := hv
  obtain ⟨a', b', F3, F4, ew', ha, hb⟩ := hw
  rw [ev] at ev'; cases ev'
  rw [ew] at ew'; cases ew'
  obtain ⟨hc6, hc20, h60, hrow⟩ := goodRl_facts hg
  obtain ⟨p1, p1'⟩ := part_facts hp1
  obtain ⟨p2, p2'⟩ := part_facts hp2
  refine Wc_upM (M := [4, 5, 6, 7, 9, 32, 33, 34, 35, 36, 37, 38, 39, 40, 41, 42, 43, 44, 45, 46, 47, 48, 49, 50, 51, 52, 53, 54, 55, 56, 57, 58, 59, 60, 61, 62, 63, 64, 65, 66, 67, 68, 69, 70, 71, 72, 73, 74, 75, 76]) rfl r.rows.length (fun i s => i ≤ r.rows.length ∧ s.σ 32 = .v (vi i) ∧ Keeps h s.h ∧ h.length ≤ s.h.length ∧ s.L 2 = (1, [x, y]) ∧ s.L 3 = (1, [a, b]) ∧ ((List.range i).all fun i => (List.range i).all (holdsP r f i)) = true) 0 ⟨by omega, gi2, by rw [gh]; exact Keeps.refl _, by rw [gh]; exact Nat.le_refl _, gL2, gL3, rfl⟩ fun i s ⟨hi0, gI, hk, hl, qL2, qL3, hall⟩ hM J hJ => ?_
  by_cases hi : i < r.rows.length
  · have hys := hy.keep hk
    obtain ⟨z, Fz, ez, hz, _⟩ := hys.loadL i hi
    have ix := hys.idx 1 .i64 i hi
    simp only [Nat.mul_one] at ix
    have st := hys.step hi
    obtain ⟨u, Fu, eu, su, _, _⟩ := hys.sub (lo := none) (hi := some i) (i := 0) (j := i) rfl rfl (by omega) (by omega) (k := 1) rfl
    rw [List.drop_zero] at su
    have sul := su.len
    have hti : (r.rows.take i).length = i := by rw [List.length_take]; omega
    rw [hti] at sul
    have hzl : r.rows[i].length = r.c.length := hrow i hi
    simp [g620_1, hM, gI, gi0, gi1, hi, ix, ez, qL2, qL3, g2, g3, bounds, takeB, eu, sul]
    refine Wc_upM (M := [4, 5, 9, 42, 43, 44, 45, 46, 47, 48, 49, 50, 51, 52, 53, 54, 55, 56, 57, 58, 59, 60, 61, 62, 63, 64, 65, 66, 67, 68, 69, 70, 71, 72, 73, 74, 75]) rfl i (fun j t => j ≤ i ∧ t.σ 42 = .v (vi j) ∧ Keeps s.h t.h ∧ s.h.length ≤ t.h.length ∧ t.L 2 = (1, [x, y]) ∧ t.L 3 = (1, [a, b]) ∧ ((List.range j).all (holdsP r f i)) = true) 0 ⟨by omega, by simp, Keeps.refl _, Nat.le_refl _, by simpa using qL2, by simpa using qL3, rfl⟩ fun j t ⟨hj0, gJ, hk1, hl1, tL2, tL3, hall1⟩ hM1 J1 hJ1 => ?_
    by_cases hj : j < i
    · have hju : j < (r.rows.take i).length := by omega
      have sut := su.keep hk1
      obtain ⟨z2, Fz2, ez2, hz2, _⟩ := sut.loadL j hju
      have ix2 := sut.idx 1 .i64 j hju
      simp only [Nat.mul_one] at ix2
      have st2 := sut.step hju
      have hjr : j < r.rows.length := by omega
      have ej : (r.rows.take i)[j] = r.rows[j] := by simp
      rw [ej] at hz2
      have hz2l : r.rows[j].length = r.c.length := hrow j hjr
      have kt := hk.trans hk1
      have fl6 : f.l.length ≤ 2 ^ 20 := by omega
      have fr6 : f.r.length ≤ 2 ^ 20 := by omega
      obtain ⟨r1, h1, e1, o1, k1, l1⟩ := under_ok (hx.sl.keeps kt) (hz.sl.keeps hk1) (ha.sl.keeps kt) hzl p1 fl6 (by omega)
      obtain ⟨r2, h2, e2, o2, k2, l2⟩ := under_ok ((hx.sl.keeps kt).keeps k1) (hz2.sl.keeps k1) ((ha.sl.keeps kt).keeps k1) hz2l p1 fl6 (by omega)
      have k12 := k1.trans k2
      have e3 := Equal_eq (o1.sl.keeps k2) o2.sl
      have hS : ((List.range (j + 1)).all (holdsP r f i)) = holdsP r f i j := by rw [List.range_succ, List.all_append, hall1]; simp
      have hPdef : holdsP r f i j = !(decide (pickL r.c r.rows[i] f.l = pickL r.c r.rows[j] f.l) && !decide (pickL r.c r.rows[i] f.r = pickL r.c r.rows[j] f.r)) := by
        simp only [holdsP]; rw [getD_in hi, getD_in hjr]
      by_cases q1 : pickL r.c r.rows[i] f.l = pickL r.c r.rows[j] f.l
      · rw [decide_eq_true q1] at e3
        obtain ⟨r4, h4, e4, o4, k4, l4⟩ := under_ok ((hx.sl.keeps kt).keeps k12) ((hz.sl.keeps hk1).keeps k12) ((hb.sl.keeps kt).keeps k12) hzl p2 fr6 (by omega)
        obtain ⟨r5, h5, e5, o5, k5, l5⟩ := under_ok (((hx.sl.keeps kt).keeps k12).keeps k4) ((hz2.sl.keeps k12).keeps k4) (((hb.sl.keeps kt).keeps k12).keeps k4) hz2l p2 fr6 (by omega)
        have e6 := Equal_eq (o4.sl.keeps k5) o5.sl
        have k15 := (k12.trans k4).trans k5
        have hl5 : s.h.length ≤ h5.length := by omega
        by_cases q2 : pickL r.c r.rows[i] f.r = pickL r.c r.rows[j] f.r
        · rw [decide_eq_true q2] at e6
          simp [g620_0, hM1, hM, gJ, hj, ix2, ez2, tL2, tL3, g2, g3, e1, e2, e3, e4, e5, e6, st2, hx.cells, hx.cell, ha.cells, ha.cell, hb.cells, hb.cell]
          exact hJ1 _ hj ⟨hj, by simp, hk1.trans k15, hl5, by simpa using tL2, by simpa using tL3, by rw [hS, hPdef, decide_eq_true q1, decide_eq_true q2]; rfl⟩
        · rw [decide_eq_false q2] at e6
          simp [g620_0, hM1, hM, gJ, hj, ix2, ez2, tL2, tL3, g2, g3, e1, e2, e3, e4, e5, e6, hx.cells, hx.cell, ha.cells, ha.cell, hb.cells, hb.cell]
          refine hK2 _ (kt.trans k15) (by show h.length ≤ h5.length; omega) ?_ (by simp) (by simp)
          rw [holdsB, List.all_eq_false]
          refine ⟨i, List.mem_range.2 hi, ?_⟩
          rw [Bool.not_eq_true, List.all_eq_false]
          exact ⟨j, List.mem_range.2 hj, by rw [hPdef, decide_eq_true q1, decide_eq_false q2]; simp⟩
      · rw [decide_eq_false q1] at e3
        simp [g620_0, hM1, hM, gJ, hj, ix2, ez2, tL2, tL3, g2, g3, e1, e2, e3, st2, hx.cells, hx.cell, ha.cells, ha.cell]
        exact hJ1 _ hj ⟨hj, by simp, hk1.trans k12, by show s.h.length ≤ h2.length; omega, by simpa using tL2, by simpa using tL3, by rw [hS, hPdef, decide_eq_false q1]; rfl⟩
    · have : j = i := by omega
      subst this
      simp [g620_0, hM1, hM, gJ, gI, st]
      refine hJ _ hi ⟨hi, by simp, hk.trans hk1, by show h.length ≤ t.h.length; omega, by simpa using tL2, by simpa using tL3, ?_⟩
      rw [List.range_succ, List.all_append, hall]; simpa using hall1
  · have : i = r.rows.length := by omega
    subst this
    simp [g620_1, hM, gI, gi1]
    exact hK1 _ hk hl hall

end GL

namespace GL
open Go

def okHold (r : Rl) (f : Dp) : Bool := goodRl r && partB r.c f.l && partB r.c f.r
def holdsR (r : Rl) (f : Dp) : V := if okHold r f = true then .tup [.bool (holdsB r f), .bool true] else .tup [.bool false, .bool false]

theorem HoldsIn_ok {h : Heap} {v w : V} {r : Rl} {f : Dp} (hv : RlV h v r) (hw : DpV h w f) : ∃ o h', call p 620 [v, w] h = some (o, h') ∧ o = holdsR r f ∧ Keeps h h' ∧ h.length ≤ h'.length := by
  have e1 := GoodRelation_eq hv
  refine go (fn := g620) rfl rfl fun R hR => ?_
  have hv' := hv
  have hw' := hw
  obtain ⟨x, y, F1, F2, rfl, hx, hy⟩ := hv
  obtain ⟨a, b, F3, F4, rfl, ha, hb⟩ := hw
  have e2 := isPart_eq ha.sl hx.sl
  have e3 := isPart_eq hb.sl hx.sl
  have bad : okHold r f = false → R (.tup [.bool false, .bool false]) h := fun hq => hR _ _ ⟨by rw [holdsR, hq]; rfl, Keeps.refl _, Nat.le_refl _⟩
  cases hg : goodRl r with
  | false =>
    rw [hg] at e1
    simp [g620, upd, hx.cells, hx.cell, hy.cells, hy.cell, ha.cells, ha.cell, hb.cells, hb.cell, e1]
    exact bad (by rw [okHold, hg]; rfl)
  | true =>
    rw [hg] at e1
    cases h1 : partB r.c f.l with
    | false =>
      rw [h1] at e2
      simp [g620, upd, hx.cells, hx.cell, hy.cells, hy.cell, ha.cells, ha.cell, hb.cells, hb.cell, e1, e2]
      exact bad (by rw [okHold, h1, Bool.and_false]; rfl)
    | true =>
      rw [h1] at e2
      cases h2 : partB r.c f.r with
      | false =>
        rw [h2] at e3
        simp [g620, upd, hx.cells, hx.cell, hy.cells, hy.cell, ha.cells, ha.cell, hb.cells, hb.cell, e1, e2, e3]
        exact bad (by rw [okHold, h2, Bool.and_false])
      | true =>
        rw [h2] at e3
        have hok : okHold r f = true := by rw [okHold, hg, h1, h2]; rfl
        simp [g620, upd, hx.cells, hx.cell, hy.cells, hy.cell, ha.cells, ha.cell, hb.cells, hb.cell, e1, e2, e3, hy.len]
        refine holds_loop hv' hw' hg h1 h2 _ _ rfl rfl rfl (by simp [upd]) (by simp [upd]) (by simp) (by simp) (by simp) (by simp) (by simp) (fun s hk hl hb => ?_) (fun s hk hl hb g4 g5 => ?_)
        · simp
          exact hR _ _ ⟨by rw [holdsR, if_pos hok, hb], hk, hl⟩
        · simp [g4, g5]
          exact hR _ _ ⟨by rw [holdsR, if_pos hok, hb], hk, hl⟩
end GL

namespace GL
open Go

theorem Od.appG {α : Type} [Data α] {lo : Nat} {h : Heap} {v w : V} {xs zs : List α} {F G : List Nat} (ho : Od lo h v xs F) (hs : SdF h w zs G) (hG : ∀ b ∈ G, ¬ vB v b) (hl : xs.length + zs.length ≤ 2 ^ 20) {k bytes n : Nat} (hk : k = Data.sz α) (hb : bytes ≤ 2 ^ 8) (hn : n = zs.length) :
    ∃ ys v' h' F', rdS h k w n = some ys ∧ appH k bytes v n ys h = some (v', h') ∧ Od lo h' v' (xs ++ zs) F' ∧ KeepsP (fun i => ¬ vB v i) h h' ∧ h.length ≤ h'.length ∧ (∀ i, vB v' i → vB v i ∨ h.length ≤ i) ∧ (∀ b ∈ F', b ∈ F ∨ b ∈ G) := by
  subst hk; subst hn
  obtain ⟨ys, G', e0, hr, hG'⟩ := hs.rdS
  by_cases h0 : 0 < zs.length
  · obtain ⟨v', h', e1, o1, k1, l1, b1⟩ := ho.app h0 hr (fun b hb => hG b (hG' b hb)) hb (by omega) rfl rfl
    exact ⟨ys, v', h', _, e0, e1, o1, k1, by omega, fun i hi => .inr (by rw [b1 i hi]; exact Nat.le_refl _), fun b hb => by
      rcases List.mem_append.1 hb with h | h
      · exact .inl h
      · exact .inr (hG' b h)⟩
  · have hz : zs = [] := List.length_eq_zero_iff.1 (by omega)
    subst hz
    obtain ⟨F', sF, _⟩ := ho.sd
    have := sF.len
    exact ⟨ys, v, h, F, e0, by simp [appH, this], by simpa using ho, KeepsP.refl _ _, Nat.le_refl _, fun i hi => .inl hi, fun b hb => .inl hb⟩

/-- a row, put to its place, once -/
def addRow : List (List Int) → List Int → List (List Int)
  | [], row => [row]
  | r :: rs, row => if ltL r row = true then r :: addRow rs row else if r = row then r :: rs else row :: r :: rs
theorem addRow_at {row : List Int} : ∀ {rows : List (List Int)} {i : Nat}, i ≤ rows.length → (∀ x ∈ rows.take i, ltL x row = true) → (∀ h : i < rows.length, ltL rows[i] row = false) →
    addRow rows row = if rows[i]? = some row then rows else rows.take i ++ [row] ++ rows.drop i
  | [], i, _, _, _ => by simp [addRow]
  | r :: rs, 0, _, _, h2 => by
    have := h2 (by simp)
    simp at this
    simp [addRow, this]
  | r :: rs, i + 1, hi, h1, h2 => by
    have hr := h1 r (by simp)
    have ih := addRow_at (rows := rs) (i := i) (by simpa using hi) (fun x hx => h1 x (by simp [hx])) (fun h => by have := h2 (by simp; omega); rw [List.getElem_cons_succ] at this; exact this)
    rw [addRow, if_pos hr, ih]
    simp only [List.getElem?_cons_succ, List.take_succ_cons, List.drop_succ_cons, List.cons_append]
    split <;> rfl
theorem addRow_len (rows : List (List Int)) (row : List Int) : (addRow rows row).length ≤ rows.length + 1 := by
  induction rows with
  | nil => simp [addRow]
  | cons r rs ih => rw [addRow]; split
                    · simp; omega
                    · split <;> simp
theorem addRow_mem {rows : List (List Int)} {row x : List Int} : x ∈ addRow rows row ↔ x ∈ rows ∨ x = row := by
  induction rows with
  | nil => simp [addRow]
  | cons r rs ih =>
    rw [addRow]; split
    · simp only [List.mem_cons, ih]
      constructor
      · rintro (h | h | h)
        · exact .inl (.inl h)
        · exact .inl (.inr h)
        · exact .inr h
      · rintro ((h | h) | h)
        · exact .inl h
        · exact .inr (.inl h)
        · exact .inr (.inr h)
    · split
      · rename_i h; subst h
        simp only [List.mem_cons]
        constructor
        · exact .inl
        · rintro (h | h)
          · exact h
          · exact .inl h
      · simp only [List.mem_cons]
        constructor
        · rintro (h | h)
          · exact .inr h
          · exact .inl h
        · rintro (h | h)
          · exact .inr h
          · exact .inl h

theorem l3Add_ok {h : Heap} {v w : V} {rows : List (List Int)} {row : List Int} {F : List Nat} (hs : SdF h v rows F) (hw : Sl h w row) (hl : ∀ r ∈ rows, r.length = row.length) (hrl : rows.length ≤ 2 ^ 10) (hwl : row.length ≤ 2 ^ 10) :
    ∃ r h', call p 687 [v, w] h = some (r, h') ∧ ((r = v ∧ h' = h ∧ addRow rows row = rows) ∨ ∃ F', Od h.length h' r (addRow rows row) F' ∧ ∀ b ∈ F', b ∈ F ∨ h.length ≤ b) ∧ Keeps h h' ∧ h.length ≤ h'.length := by
  refine go (fn := g687) rfl rfl fun R hR => ?_
  simp [g687]
  refine Wc_upM (M := [5, 7, 8, 9, 10, 11, 12, 13, 14, 15, 16, 17, 18, 19, 20]) rfl rows.length (fun i s => i ≤ rows.length ∧ s.σ 5 = .v (vi i) ∧ s.h = h ∧ ∀ x ∈ rows.take i, ltL x row = true) 0 ⟨by omega, by simp, rfl, by simp⟩ fun i s ⟨gi, g5, gh, hall⟩ hM J hJ => ?_
  have w1 : IntKind.i64.wrap ((i : Int) + 1) = (i + 1 : Nat) := by rw [IntWalk.i64_in] <;> omega
  have rest : (∀ hi : i < rows.length, ltL rows[i] row = false ∧ rows[i] ≠ row) → ∀ ys0 : Unit, ∃ u1 u2 y1 v7 h7 y2 v8 h8 y3 v9 h9 y4 v10 h10, slcV 1 v none (some i) none = some u1 ∧ lenV u1 = some i ∧ rdS (h ++ [⟨.own, []⟩]) 1 u1 i = some y1 ∧ appH 1 24 (.slice h.length 0 0 (.k 0)) i y1 (h ++ [⟨.own, []⟩]) = some (v7, h7) ∧
      rdS (h7 ++ [⟨.own, []⟩]) 1 w row.length = some y2 ∧ appH 1 8 (.slice h7.length 0 0 (.k 0)) row.length y2 (h7 ++ [⟨.own, []⟩]) = some (v8, h8) ∧ v8.cells = [v8] ∧ v8.cell = true ∧ y3 = [v8] ∧ appH 1 24 v7 1 y3 (h8 ++ [⟨.own, y3⟩]) = some (v9, h9) ∧
      slcV 1 v (some i) none none = some u2 ∧ lenV u2 = some (rows.length - i) ∧ rdS h9 1 u2 (rows.length - i) = some y4 ∧ appH 1 24 v9 (rows.length - i) y4 h9 = some (v10, h10) ∧ R v10 h10 := fun hne _ => by
    have ltl : (rows.take i).length = i := by rw [List.length_take]; omega
    have ldl : (rows.drop i).length = rows.length - i := by rw [List.length_drop]
    obtain ⟨u1, G1, c1, s1, bs1, _⟩ := hs.sub (lo := none) (hi := some i) (i := 0) (j := i) rfl rfl (by omega) gi (k := 1) rfl
    obtain ⟨u2, G2, c2, s2, bs2, _⟩ := hs.sub (lo := some i) (hi := none) (i := i) (j := rows.length) rfl rfl gi (Nat.le_refl _) (k := 1) rfl
    rw [List.drop_zero] at s1
    rw [List.take_length] at s2
    have kn : Keeps h (h ++ [⟨.own, []⟩]) := Keeps.append _ _
    have o0 : Od h.length (h ++ [⟨.own, []⟩]) (.slice h.length 0 0 (.k 0)) ([] : List (List Int)) [] := Od.empty (Nat.le_refl _) (by simp)
    obtain ⟨y1, v7, h7, F7, er1, e7, o7, k7, l7, b7, fs7⟩ := o0.appG (s1.keep kn) (fun b hb ⟨_, _, _, e⟩ => by cases e; have := s1.ltF hb; omega) (by simp; omega) (k := 1) (bytes := 24) (n := i) rfl (by decide) ltl.symm
    have kn7 : Keeps h h7 := fun b blk hb hst => by
      have := get_lt hb
      exact k7 b blk (fun ⟨_, _, _, e⟩ => by cases e; omega) (kn _ _ hb hst) hst
    have hv7 : ∀ b, vB v7 b → h.length ≤ b := fun b hb => by
      rcases b7 b hb with ⟨_, _, _, e⟩ | h
      · cases e; exact Nat.le_refl _
      · simp at h; omega
    rw [List.nil_append] at o7
    obtain ⟨er2, v8, h8, e8, F8, s8, f8, k8, l8⟩ := appNew (hw.keeps kn7) (by omega : row.length ≤ 2 ^ 20) (k := 1) (bytes := 8) rfl (by decide)
    have k8n : Keeps h8 (h8 ++ [⟨.own, [v8]⟩]) := Keeps.append _ _
    have o8 := o7.keeps ((k8.trans k8n).p fun _ => True) (fun _ _ => trivial) (fun _ _ => trivial) (by simp; omega)
    obtain ⟨v9, h9, e9, o9, k9, l9, b9⟩ := o8.app (zs := [row]) (ys := [v8]) (G := F8) (by simp) (.one ⟨v8, rfl, s8.keep k8n⟩) (fun b hb hvb => by
      have h1 := f8.ge b hb
      have h2 := (o7.ge hvb).2
      omega) (bytes := 24) (by decide) (by simp; omega) (k := 1) (n := 1) rfl rfl
    have kn9 : Keeps h h9 := fun b blk hb hst => by
      have := get_lt hb
      exact k9 b blk (fun hvb => by have := hv7 b hvb; omega) (k8n _ _ (k8 _ _ (kn7 _ _ hb hst) hst) hst) hst
    have hv9 : ∀ b, vB v9 b → h.length ≤ b := fun b hb => by
      have := b9 b hb; simp at this l7; omega
    obtain ⟨y4, v10, h10, F10, er4, e10, o10, k10, l10, _, fs10⟩ := o9.appG (s2.keep kn9) (fun b hb hvb => by have := hv9 b hvb; have := s2.ltF hb; omega) (by simp; omega) (k := 1) (bytes := 24) (n := rows.length - i) rfl (by decide) ldl.symm
    have kn10 : Keeps h h10 := fun b blk hb hst => by
      have := get_lt hb
      exact k10 b blk (fun hvb => by have := hv9 b hvb; omega) (kn9 _ _ hb hst) hst
    have sl1 := s1.len
    have sl2 := s2.len
    rw [ltl] at sl1
    rw [ldl] at sl2
    have ha := addRow_at gi hall (fun hi => (hne hi).1)
    have hif : ¬ rows[i]? = some row := fun he => by
      obtain ⟨hi, e⟩ := List.getElem?_eq_some_iff.1 he
      exact (hne hi).2 e
    rw [if_neg hif] at ha
    rw [← ha] at o10
    have o11 := o10
    simp at l7 l9
    exact ⟨u1, u2, y1, v7, h7, _, v8, h8, _, v9, h9, y4, v10, h10, c1, sl1, er1, e7, er2, e8, s8.cells, s8.cell, rfl, e9, c2, sl2, er4, e10, hR _ _ ⟨.inr ⟨F10, o11, fun b hb => by
      rcases fs10 b hb with h1 | h1
      · rcases List.mem_append.1 h1 with h2 | h2
        · rcases fs7 b h2 with h3 | h3
          · cases h3
          · exact .inl (bs1 b h3)
        · have := f8.ge b h2; exact .inr (by omega)
      · exact .inl (bs2 b h1)⟩, kn10, by omega⟩⟩
  by_cases hi : i < rows.length
  · obtain ⟨z, Fz, ez, hz, _⟩ := hs.loadL i hi
    have ix := hs.idx 1 .i64 i hi
    simp only [Nat.mul_one] at ix
    have e1 := l3Less_eq hz.sl hw (hl _ (List.getElem_mem hi))
    cases hlt : ltL rows[i] row with
    | true =>
      rw [hlt] at e1
      simp [g687_0, hM, g5, gh, hs.len, hi, ix, ez, e1, w1, -Int.natCast_add]
      exact hJ _ hi ⟨hi, by simp, rfl, (all_take_succ hi).2 ⟨hall, hlt⟩⟩
    | false =>
      rw [hlt] at e1
      have e2 := l1Same_eq hz.sl hw
      by_cases hq : rows[i] = row
      · rw [decide_eq_true hq] at e2
        have ha := addRow_at gi hall (fun _ => hlt)
        rw [if_pos (by rw [List.getElem?_eq_getElem hi, hq])] at ha
        simp [g687_0, hM, g5, gh, hs.len, hi, ix, ez, e1, e2]
        exact hR _ _ ⟨.inl ⟨rfl, rfl, ha⟩, Keeps.refl _, Nat.le_refl _⟩
      · rw [decide_eq_false hq] at e2
        obtain ⟨u1, u2, y1, v7, h7, y2, v8, h8, y3, v9, h9, y4, v10, h10, q1, q2, q3, q4, q5, q6, q7, q8, rfl, q10, q11, q12, q13, q14, q15⟩ := rest (fun _ => ⟨hlt, hq⟩) ()
        simp [g687_0, hM, g5, gh, hs.len, hi, ix, ez, e1, e2, bounds, takeB, q1, q2, q3, q4, hw.len, q5, q6, q7, q8, fillL, rdS_last, q10, q11, q12, q13, q14]
        exact q15
  · obtain ⟨u1, u2, y1, v7, h7, y2, v8, h8, y3, v9, h9, y4, v10, h10, q1, q2, q3, q4, q5, q6, q7, q8, rfl, q10, q11, q12, q13, q14, q15⟩ := rest (fun h => absurd h hi) ()
    simp [g687_0, hM, g5, gh, hs.len, hi, bounds, takeB, q1, q2, q3, q4, hw.len, q5, q6, q7, q8, fillL, rdS_last, q10, q11, q12, q13, q14]
    exact q15
end GL

namespace GL
open Go

def addAll (rows : List (List Int)) : List (List Int) := rows.foldl addRow []
def tellR (c : List Int) (rows : List (List Int)) : Rl := ⟨c, addAll rows⟩
theorem addAll_mem {n : Nat} {rows : List (List Int)} (h : ∀ r ∈ rows, r.length = n) : ∀ (acc : List (List Int)), (∀ r ∈ acc, r.length = n) → ∀ r ∈ rows.foldl addRow acc, r.length = n := by
  induction rows with
  | nil => exact fun acc ha r hr => ha r hr
  | cons x xs ih =>
    intro acc ha
    exact ih (fun r hr => h r (by simp [hr])) _ fun r hr => by
      rcases addRow_mem.1 hr with h1 | h1
      · exact ha r h1
      · exact h1 ▸ h x (by simp)
theorem addAll_len (rows : List (List Int)) : ∀ (acc : List (List Int)), (rows.foldl addRow acc).length ≤ acc.length + rows.length := by
  induction rows with
  | nil => intro acc; simp
  | cons x xs ih =>
    intro acc
    have h1 := ih (addRow acc x)
    have h2 := addRow_len acc x
    simp only [List.foldl_cons, List.length_cons]; omega

theorem Od.less {α : Type} [Data α] {lo lo' : Nat} {h : Heap} {v : V} {xs : List α} {F : List Nat} (o : Od lo h v xs F) (hl : lo' ≤ lo) : Od lo' h v xs F := by
  obtain ⟨h1, h2, ⟨rfl, rfl, rfl⟩ | ⟨b, cs, rfl, hb, h3, hr, hn⟩ | ⟨b, rfl, rfl, rfl, h3, h4⟩⟩ := o
  · exact ⟨h1, by omega, .inl ⟨rfl, rfl, rfl⟩⟩
  · exact ⟨h1, by omega, .inr (.inl ⟨b, cs, rfl, hb, by omega, hr, hn⟩)⟩
  · exact ⟨h1, by omega, .inr (.inr ⟨b, rfl, rfl, rfl, by omega, h4⟩)⟩
theorem Od.loadL {lo : Nat} {h : Heap} {v : V} {xs : List (List Int)} {F : List Nat} (o : Od lo h v xs F) {i : Nat} (hi : i < xs.length) :
    ∃ z Fz, idxV 1 v (.int .i64 i) = some (.ptr (bOf v) (oOf v + i)) ∧ rdH h (bOf v) (oOf v + i) 1 = some [z] ∧ SdF h z xs[i] Fz ∧ (∀ b ∈ Fz, ¬ vB v b) ∧ ∀ b ∈ Fz, b ∈ F := by
  obtain ⟨F', sF, hF⟩ := o.sd
  have ix := sF.idx 1 .i64 i hi
  simp only [Nat.mul_one] at ix
  obtain ⟨cs, G1, G2, G3, e, ⟨z, rfl, hz⟩, rfl⟩ := sF.load i hi
  have e' : rdH h (bOf v) (oOf v + i) 1 = some [z] := by
    rw [show Data.sz (List Int) = 1 from rfl, Nat.mul_one] at e; exact e
  have key : bOf v ∉ F ∧ ∀ b ∈ G2, b ∈ F := by
    rcases hF with hF | ⟨hF, _, hn, _⟩
    · exfalso
      obtain ⟨_, _, ⟨e1, e2, _⟩ | ⟨b2, cs2, e1, hb2, _, hr, hn⟩ | ⟨b2, e1, e2, _⟩⟩ := o
      · subst e2; simp at hi
      · rw [e1] at hF; apply hn; rw [← hF]; simp [bOf]
      · subst e2; simp at hi
    · injection hF with _ hF
      exact ⟨hn, fun b hb => by rw [← hF]; simp [hb]⟩
  refine ⟨z, G2, ix, e', hz, fun b hb ⟨b1, o1, c1, hv⟩ => ?_, key.2⟩
  have h2 := key.2 b hb
  have h1 := key.1
  rw [hv] at h1
  exact h1 h2

theorem l3Tell_ok {h : Heap} {v w : V} {c : List Int} {rows : List (List Int)} {F : List Nat} (hc : Sl h v c) (hs : SdF h w rows F) (hl : ∀ r ∈ rows, r.length = c.length) (hcl : c.length ≤ 2 ^ 10) (hrl : rows.length ≤ 2 ^ 10) :
    ∃ r h', call p 674 [v, w] h = some (r, h') ∧ ∃ x y Fx Fy, r = .tup [.agg [x, y], .bool (goodRl (tellR c rows))] ∧ SdF h' x (if goodRl (tellR c rows) = true then c else []) Fx ∧ Fresh h.length h' Fx ∧ Od h.length h' y (if goodRl (tellR c rows) = true then addAll rows else []) Fy ∧ (∀ b ∈ Fy, h.length ≤ b) ∧ (∀ b ∈ Fx, ¬ vB y b) ∧ Keeps h h' ∧ h.length ≤ h'.length := by
  obtain ⟨er, a, h1, e1, Fa, sa, fa, k1, l1⟩ := appNew hc (by omega : c.length ≤ 2 ^ 20) (k := 1) (bytes := 8) rfl (by decide)
  refine go (fn := g674) rfl rfl fun R hR => ?_
  simp [g674, upd, hc.len, er, e1, sa.cells, sa.cell, fillL, hs.len]
  refine Wc_upM (M := [8, 15, 16, 17, 18, 19, 20, 21, 22, 23, 24]) rfl rows.length (fun i s => i ≤ rows.length ∧ s.σ 15 = .v (vi i) ∧ Keeps h1 s.h ∧ h1.length ≤ s.h.length ∧ s.L 4 = (1, [.nils, .nils]) ∧ ∃ y G, s.L 6 = (1, [a, y]) ∧ Od h1.length s.h y (addAll (rows.take i)) G ∧ ∀ b ∈ G, h.length ≤ b) 0
    ⟨by omega, by simp, Keeps.refl _, Nat.le_refl _, by simp [upd], .nils, [], by simp [upd], by simpa [addAll] using Od.nil (Nat.le_refl _), by simp⟩ fun i s ⟨gi, g15, hk, hl0, gL4, y, G, gL6, sy, hG⟩ hM J hJ => ?_
  by_cases hi : i < rows.length
  · have hss := (hs.keep k1).keep hk
    obtain ⟨z, Fz, ez, hz, _⟩ := hss.loadL i hi
    have ix := hss.idx 1 .i64 i hi
    simp only [Nat.mul_one] at ix
    have st := hss.step hi
    have hzl := hl _ (List.getElem_mem hi)
    have hm : ∀ r ∈ addAll (rows.take i), r.length = c.length := addAll_mem (fun r hr => hl r (List.mem_of_mem_take hr)) [] (by simp)
    have hm2 : (addAll (rows.take i)).length ≤ i := by
      have := addAll_len (rows.take i) []
      rw [List.length_take] at this
      simp only [List.length_nil] at this
      unfold addAll; omega
    obtain ⟨F4, sy4, hF4⟩ := sy.sd
    obtain ⟨r5, h5, e5, hr5, k5, l5⟩ := l3Add_ok sy4 hz.sl (fun r hr => by rw [hm r hr, hzl]) (by omega) (by omega)
    have ht : addAll (rows.take (i + 1)) = addRow (addAll (rows.take i)) rows[i] := by
      rw [List.take_succ_eq_append_getElem hi, addAll, List.foldl_append]; rfl
    have hge4 : ∀ b ∈ F4, h.length ≤ b := fun b hb => by
      rcases hF4 with e | ⟨e, hv, _⟩
      · rw [e] at hb; exact hG b hb
      · rw [e] at hb
        rcases List.mem_cons.1 hb with h1 | h1
        · rw [h1]; have := (sy.ge hv).1; omega
        · exact hG b h1
    obtain ⟨F5, o5, hG5⟩ : ∃ F5, Od h1.length h5 r5 (addAll (rows.take (i + 1))) F5 ∧ ∀ b ∈ F5, h.length ≤ b := by
      rcases hr5 with ⟨rfl, rfl, q⟩ | ⟨F5, o5, hf5⟩
      · rw [ht, q]; exact ⟨G, sy, hG⟩
      · rw [ht]; exact ⟨F5, o5.less (by omega), fun b hb => by
          rcases hf5 b hb with h1 | h1
          · exact hge4 b h1
          · omega⟩
    obtain ⟨_, s5, _⟩ := o5.sd
    simp [g674_0, hM, g15, hi, ix, ez, gL6, upd, e5, s5.cells, s5.cell, st]
    refine hJ _ hi ⟨hi, by simp, hk.trans k5, by show h1.length ≤ h5.length; omega, by simp [gL4], r5, F5, by simp, o5, hG5⟩
  · have : i = rows.length := by omega
    subst this
    rw [List.take_length] at sy
    obtain ⟨F9, sy9, _⟩ := sy.sd
    have hv : RlV s.h (.agg [a, y]) (tellR c rows) := ⟨a, y, Fa, F9, rfl, sa.keep hk, sy9⟩
    have eg := GoodRelationS_eq hv
    have hlen : h.length ≤ s.h.length := by omega
    cases hg : goodRl (tellR c rows) with
    | false =>
      rw [hg] at eg hR
      simp [g674_0, hM, g15, gL6, upd, eg, gL4, fillL, resV, mkV]
      exact hR _ _ ⟨.nils, .nils, [], [], rfl, .nil, Fresh.nil, Od.nil hlen, by simp, by simp, k1.trans hk, hlen⟩
    | true =>
      rw [hg] at eg hR
      simp [g674_0, hM, g15, gL6, upd, eg, gL4, sa.cells, sa.cell, sy9.cells, sy9.cell, fillL, resV, mkV]
      exact hR _ _ ⟨a, y, Fa, G, rfl, sa.keep hk, fa.keeps (hk.p _), sy.less l1, hG, fun b hb hv => by have := (sy.ge hv).1; have := sa.ltF hb; omega, k1.trans hk, hlen⟩
end GL

namespace GL
open Go

theorem DC.relation {h0 h : Heap} {N : Nat} (d : DC h0 h N) (hN : N < 2 ^ 55) {vc : V} {c : List Int} (hc : Sl h vc c) (hcb : bOf vc ≠ h0.length) (hcl : c.length ≤ 10) :
    ∃ v h', call p 657 [.ptr h0.length 0, vc] h = some (v, h') ∧ ∃ (x y : V) (r : Rl) (F1 F2 : List Nat), v = .agg [x, y] ∧ SdF h' x r.c F1 ∧ SdF h' y r.rows F2 ∧ (∀ b ∈ F1, h.length ≤ b) ∧ (∀ b ∈ F2, h.length ≤ b) ∧ DC h0 h' (N + 1000) ∧ KeepsBut h0.length h h' ∧ h.length ≤ h'.length := by
  have hlt := d.lt
  have hcB : ∀ {h' : Heap}, KeepsBut h0.length h h' → Sl h' vc c := fun k => hc.but (.inr hcb) k
  refine go (fn := g657) rfl rfl fun R hR => ?_
  obtain ⟨a, h1, e1, ha, d1, k1, l1⟩ := d.pick (by omega) 8 (by decide)
  have loop : ∀ (k : Nat) (s0 : S) (K : Ex → S → Prop), k ≤ 8 → s0.σ 0 = .v (.ptr h0.length 0) → s0.σ 1 = .v vc → s0.σ 5 = .v .nils → s0.σ 6 = .v (vi k) → DC h0 s0.h (N + 2) → KeepsBut h0.length h s0.h → h.length ≤ s0.h.length →
      (∀ s v (xs : List (List Int)) F, (∀ q, q ∉ [5, 6, 7, 12, 13, 14, 15, 16, 17, 18, 19, 20, 21, 22, 23, 24, 25, 26, 27, 28, 29] → s.σ q = s0.σ q) → s.L = s0.L → s.σ 5 = .v v → OdF h.length s.h v xs F → xs.length ≤ 8 → (∀ r ∈ xs, r.length = c.length) → DC h0 s.h (N + 300) → KeepsBut h0.length h s.h → h.length ≤ s.h.length → K (.exit 0) s) → Wc p (.loop g657_1) s0 K := by
    intro k s0 K hk g0 g1 g5 g6 dc kb hl hK
    refine Wc_dnM (M := [5, 6, 7, 12, 13, 14, 15, 16, 17, 18, 19, 20, 21, 22, 23, 24, 25, 26, 27, 28, 29]) rfl (fun k s => k ≤ 8 ∧ s.L = s0.L ∧ s.σ 6 = .v (vi k) ∧ ∃ (xs : List (List Int)) (v : V) (G : List Nat), xs.length + k ≤ 8 ∧ s.σ 5 = .v v ∧ OdF h.length s.h v xs G ∧ (∀ r ∈ xs, r.length = c.length) ∧ DC h0 s.h (N + 2 + 20 * xs.length) ∧ KeepsBut h0.length h s.h ∧ h.length ≤ s.h.length) k
      ⟨hk, rfl, g6, [], .nils, [], by simpa using hk, g5, OdF.nil hl, by simp, by simpa using dc, kb, hl⟩ fun k s ⟨hk, gL, g6, xs, v, G, hx, g5, ho, hrl, dc, kb, hl⟩ hM J hJ => ?_
    by_cases hk0 : 0 < k
    · have hk0' : (0 : Int) < k := by omega
      have w2 : IntKind.i64.wrap ((k : Int) - 1) = (k - 1 : Nat) := by rw [IntWalk.i64_in] <;> omega
      simp [g657_1, hM, g1, g6, hk0, (hcB kb).len]
      refine Wc_upM (M := [7, 18, 19, 20, 21, 22, 23, 24, 25]) rfl c.length (fun i t => i ≤ c.length ∧ t.L = s0.L ∧ t.σ 18 = .v (vi i) ∧ ∃ (ys : List Int) (v7 : V), ys.length = i ∧ t.σ 7 = .v v7 ∧ Out s.h.length t.h v7 ys ∧ DC h0 t.h (N + 2 + 20 * xs.length + 2 * i) ∧ KeepsBut h0.length s.h t.h ∧ s.h.length ≤ t.h.length) 0
        ⟨by omega, gL, by simp, [], .nils, rfl, by simp, Out.nil (Nat.le_refl _), by simpa using dc, KeepsBut.refl _ _, Nat.le_refl _⟩ fun i t ⟨gi, tL, g18, ys, v7, hyl, g7, oy, dt, kt, lt⟩ hM1 J1 hJ1 => ?_
      by_cases hi : i < c.length
      · obtain ⟨q, h2, e2, _, d2, k2, l2⟩ := dt.pick (by omega) 3 (by decide)
        have o2 := k2.out oy (by omega) (by omega)
        have st : IntKind.i64.wrap ((i : Int) + 1) = (i + 1 : Nat) := by rw [IntWalk.i64_in] <;> omega
        obtain ⟨v8, h3, e3, o3, d3, k3, l3⟩ := Out.draw d2 (kt.trans k2) (ho := o2) (Nat.le_refl _) (by omega) (q : Int) (by omega) (k := 1) (bytes := 8) (cs := [vi q]) rfl (by decide) rfl
        simp [g657_0, hM1, hM, g0, g18, g7, hi, e2, fillL, rdS_last, e3, st, -Int.natCast_add]
        exact hJ1 _ hi ⟨hi, tL, by simp, _, v8, by simp; omega, by simp, o3, d3.mono (by omega), k3, by show s.h.length ≤ h3.length; omega⟩
      · have hic : i = c.length := by omega
        obtain ⟨F7, s7, f7⟩ := oy.fr
        obtain ⟨v9, h4, e4, o4, d4, k4, l4⟩ := OdF.draw dt (kb.trans kt) ho kt lt (Nat.le_refl _) (by omega) f7 (x := ys) (cs := [v7]) ⟨v7, rfl, s7⟩ (by omega) (k := 1) rfl (bytes := 24) (by decide)
        simp [g657_0, hM1, hM, g0, g18, g7, hi, g5, g6, s7.cells, s7.cell, fillL, rdS_last, e4, w2, -Int.natCast_add]
        exact hJ (k - 1) _ (by omega) ⟨by omega, tL, by simp, xs ++ [ys], v9, G ++ F7, by simp; omega, by simp, o4, fun r hr => by
          rcases List.mem_append.1 hr with h | h
          · exact hrl r h
          · simp at h; rw [h]; omega, d4.mono (by simp; omega), k4, by show h.length ≤ h4.length; omega⟩
    · have : k = 0 := by omega
      subst this
      simp [g657_1, hM, g6]
      exact hK _ v xs G (fun q hq => by
        by_cases h12 : q = 12
        · subst h12; simp at hq
        · by_cases h13 : q = 13
          · subst h13; simp at hq
          · simp [h12, h13]; exact hM q hq) gL (by simp [g5]) ho (by omega) hrl (dc.mono (by omega)) kb hl
  simp [g657, e1]
  refine loop a _ _ (by omega) (by simp) (by simp) (by simp) (by simp) d1 k1 (by show h.length ≤ h1.length; omega) fun s v xs F hM gL g5 ho hxl hrl d2 k2 l2 => ?_
  obtain ⟨F3, s3, f3⟩ := ho.fresh
  obtain ⟨_, h4, e4, x, y, Fx, Fy, rfl, sx, fx, oy, gy, nxy, k4, l4⟩ := l3Tell_ok (hcB k2) s3 hrl (by omega) (by omega)
  have d4 := d2.keeps k4
  have kb4 := k2.trans (k4.but _)
  have hx1 := hM 1 (by simp)
  have hx0 := hM 0 (by simp)
  have hx4 := hM 4 (by simp)
  simp at hx1 hx0 hx4
  have gL4 : s.L 4 = (1, [.nils, .nils]) := by rw [gL]; simp [upd]
  generalize hrc : (if goodRl (tellR c xs) = true then c else []) = rc at *
  have hrr : (if goodRl (tellR c xs) = true then addAll xs else []).length ≤ 2 ^ 10 := by
    split
    · have := addAll_len xs []
      simp only [List.length_nil] at this
      unfold addAll; omega
    · simp
  generalize hrows : (if goodRl (tellR c xs) = true then addAll xs else []) = rr at *
  obtain ⟨F5, s5, hF5⟩ := oy.sd
  have hge5 : ∀ b ∈ F5, h.length ≤ b := fun b hb => by
    rcases hF5 with e | ⟨e, hv, _⟩
    · rw [e] at hb; have := gy b hb; omega
    · rw [e] at hb
      rcases List.mem_cons.1 hb with h1 | h1
      · rw [h1]; have := (oy.ge hv).1; omega
      · have := gy b h1; omega
  have hgex : ∀ b ∈ Fx, h.length ≤ b := fun b hb => by have := fx.ge b hb; omega
  generalize goodRl (tellR c xs) = qg at *
  have nb : ∀ {F : List Nat}, (∀ b ∈ F, h.length ≤ b) → ∀ b ∈ F, b ≠ h0.length := fun hF b hb => by have := hF b hb; omega
  by_cases h0r : 0 < rr.length
  · obtain ⟨one, h6, e6, d6, k6, l6⟩ := d4.one (by omega) 30 (by decide)
    have sx6 := sx.keeps (k6.P.mono (nb hgex))
    have s56 := s5.keeps (k6.P.mono (nb hge5))
    have kb6 := kb4.trans k6
    cases one with
    | false =>
      simp [hx1, hx0, hx4, g5, e4, gL4, upd, sx.cells, sx.cell, s5.cells, s5.cell, s5.len, h0r, e6, fillL, resV, mkV]
      exact hR _ _ ⟨x, y, ⟨rc, rr⟩, Fx, F5, rfl, sx6, s56, hgex, hge5, d6.mono (by omega), kb6, by omega⟩
    | true =>
      have oy6' := oy.keeps (k6.P) (fun i hi => by have := (oy.ge hi).1; omega) (fun i hi => by have := gy i hi; omega) (by omega)
      obtain ⟨z, Fz, iz, ez, hz, hzF, hzS⟩ := oy6'.loadL (i := 0) h0r
      have hzG : ∀ b ∈ Fz, h.length ≤ b := fun b hb => by
        have := hzS b hb
        have := gy b this; omega
      have k7 : Keeps h6 (h6 ++ [⟨.own, [z]⟩]) := Keeps.append _ _
      have oy7 := oy6'.keeps (k7.p fun _ => True) (fun _ _ => trivial) (fun _ _ => trivial) (by simp)
      obtain ⟨v8, h8, e8, o8, k8, l8, b8⟩ := oy7.app (zs := [rr[0]]) (ys := [z]) (G := Fz) (by simp) (.one ⟨z, rfl, hz.keep k7⟩) hzF (bytes := 24) (by decide) (by simp; omega) (k := 1) (n := 1) rfl rfl
      obtain ⟨F9, s9, hF9⟩ := o8.sd
      have hge8 : ∀ b ∈ Fy ++ Fz, h.length ≤ b := fun b hb => by
        rcases List.mem_append.1 hb with h1 | h1
        · have := gy b h1; omega
        · exact hzG b h1
      have hge9 : ∀ b ∈ F9, h.length ≤ b := fun b hb => by
        rcases hF9 with e | ⟨e, hv, _⟩
        · rw [e] at hb; exact hge8 b hb
        · rw [e] at hb
          rcases List.mem_cons.1 hb with h1 | h1
          · rw [h1]; have := (o8.ge hv).1; omega
          · exact hge8 b h1
      have hno : ∀ i, i ≤ h0.length → ¬ vB y i := fun i hi hv => by have := (oy.ge hv).1; omega
      have d8 := (d6.keeps k7).far k8 fun i hi => hno i hi
      have kb8 := (kb6.trans (k7.but _)).far k8 fun i hi _ hv => by have := (oy.ge hv).1; omega
      have sx8 := (sx6.keep k7).keeps (k8.mono nxy)
      simp at iz ez
      simp at l8
      simp [hx1, hx0, hx4, g5, e4, gL4, upd, sx.cells, sx.cell, s5.cells, s5.cell, s5.len, h0r, e6, iz, ez, hz.cells, hz.cell, fillL, rdS_last, e8, s9.cells, s9.cell, resV, mkV]
      exact hR _ _ ⟨x, v8, ⟨rc, rr ++ [rr[0]]⟩, Fx, F9, rfl, sx8, s9, hgex, hge9, d8.mono (by omega), kb8, by omega⟩
  · have hr0 : ¬ 0 < rr.length := h0r
    simp [hx1, hx0, hx4, g5, e4, gL4, upd, sx.cells, sx.cell, s5.cells, s5.cell, s5.len, hr0, fillL, resV, mkV]
    exact hR _ _ ⟨x, y, ⟨rc, rr⟩, Fx, F5, rfl, sx, s5, hgex, hge5, d4.mono (by omega), kb4, by omega⟩
end GL

namespace GL
open Go

end GL

namespace GL
open Go

end GL

namespace GL
open Go

end GL

namespace GL
open Go

/-! plays: acts in order -/
def toA3 (a : Ac) : Act3 := (a.who, a.item, a.wr)
def wrQ (a : Ac) (x : Int) : Bool := a.wr && decide (a.item = x)
/-- the number of the last Write of an item, or -1 -/
def lastW (xs : List Ac) (x : Int) : Int := lastT (xs.map toA3) x
theorem wrQ_at {xs : List Ac} {q : Nat} (hq : q < xs.length) (x : Int) : isWr (actAt (xs.map toA3) q) x = wrQ xs[q] x := by
  simp [actAt, hq, isWr, wrQ, toA3]
/-- what the last Write is -/
theorem lastW_cases (xs : List Ac) (x : Int) : (lastW xs x = -1 ∧ ∀ q (hq : q < xs.length), wrQ xs[q] x = false) ∨ ∃ k, ∃ hk : k < xs.length, lastW xs x = k ∧ wrQ xs[k] x = true ∧ ∀ q (hq : q < xs.length), k < q → wrQ xs[q] x = false := by
  have key : ∀ n, n ≤ xs.length → (lastN (xs.map toA3) x n = -1 ∧ ∀ q (hq : q < xs.length), q < n → wrQ xs[q] x = false) ∨ ∃ k, ∃ hk : k < xs.length, k < n ∧ lastN (xs.map toA3) x n = k ∧ wrQ xs[k] x = true ∧ ∀ q (hq : q < xs.length), k < q → q < n → wrQ xs[q] x = false := by
    intro n
    induction n with
    | zero => exact fun _ => .inl ⟨rfl, fun q _ h => by omega⟩
    | succ n ih =>
      intro hn
      have hn' : n < xs.length := by omega
      have e := wrQ_at hn' x
      rw [lastN, actAt_getD, e]
      cases hw : wrQ xs[n] x with
      | true => exact .inr ⟨n, hn', by omega, by simp, hw, fun q hq h1 h2 => by omega⟩
      | false =>
        simp only [Bool.false_eq_true, if_false]
        rcases ih (by omega) with ⟨h1, h2⟩ | ⟨k, hk, h1, h2, h3, h4⟩
        · refine .inl ⟨h1, fun q hq hl => ?_⟩
          by_cases e : q = n
          · subst e; exact hw
          · exact h2 q hq (by omega)
        · refine .inr ⟨k, hk, by omega, h2, h3, fun q hq h5 h6 => ?_⟩
          by_cases e : q = n
          · subst e; exact hw
          · exact h4 q hq h5 (by omega)
  have hl : (xs.map toA3).length = xs.length := by simp
  rcases key xs.length (Nat.le_refl _) with ⟨h1, h2⟩ | ⟨k, hk, _, h2, h3, h4⟩
  · exact .inl ⟨by rw [lastW, lastT, hl]; exact h1, fun q hq => h2 q hq hq⟩
  · exact .inr ⟨k, hk, by rw [lastW, lastT, hl]; exact h2, h3, fun q hq h => h4 q hq h hq⟩
end GL

namespace GL
open Go

end GL

namespace GL
open Go

/-- all acts of one -/
def ofWho (xs : List Ac) (who : Int) : List Ac := xs.filter fun a => decide (a.who = who)
end GL

namespace GL
open Go

def zAc : Ac := ⟨0, 0, false⟩
end GL

namespace GL
open Go

end GL

namespace GL
open Go

end GL

namespace GL
open Go

theorem lastN_take (zs : List Act3) (x : Int) (m : Nat) : ∀ n, n ≤ m → lastN (zs.take m) x n = lastN zs x n
  | 0, _ => rfl
  | n + 1, h => by
    have e : (zs.take m).getD n (0, 0, false) = zs.getD n (0, 0, false) := by
      simp only [List.getD_eq_getElem?_getD, List.getElem?_take]
      rw [if_pos (by omega)]
    rw [lastN, lastN, e, lastN_take zs x m n (by omega)]
theorem lastW_take_succ {xs : List Ac} {i : Nat} (hi : i < xs.length) (x : Int) : lastW (xs.take (i + 1)) x = if wrQ xs[i] x = true then (i : Int) else lastW (xs.take i) x := by
  have l1 : (xs.take (i + 1)).length = i + 1 := by rw [List.length_take]; omega
  have l2 : (xs.take i).length = i := by rw [List.length_take]; omega
  have h1 : lastW (xs.take (i + 1)) x = lastN (xs.map toA3) x (i + 1) := by
    rw [lastW, lastT, List.length_map, l1, List.map_take, lastN_take _ _ _ _ (Nat.le_refl _)]
  have h2 : lastW (xs.take i) x = lastN (xs.map toA3) x i := by
    rw [lastW, lastT, List.length_map, l2, List.map_take, lastN_take _ _ _ _ (Nat.le_refl _)]
  rw [h1, h2, lastN, actAt_getD, wrQ_at hi]
def readAt (l : List Ac) (i : Nat) : Int := if (l.getD i zAc).wr = true then -2 else lastW (l.take i) (l.getD i zAc).item
end GL

namespace GL
open Go

end GL

namespace GL
open Go

structure Og where
  who : Int
  n : Int
deriving DecidableEq
instance : Flat Og := ⟨2, fun x => [vi x.who, vi x.n], fun _ => rfl, fun _ => rfl, by decide⟩
/-- which act of whom stands there -/
def orgAt (l : List Ac) (k : Int) : Og := if k < 0 then ⟨-1, -1⟩ else ⟨(l.getD k.toNat zAc).who, ((l.take k.toNat).filter fun a => decide (a = l.getD k.toNat zAc)).length⟩
end GL

namespace GL
open Go

theorem lastW_lt (l : List Ac) (x : Int) : lastW l x < l.length ∧ -1 ≤ lastW l x := by
  rcases lastW_cases l x with ⟨h, _⟩ | ⟨k, hk, h, _⟩ <;> omega
def isRd (a : Ac) (who : Int) : Bool := decide (a.who = who) && !a.wr
/-- what one's reads read, in order -/
def orgsL (l : List Ac) (who : Int) (n : Nat) : List Og := ((List.range n).filter fun i => isRd (l.getD i zAc) who).map fun i => orgAt l (readAt l i)
theorem orgsL_succ (l : List Ac) (who : Int) (n : Nat) : orgsL l who (n + 1) = orgsL l who n ++ (if isRd (l.getD n zAc) who = true then [orgAt l (readAt l n)] else []) := by
  rw [orgsL, List.range_succ, List.filter_append, List.map_append, orgsL]
  congr 1
  cases h : isRd (l.getD n zAc) who
  · simp only [List.filter_cons, h, Bool.false_eq_true, if_false, List.filter_nil, List.map_nil]
  · simp only [List.filter_cons, h, if_true, List.filter_nil, List.map_cons, List.map_nil]
end GL

namespace GL
open Go

end GL

namespace GL
open Go

end GL

namespace GL
open Go

end GL

namespace GL
open Go

end GL

namespace GL
open Go

end GL

namespace GL
open Go

end GL

namespace GL
open Go

end GL

namespace GL

/-! what a play does, act by act from the end -/
theorem orgAt_take {l : List Ac} {k : Int} {n : Nat} (h : k < n) : orgAt (l.take n) k = orgAt l k := by
  unfold orgAt
  split
  · rfl
  · have h1 : k.toNat < n := by omega
    have e1 : (l.take n).getD k.toNat zAc = l.getD k.toNat zAc := by
      simp only [List.getD_eq_getElem?_getD, List.getElem?_take, h1, if_true]
    have e2 : (l.take n).take k.toNat = l.take k.toNat := by rw [List.take_take, Nat.min_eq_left (by omega)]
    rw [e1, e2]
/-- from what an item was last written -/
def orgW (l : List Ac) (x : Int) : Og := orgAt l (lastW l x)
def cntA (l : List Ac) (a : Ac) : Nat := (l.filter fun b => decide (b = a)).length
theorem orgW_snoc (l : List Ac) (a : Ac) (x : Int) : orgW (l ++ [a]) x = if wrQ a x = true then ⟨a.who, cntA l a⟩ else orgW l x := by
  have e := lastW_take_succ (xs := l ++ [a]) (i := l.length) (by simp) x
  rw [List.take_of_length_le (by simp)] at e
  simp only [List.take_left', List.getElem_concat_length] at e
  rw [orgW, e]
  split
  · simp [orgAt, cntA]
  · have hl := (lastW_lt l x).1
    rw [orgW]
    conv => rhs; rw [show l = (l ++ [a]).take l.length by simp]
    rw [orgAt_take (by simpa using hl)]
    simp
theorem readAt_lt (l : List Ac) {i : Nat} (hi : i ≤ l.length) : readAt l i < (i : Nat) := by
  unfold readAt
  split
  · omega
  · have := (lastW_lt (l.take i) (l.getD i zAc).item).1
    rw [List.length_take, Nat.min_eq_left hi] at this
    exact this
theorem orgsL_pre (l : List Ac) (a : Ac) (w : Int) (n : Nat) (hn : n ≤ l.length) : orgsL (l ++ [a]) w n = orgsL l w n := by
  induction n with
  | zero => rfl
  | succ n ih =>
    have hn' : n < l.length := by omega
    have e1 : (l ++ [a]).getD n zAc = l.getD n zAc := by
      rw [getD_in (by simp; omega), getD_in hn', List.getElem_append_left hn']
    have e2 : readAt (l ++ [a]) n = readAt l n := by
      unfold readAt
      rw [e1, List.take_append_of_le_length (by omega)]
    have e3 : orgAt (l ++ [a]) (readAt l n) = orgAt l (readAt l n) := by
      have h := readAt_lt l (i := n) (by omega)
      conv => rhs; rw [show l = (l ++ [a]).take l.length by simp]
      rw [orgAt_take (by simp; omega)]
      simp
    rw [orgsL_succ, orgsL_succ, ih (by omega), e1, e2, e3]
theorem orgsL_snoc (l : List Ac) (a : Ac) (w : Int) : orgsL (l ++ [a]) w (l ++ [a]).length = orgsL l w l.length ++ (if isRd a w = true then [orgW l a.item] else []) := by
  rw [show (l ++ [a]).length = l.length + 1 by simp, orgsL_succ, orgsL_pre _ _ _ _ (Nat.le_refl _)]
  have e1 : (l ++ [a]).getD l.length zAc = a := by rw [getD_in (by simp)]; simp
  rw [e1]
  congr 1
  split
  · rename_i h
    have hr : a.wr = false := by simp [isRd] at h; exact h.2
    have e2 : readAt (l ++ [a]) l.length = lastW l a.item := by
      unfold readAt; rw [e1, hr]; simp
    have h := (lastW_lt l a.item).1
    rw [e2, orgW]
    congr 1
    conv => rhs; rw [show l = (l ++ [a]).take l.length by simp]
    rw [orgAt_take (by simpa using h)]
    simp
  · rfl
/-- plays that are az good az each other -/
structure Alike (a b : List Ac) : Prop where
  perm : a.Perm b
  of : ∀ w, ofWho a w = ofWho b w
  reads : ∀ w, orgsL a w a.length = orgsL b w b.length
  last : ∀ x, orgW a x = orgW b x
theorem Alike.refl (a : List Ac) : Alike a a := ⟨.refl _, fun _ => rfl, fun _ => rfl, fun _ => rfl⟩
theorem Alike.trans {a b c : List Ac} (h : Alike a b) (k : Alike b c) : Alike a c := ⟨h.perm.trans k.perm, fun w => (h.of w).trans (k.of w), fun w => (h.reads w).trans (k.reads w), fun x => (h.last x).trans (k.last x)⟩
theorem Alike.symm {a b : List Ac} (h : Alike a b) : Alike b a := ⟨h.perm.symm, fun w => (h.of w).symm, fun w => (h.reads w).symm, fun x => (h.last x).symm⟩
theorem cntA_perm {a b : List Ac} (h : a.Perm b) (x : Ac) : cntA a x = cntA b x := (h.filter _).length_eq
theorem Alike.snoc {a b : List Ac} (h : Alike a b) (x : Ac) : Alike (a ++ [x]) (b ++ [x]) :=
  ⟨h.perm.append_right _, fun w => by have e := h.of w; simp only [ofWho] at e ⊢; rw [List.filter_append, List.filter_append, e],
   fun w => by rw [orgsL_snoc, orgsL_snoc, h.reads, h.last], fun y => by rw [orgW_snoc, orgW_snoc, h.last, cntA_perm h.perm]⟩
theorem Alike.append {a b : List Ac} (h : Alike a b) (r : List Ac) : Alike (a ++ r) (b ++ r) := by
  induction r generalizing a b with
  | nil => simpa using h
  | cons x r ih => have := ih (h.snoc x); simpa using this
end GL

namespace GL

end GL

namespace GL

end GL

namespace GL
open Go

end GL

namespace GL
open Go

end GL

namespace GL
open Go

end GL

namespace GL
open Go

end GL

namespace GL
open Go

def oneL (l : List Ac) (o : List Int) : List Ac := o.flatMap (ofWho l)
end GL

namespace GL
open Go

end GL

namespace GL
open Go

end GL

namespace GL
open Go

theorem nodup_inj {l : List Int} (hn : l.Nodup) {i j : Nat} (hi : i < l.length) (hj : j < l.length) (e : l[i] = l[j]) : i = j := by
  have h := List.pairwise_iff_getElem.1 hn
  rcases Nat.lt_trichotomy i j with q | q | q
  · exact absurd e (h i j hi hj q)
  · exact q
  · exact absurd e.symm (h j i hj hi q)
end GL

namespace GL
open Go

end GL

namespace GL
open Go

/-! a list of one's own that holds lists, cell by cell -/
structure Ls (h : Heap) (b : Nat) (vs : List V) (xs : List (List Int)) : Prop where
  blk : h[b]? = some ⟨.own, vs⟩
  len : vs.length = xs.length
  el : ∀ i (hi : i < xs.length), ∃ G, SdF h (vs.getD i .nils) xs[i] G ∧ b ∉ G
theorem reps_of : ∀ {h : Heap} {xs : List (List Int)} {vs : List V}, vs.length = xs.length → (∀ i (hi : i < xs.length), ∃ G, SdF h (vs.getD i .nils) xs[i] G) → ∃ F, Reps h xs vs F
  | h, [], vs, hl, _ => ⟨[], by simp at hl; exact ⟨hl, rfl⟩⟩
  | h, x :: xs, [], hl, _ => by simp at hl
  | h, x :: xs, v :: vs, hl, he => by
    obtain ⟨G, hG⟩ := he 0 (by simp)
    obtain ⟨F, hF⟩ := reps_of (h := h) (xs := xs) (vs := vs) (by simpa using hl) fun i hi => by
      obtain ⟨G, hG⟩ := he (i + 1) (by simpa using hi)
      exact ⟨G, by simpa using hG⟩
    exact ⟨G ++ F, [v], vs, G, F, rfl, rfl, ⟨v, rfl, by simpa using hG⟩, hF⟩
theorem sd_cells {h : Heap} {b m : Nat} {cells : List V} {ys : List (List Int)} (hb : h[b]? = some ⟨.own, cells⟩) (hm : m = ys.length) (hl : m ≤ cells.length) (hl2 : m ≤ 2 ^ 40) (he : ∀ i (hi : i < ys.length), ∃ G, SdF h (cells.getD i .nils) ys[i] G) : ∃ F, SdF h (.slice b 0 m (.o 1)) ys F := by
  subst hm
  have h1 : ∀ i (hi : i < ys.length), (cells.take ys.length).getD i .nils = cells.getD i .nils := fun i hi => by
    simp only [List.getD_eq_getElem?_getD, List.getElem?_take, hi, if_true]
  obtain ⟨F, hF⟩ := reps_of (h := h) (xs := ys) (vs := cells.take ys.length) (by rw [List.length_take]; omega) fun i hi => by
    rw [h1 i hi]; exact he i hi
  refine ⟨b :: F, by omega, .inr ⟨b, 0, .o 1, rfl, rfl, .inr ⟨_, cells.take ys.length, F, rfl, hb, by simp, ?_, hF⟩⟩⟩
  have hsz : Data.sz (List Int) = 1 := rfl
  simp only [cut, hsz, Nat.mul_one, Nat.zero_add, if_pos hl, List.drop_zero]
theorem Ls.sd {h : Heap} {b m : Nat} {vs : List V} {xs : List (List Int)} (L : Ls h b vs xs) (hm : m ≤ xs.length) (hl : xs.length ≤ 2 ^ 40) : ∃ F, SdF h (.slice b 0 m (.o 1)) (xs.take m) F := by
  refine sd_cells L.blk (by rw [List.length_take]; omega) (by rw [L.len]; exact hm) (by omega) fun i hi => ?_
  rw [List.length_take] at hi
  obtain ⟨G, hG, _⟩ := L.el i (by omega)
  exact ⟨G, by rw [List.getElem_take]; exact hG⟩
theorem Ls.rd {h : Heap} {b : Nat} {vs : List V} {xs : List (List Int)} (L : Ls h b vs xs) {i : Nat} (hi : i < xs.length) : rdH h b i 1 = some [vs.getD i .nils] := by
  have hv : i < vs.length := by rw [L.len]; exact hi
  rw [rdH_at L.blk (by simp), cut, if_pos (by show i + 1 ≤ vs.length; omega)]
  rw [List.drop_eq_getElem_cons hv, getD_in hv]; rfl
theorem Ls.get {h : Heap} {b : Nat} {vs : List V} {xs : List (List Int)} (L : Ls h b vs xs) {i : Nat} (hi : i < xs.length) : ∃ z G, rdH h b i 1 = some [z] ∧ SdF h z xs[i] G ∧ b ∉ G ∧ vs.getD i .nils = z := by
  obtain ⟨G, hG, hn⟩ := L.el i hi
  exact ⟨_, G, L.rd hi, hG, hn, rfl⟩
theorem Ls.at' {h h' : Heap} {b : Nat} {vs : List V} {xs : List (List Int)} (L : Ls h b vs xs) (hk : KeepsP (fun c => c ≠ b) h h') (hb : h'[b]? = some ⟨.own, vs⟩) : Ls h' b vs xs :=
  ⟨hb, L.len, fun i hi => by
    obtain ⟨G, hG, hn⟩ := L.el i hi
    exact ⟨G, hG.keeps (hk.mono fun c hc e => hn (e ▸ hc)), hn⟩⟩
theorem Ls.wr {h : Heap} {b : Nat} {vs ws : List V} {xs ys : List (List Int)} (L : Ls h b vs xs) (hl : ws.length = ys.length) (he : ∀ i (hi : i < ys.length), ∃ j, ∃ hj : j < xs.length, ws.getD i .nils = vs.getD j .nils ∧ ys[i] = xs[j]) : Ls (h.set b ⟨.own, ws⟩) b ws ys :=
  ⟨by simp [get_lt L.blk], hl, fun i hi => by
    obtain ⟨j, hj, e1, e2⟩ := he i hi
    obtain ⟨G, hG, hn⟩ := L.el j hj
    refine ⟨G, ?_, hn⟩
    rw [e1, e2]
    exact hG.keeps fun c blk hc hh _ => by rw [List.getElem?_set_ne (fun e => hn (by rw [e]; exact hc))]; exact hh⟩
theorem set_keep (h : Heap) (b : Nat) (nb : Blk) : KeepsP (fun c => c ≠ b) h (h.set b nb) := fun c blk hc hh _ => by rw [List.getElem?_set_ne (Ne.symm hc)]; exact hh
theorem Ls.set {h : Heap} {b i j : Nat} {vs : List V} {xs : List (List Int)} (L : Ls h b vs xs) (hi : i < xs.length) (hj : j < xs.length) : wrH h b i [vs.getD j .nils] = some (h.set b ⟨.own, vs.set i (vs.getD j .nils)⟩) ∧ Ls (h.set b ⟨.own, vs.set i (vs.getD j .nils)⟩) b (vs.set i (vs.getD j .nils)) (xs.set i xs[j]) := by
  have hv : i < vs.length := by rw [L.len]; exact hi
  refine ⟨?_, L.wr (by simp [L.len]) fun q hq => ?_⟩
  · rw [wrH_at L.blk rfl, lay, if_pos (by show i + 1 ≤ vs.length; omega)]
    have : vs.take i ++ [vs.getD j .nils] ++ vs.drop (i + 1) = vs.set i (vs.getD j .nils) := by rw [List.set_eq_take_append_cons_drop, if_pos hv]; simp
    rw [show i + [vs.getD j .nils].length = i + 1 from rfl, this]; rfl
  · rw [List.length_set] at hq
    by_cases e : i = q
    · subst e
      exact ⟨j, hj, by rw [getD_in (by rw [List.length_set]; exact hv), List.getElem_set_self], by simp⟩
    · refine ⟨q, hq, ?_, by rw [List.getElem_set_ne e]⟩
      simp only [List.getD_eq_getElem?_getD, List.getElem?_set_ne e]
/-- equal neighbours once -/
def newAt (xs : List (List Int)) (i : Nat) : Bool := decide (i = 0) || !decide (xs.getD i [] = xs.getD (i - 1) [])
def ddK (xs : List (List Int)) (n : Nat) : List (List Int) := ((List.range n).filter (newAt xs)).map fun i => xs.getD i []
theorem ddK_succ (xs : List (List Int)) (n : Nat) : ddK xs (n + 1) = ddK xs n ++ (if newAt xs n = true then [xs.getD n []] else []) := by
  rw [ddK, List.range_succ, List.filter_append, List.map_append, ddK]
  congr 1
  cases h : newAt xs n <;> simp [List.filter_cons, h]
theorem slc_tail {b n k : Nat} (hk : k ≤ n) : slcV 1 (.slice b 0 n (.o 1)) (some k) none none = some (.slice b k (n - k) (.o 1)) := by
  simp [slcV, hk]
theorem slc_head {b n k : Nat} (hk : k ≤ n) : slcV 1 (.slice b 0 n (.o 1)) none (some k) none = some (.slice b 0 k (.o 1)) := by
  simp [slcV, hk]
end GL

namespace GL
open Go

theorem idx_b {b off n i : Nat} {c : Cap} (hi : i < n) : idxV 1 (.slice b off n c) (vi i) = some (.ptr b (off + i)) := by
  rw [idxV_s, if_pos (by omega)]; simp
theorem drop_at {α : Type} {xs ys : List α} {p q : Nat} (h : ys.drop p = xs.drop p) (hpq : p ≤ q) (hx : q < xs.length) (hy : q < ys.length) : ys[q] = xs[q] := by
  have b := congrArg (fun l => l[q - p]?) h
  simp only [List.getElem?_drop] at b
  have e : p + (q - p) = q := by omega
  rw [e, List.getElem?_eq_getElem hy, List.getElem?_eq_getElem hx] at b
  injection b
/-- equal neighbours are made one -/
theorem compactF_ok {h : Heap} {b : Nat} {vs : List V} {xs : List (List Int)} (L : Ls h b vs xs) (hl : xs.length ≤ 2 ^ 20) :
    ∃ r h', call p 686 [.slice b 0 xs.length (.o 1), .fn 386 []] h = some (r, h') ∧ (∃ F, SdF h' r (ddK xs xs.length) F) ∧ KeepsP (fun c => c ≠ b) h h' ∧ h'.length = h.length := by
  refine go (fn := g686) rfl rfl fun R hR => ?_
  have take1 : ∀ k, k ≤ xs.length → (∀ j, 0 < j → j < k → xs.getD j [] ≠ xs.getD (j - 1) []) → ddK xs k = xs.take k := by
    intro k
    induction k with
    | zero => intro _ _; rfl
    | succ k ih =>
      intro hk hne
      have hkl : k < xs.length := by omega
      rw [ddK_succ, ih (by omega) fun j h1 h2 => hne j h1 (by omega), List.take_succ_eq_append_getElem hkl, getD_in hkl]
      have : newAt xs k = true := by
        unfold newAt
        by_cases h0 : k = 0
        · simp [h0]
        · have := hne k (by omega) (by omega)
          rw [decide_eq_false this]; simp
      rw [this]; rfl
  by_cases h2 : xs.length < 2
  · have h2' : (xs.length : Int) < 2 := by omega
    obtain ⟨F, hF⟩ := L.sd (Nat.le_refl _) (by omega)
    rw [List.take_length] at hF
    have := take1 xs.length (Nat.le_refl _) fun j h1 h2 => by omega
    rw [List.take_length] at this
    simp [g686, lenV, h2']
    exact hR _ _ ⟨⟨F, by rw [this]; exact hF⟩, KeepsP.refl _ _, rfl⟩
  · have h2' : ¬ (xs.length : Int) < 2 := by omega
    simp [g686, lenV, h2']
    refine Wc_upM (M := [4, 5, 6, 7, 12, 13, 14, 15, 16, 17, 18, 19, 20, 21, 22, 23, 24, 25, 26, 27, 28, 29, 30, 31, 32, 33, 34, 35, 36, 37, 38, 39, 40, 41, 42, 43, 44, 45, 46, 47, 48, 49, 50, 51, 52, 53, 54, 55, 56, 57, 58, 59, 60, 61, 62, 63, 64]) rfl xs.length (fun k s => s.σ 5 = .v (vi k) ∧ s.h = h ∧ 1 ≤ k ∧ k ≤ xs.length ∧ ∀ j, 0 < j → j < k → xs.getD j [] ≠ xs.getD (j - 1) []) 1
      ⟨by simp, rfl, Nat.le_refl _, by omega, fun j h1 h2 => by omega⟩ fun k s ⟨g5, gh, k1, kl, hne⟩ hM J hJ => ?_
    have hdd := take1 k kl hne
    by_cases hn : k < xs.length
    · have wk : IntKind.i64.wrap ((k : Int) - 1) = (k - 1 : Nat) := by rw [IntWalk.i64_in] <;> omega
      have wk1 : IntKind.i64.wrap ((k : Int) + 1) = (k + 1 : Nat) := by rw [IntWalk.i64_in] <;> omega
      have hk1 : k - 1 < xs.length := by omega
      have ix := idx_b (b := b) (off := 0) (c := .o 1) hn
      have iy := idx_b (b := b) (off := 0) (c := .o 1) hk1
      rw [Nat.zero_add] at ix iy
      obtain ⟨za, Ga, l1, sa, _, _⟩ := L.get hn
      obtain ⟨zb, Gb, l2, sb, _, _⟩ := L.get hk1
      have ee := Equal_eq sa.sl sb.sl
      by_cases he : xs[k] = xs[k - 1]
      · rw [decide_eq_true he] at ee
        have hs1 := slc_tail (b := b) (Nat.le_of_lt hn)
        simp [g686_1, hM, g5, gh, hn, lenV, wk, ix, iy, l1, l2, ee, bounds, takeB, hs1]
        refine Wc_upM (M := [5, 7, 32, 33, 34, 35, 36, 37, 38, 39, 40, 41, 42, 43, 44, 45, 46, 47, 48, 49, 50, 51, 52, 53, 54, 55, 56, 57, 58]) rfl (xs.length - k) (fun j t => t.σ 7 = .v (vi j) ∧ 1 ≤ j ∧ j ≤ xs.length - k ∧ ∃ (m : Nat) (ws : List V) (ys : List (List Int)), t.σ 5 = .v (vi m) ∧ k ≤ m ∧ m ≤ k + j - 1 ∧ Ls t.h b ws ys ∧ ys.length = xs.length ∧ ys.drop (k + j - 1) = xs.drop (k + j - 1) ∧ ys.take m = ddK xs (k + j) ∧ KeepsP (fun c => c ≠ b) h t.h ∧ t.h.length = h.length) 1
          ⟨by simp, Nat.le_refl _, by omega, k, vs, xs, by simp [g5], Nat.le_refl _, by omega, L, rfl, rfl, ?_, KeepsP.refl _ _, rfl⟩ fun j t ⟨g7, j1, jl, m, ws, ys, g5', m1, m2', hy, hyl, hdr, hdk, hk, hl2⟩ hM2 J2 hJ2 => ?_
        · rw [ddK_succ, hdd]
          have : newAt xs k = false := by
            unfold newAt
            rw [getD_in hn, getD_in hk1, decide_eq_true he, decide_eq_false (by omega)]; rfl
          rw [this]; simp
        by_cases hj : j < xs.length - k
        · have hkj : k + j < xs.length := by omega
          have hkj1 : k + j - 1 < xs.length := by omega
          have wj : IntKind.i64.wrap ((j : Int) - 1) = (j - 1 : Nat) := by rw [IntWalk.i64_in] <;> omega
          have wj1 : IntKind.i64.wrap ((j : Int) + 1) = (j + 1 : Nat) := by rw [IntWalk.i64_in] <;> omega
          have wm : IntKind.i64.wrap ((m : Int) + 1) = (m + 1 : Nat) := by rw [IntWalk.i64_in] <;> omega
          have i1 := idx_b (b := b) (off := k) (c := .o 1) hj
          have i2 := idx_b (b := b) (off := k) (c := .o 1) (show j - 1 < xs.length - k by omega)
          rw [show k + (j - 1) = k + j - 1 by omega] at i2
          have hy1 : k + j < ys.length := by omega
          have hy2 : k + j - 1 < ys.length := by omega
          obtain ⟨zc, Gc, r1, sc, _, hzc⟩ := hy.get hy1
          obtain ⟨zd, Gd, r2, sd, _, _⟩ := hy.get hy2
          have q1 := drop_at hdr (by omega) hkj hy1
          have q2 := drop_at hdr (Nat.le_refl _) hkj1 hy2
          rw [q1] at sc
          rw [q2] at sd
          have ee2 := Equal_eq sc.sl sd.sl
          have hdr' : ∀ zs : List (List Int), zs.drop (k + j - 1) = xs.drop (k + j - 1) → zs.drop (k + (j + 1) - 1) = xs.drop (k + (j + 1) - 1) := fun zs h => by
            have e : k + (j + 1) - 1 = k + j - 1 + 1 := by omega
            rw [e, ← List.drop_drop, ← List.drop_drop, h]
          have hjc : (j : Int) < ((xs.length - k : Nat) : Int) := by omega
          have hD := ddK_succ xs (k + j)
          have hnw : newAt xs (k + j) = !decide (xs[k + j] = xs[k + j - 1]) := by
            unfold newAt
            rw [getD_in hkj, getD_in hkj1, decide_eq_false (by omega)]; rfl
          rw [getD_in hkj, hnw] at hD
          by_cases hne2 : xs[k + j] = xs[k + j - 1]
          · rw [decide_eq_true hne2] at ee2 hD
            simp [g686_0, hM2, hM, g7, g5', lenV, hj, hjc, wj, i1, i2, r1, r2, ee2, wj1, -Int.natCast_add]
            exact hJ2 _ hj ⟨by simp, by omega, by omega, m, ws, ys, by simp [g5'], m1, by omega, hy, hyl, hdr' ys hdr, by rw [hdk]; simpa [Nat.add_assoc] using hD.symm, hk, hl2⟩
          · rw [decide_eq_false hne2] at ee2 hD
            have hmy : m < ys.length := by omega
            obtain ⟨e3, L3⟩ := hy.set hmy hy1
            rw [hzc] at e3 L3
            have im := idx_b (b := b) (off := 0) (c := .o 1) (show m < xs.length by omega)
            rw [Nat.zero_add] at im
            simp [g686_0, hM2, hM, g7, g5', lenV, hj, hjc, wj, i1, i2, r1, r2, ee2, im, sc.cells, sc.cell, e3, wm, wj1, -Int.natCast_add]
            refine hJ2 _ hj ⟨by simp, by omega, by omega, m + 1, _, _, by simp, by omega, by omega, L3, by simp [hyl], ?_, ?_, hk.trans (set_keep _ _ _), by simp [hl2]⟩
            · rw [List.drop_set_of_lt (by omega)]; exact hdr' ys hdr
            · rw [List.take_succ_eq_append_getElem (by simpa using hmy), List.take_set_of_le (Nat.le_refl m), List.getElem_set_self, hdk, q1]
              simpa [Nat.add_assoc] using hD.symm
        · have hje : j = xs.length - k := by omega
          subst hje
          have hkn : k + (xs.length - k) = xs.length := by omega
          rw [hkn] at hdk m2'
          have hs2 := slc_tail (b := b) (n := xs.length) (k := m) (by omega)
          have hs3 := slc_head (b := b) (n := xs.length) (k := m) (by omega)
          have hcn : ¬ xs.length - m = 0 := by omega
          have hwl := hy.len
          have hw : wrH t.h b m (List.replicate (xs.length - m) V.nils) = some (t.h.set b ⟨.own, ws.take m ++ List.replicate (xs.length - m) .nils⟩) := by
            rw [wrH_at hy.blk rfl, lay, if_pos (by show _ ≤ ws.length; rw [List.length_replicate]; omega), List.drop_of_length_le (by show ws.length ≤ _; rw [List.length_replicate]; omega)]
            simp
          obtain ⟨F, hF⟩ := sd_cells (h := t.h.set b ⟨.own, ws.take m ++ List.replicate (xs.length - m) .nils⟩) (b := b) (m := m) (cells := ws.take m ++ List.replicate (xs.length - m) .nils) (ys := ys.take m) (by simp [get_lt hy.blk]) (by rw [List.length_take]; omega) (by simp; omega) (by omega) fun i hi => by
            rw [List.length_take] at hi
            obtain ⟨G, hG, hn⟩ := hy.el i (by omega)
            refine ⟨G, ?_⟩
            have : (ws.take m ++ List.replicate (xs.length - m) V.nils).getD i .nils = ws.getD i .nils := by
              simp only [List.getD_eq_getElem?_getD]
              rw [List.getElem?_append_left (by rw [List.length_take]; omega), List.getElem?_take, if_pos (by omega)]
            rw [this, List.getElem_take]
            exact hG.keeps fun c blk hc hh _ => by rw [List.getElem?_set_ne (fun e => hn (by rw [e]; exact hc))]; exact hh
          rw [hdk] at hF
          simp [g686_0, hM2, hM, g7, g5', lenV, bounds, takeB, hs2, hs3, eop_clear, hcn, hw]
          exact hR _ _ ⟨⟨F, hF⟩, hk.trans (set_keep _ _ _), by simp [hl2]⟩
      · rw [decide_eq_false he] at ee
        simp [g686_1, hM, g5, gh, hn, lenV, wk, ix, iy, l1, l2, ee, wk1, -Int.natCast_add]
        refine hJ _ hn ⟨by simp, rfl, by omega, hn, fun j h1 h2 => ?_⟩
        rcases Nat.lt_succ_iff_lt_or_eq.1 h2 with h | h
        · exact hne j h1 h
        · subst h; rw [getD_in hn, getD_in hk1]; exact he
    · have : k = xs.length := by omega
      subst this
      obtain ⟨F, hF⟩ := L.sd (Nat.le_refl _) (by omega)
      rw [← hdd] at hF
      simp [g686_1, hM, g5, lenV]
      exact hR _ _ ⟨⟨F, by rw [gh]; exact hF⟩, by rw [gh]; exact KeepsP.refl _ _, by rw [gh]⟩
end GL

namespace GL
open Go

/-! lists in order -/
theorem ltL_irr : ∀ a : List Int, ltL a a = false
  | [] => rfl
  | x :: xs => by rw [ltL, if_pos rfl]; exact ltL_irr xs
theorem ltL_trans : ∀ {a b c : List Int}, a.length = b.length → b.length = c.length → ltL a b = true → ltL b c = true → ltL a c = true
  | [], _, _, _, _, h, _ => by simp [ltL] at h
  | _ :: _, [], _, h, _, _, _ => by simp at h
  | _ :: _, _ :: _, [], _, h, _, _ => by simp at h
  | x :: a, y :: b, z :: c, h1, h2, h3, h4 => by
    rw [ltL] at h3 h4 ⊢
    by_cases e1 : x = y
    · subst e1
      rw [if_pos rfl] at h3
      by_cases e2 : x = z
      · rw [if_pos e2] at h4 ⊢
        exact ltL_trans (by simpa using h1) (by simpa using h2) h3 h4
      · rw [if_neg e2] at h4 ⊢; exact h4
    · rw [if_neg e1, decide_eq_true_eq] at h3
      by_cases e2 : y = z
      · subst e2; rw [if_neg e1]; exact decide_eq_true h3
      · rw [if_neg e2, decide_eq_true_eq] at h4
        rw [if_neg (by omega)]; exact decide_eq_true (by omega)
theorem ltL_tri : ∀ {a b : List Int}, a.length = b.length → ltL a b = true ∨ a = b ∨ ltL b a = true
  | [], [], _ => .inr (.inl rfl)
  | [], _ :: _, h => by simp at h
  | _ :: _, [], h => by simp at h
  | x :: a, y :: b, h => by
    rw [ltL, ltL]
    by_cases e : x = y
    · subst e
      rw [if_pos rfl, if_pos rfl]
      rcases ltL_tri (a := a) (b := b) (by simpa using h) with h | h | h
      · exact .inl h
      · exact .inr (.inl (by rw [h]))
      · exact .inr (.inr h)
    · rw [if_neg e, if_neg (Ne.symm e)]
      rcases Int.lt_or_gt_of_ne e with h | h
      · exact .inl (decide_eq_true h)
      · exact .inr (.inr (decide_eq_true h))
theorem cmpT_lt : ∀ {a b : List Int}, a.length = b.length → (cmpT a b < 0 ↔ ltL a b = true)
  | [], [], _ => by simp [cmpT, ltL]
  | [], _ :: _, h => by simp at h
  | _ :: _, [], h => by simp at h
  | x :: a, y :: b, h => by
    rw [cmpT, ltL]
    by_cases e : x = y
    · rw [if_pos e, if_pos e]; exact cmpT_lt (by simpa using h)
    · rw [if_neg e, if_neg e]
      by_cases h1 : x < y
      · rw [if_pos h1, decide_eq_true h1]; simp
      · rw [if_neg h1, decide_eq_false h1]; simp
/-- all az long -/
def LenN (n : Nat) (xs : List (List Int)) : Prop := ∀ x ∈ xs, x.length = n
abbrev RisL (xs : List (List Int)) : Prop := xs.Pairwise fun a b => ltL a b = true
theorem risL_ext {n : Nat} : ∀ {az bs : List (List Int)}, LenN n az → LenN n bs → RisL az → RisL bs → (∀ x, x ∈ az ↔ x ∈ bs) → az = bs
  | [], [], _, _, _, _, _ => rfl
  | [], b :: bs, _, _, _, _, h => absurd ((h b).2 (by simp)) (by simp)
  | a :: az, [], _, _, _, _, h => absurd ((h a).1 (by simp)) (by simp)
  | a :: az, b :: bs, la, lb, ha, hb, h => by
    have no : ∀ {x y : List Int}, x.length = n → y.length = n → ltL x y = true → ltL y x = true → False := fun h1 h2 h3 h4 => by
      have := ltL_trans (h1.trans h2.symm) (h2.trans h1.symm) h3 h4
      rw [ltL_irr] at this; cases this
    rw [RisL, List.pairwise_cons] at ha hb
    have e : a = b := by
      have h1 := (h a).1 (by simp)
      have h2 := (h b).2 (by simp)
      rcases List.mem_cons.1 h1 with h1 | h1
      · exact h1
      · rcases List.mem_cons.1 h2 with h2 | h2
        · exact h2.symm
        · exact (no (la a (by simp)) (lb b (by simp)) (ha.1 _ h2) (hb.1 _ h1)).elim
    subst e
    rw [risL_ext (fun x hx => la x (by simp [hx])) (fun x hx => lb x (by simp [hx])) ha.2 hb.2 fun x => ?_]
    have := h x
    simp only [List.mem_cons] at this
    have irr : ∀ x, ltL x x = true → False := fun x h => by rw [ltL_irr] at h; cases h
    constructor
    · intro hx
      rcases this.1 (.inr hx) with e | h3
      · subst e; exact (irr _ (ha.1 _ hx)).elim
      · exact h3
    · intro hx
      rcases this.2 (.inr hx) with e | h3
      · subst e; exact (irr _ (hb.1 _ hx)).elim
      · exact h3
theorem addRow_ris {n : Nat} {row : List Int} (hr : row.length = n) : ∀ {rows : List (List Int)}, LenN n rows → RisL rows → RisL (addRow rows row)
  | [], _, _ => by simp [addRow, RisL]
  | r :: rs, hl, h => by
    rw [RisL, List.pairwise_cons] at h
    have hrl := hl r (by simp)
    rw [addRow]
    by_cases h1 : ltL r row = true
    · rw [if_pos h1, RisL, List.pairwise_cons]
      refine ⟨fun x hx => ?_, addRow_ris hr (fun x hx => hl x (by simp [hx])) h.2⟩
      rcases addRow_mem.1 hx with hx | hx
      · exact h.1 x hx
      · rw [hx]; exact h1
    · rw [if_neg h1]
      by_cases h2 : r = row
      · rw [if_pos h2, RisL, List.pairwise_cons]; exact h
      · rw [if_neg h2]
        have h3 : ltL row r = true := by
          rcases ltL_tri (a := r) (b := row) (hrl.trans hr.symm) with q | q | q
          · exact absurd q h1
          · exact absurd q h2
          · exact q
        rw [RisL, List.pairwise_cons]
        refine ⟨fun x hx => ?_, by rw [List.pairwise_cons]; exact h⟩
        rcases List.mem_cons.1 hx with rfl | hx
        · exact h3
        · exact ltL_trans (hr.trans hrl.symm) (hrl.trans (hl x (by simp [hx])).symm) h3 (h.1 x hx)
theorem addAll_facts {n : Nat} {rows : List (List Int)} (hl : LenN n rows) : RisL (addAll rows) ∧ LenN n (addAll rows) ∧ ∀ x, x ∈ addAll rows ↔ x ∈ rows := by
  have key : ∀ (rows acc : List (List Int)), LenN n rows → LenN n acc → RisL acc → RisL (rows.foldl addRow acc) ∧ LenN n (rows.foldl addRow acc) ∧ ∀ x, x ∈ rows.foldl addRow acc ↔ x ∈ acc ∨ x ∈ rows := by
    intro rows
    induction rows with
    | nil => intro acc _ h1 h2; exact ⟨h2, h1, fun x => by simp⟩
    | cons r rs ih =>
      intro acc h0 h1 h2
      obtain ⟨q1, q2, q3⟩ := ih (addRow acc r) (fun x hx => h0 x (by simp [hx])) (fun x hx => by
        rcases addRow_mem.1 hx with h | h
        · exact h1 x h
        · rw [h]; exact h0 r (by simp)) (addRow_ris (h0 r (by simp)) h1 h2)
      refine ⟨q1, q2, fun x => ?_⟩
      rw [List.foldl_cons, q3 x, addRow_mem, List.mem_cons, or_assoc]
  obtain ⟨q1, q2, q3⟩ := key rows [] hl (by intro x hx; cases hx) .nil
  exact ⟨q1, q2, fun x => by rw [addAll, q3 x]; simp⟩
/-- one list of rows, told in any way -/
theorem addAll_of {n : Nat} {rows ys : List (List Int)} (hl : LenN n rows) (hy : RisL ys) (hm : ∀ x, x ∈ ys ↔ x ∈ rows) : addAll rows = ys := by
  obtain ⟨q1, q2, q3⟩ := addAll_facts hl
  exact risL_ext q2 (fun x hx => hl x ((hm x).1 hx)) q1 hy fun x => (q3 x).trans (hm x).symm
theorem addAll_self {n : Nat} {rows : List (List Int)} (hl : LenN n rows) (h : RisL rows) : addAll rows = rows := addAll_of hl h fun _ => Iff.rfl
/-- sorted, and equal neighbours once -/
theorem dd_addAll {n : Nat} {ys rows : List (List Int)} (hl : LenN n rows) (hp : ys.Perm rows) (hs : ys.Pairwise fun a b => ltL b a = false) : ddK ys ys.length = addAll rows := by
  have hly : LenN n ys := fun x hx => hl x (hp.mem_iff.1 hx)
  have hs' := List.pairwise_iff_getElem.1 hs
  have key : ∀ k, k ≤ ys.length → RisL (ddK ys k) ∧ (∀ x, x ∈ ddK ys k ↔ x ∈ ys.take k) := by
    intro k
    induction k with
    | zero => intro _; exact ⟨.nil, fun x => by simp [ddK]⟩
    | succ k ih =>
      intro hk
      obtain ⟨q1, q2⟩ := ih (by omega)
      have hkl : k < ys.length := by omega
      have hmem : ∀ x, x ∈ ddK ys k → ltL ys[k] x = false := fun x hx => by
        obtain ⟨i, hi, e⟩ := List.mem_take_iff_getElem.1 ((q2 x).1 hx)
        rw [← e]
        exact hs' i k (by omega) hkl (by omega)
      rw [ddK_succ, getD_in hkl, List.take_succ_eq_append_getElem hkl]
      cases hn : newAt ys k with
      | true =>
        rw [if_pos rfl]
        refine ⟨?_, fun x => by rw [List.mem_append, List.mem_append, q2 x]⟩
        rw [RisL, List.pairwise_append]
        refine ⟨q1, by simp, fun x hx z hz => ?_⟩
        simp only [List.mem_singleton] at hz
        subst hz
        have hxl : x.length = n := hly x (List.mem_of_mem_take ((q2 x).1 hx))
        have hzl : ys[k].length = n := hly _ (List.getElem_mem hkl)
        rcases ltL_tri (a := x) (b := ys[k]) (hxl.trans hzl.symm) with h | h | h
        · exact h
        · exfalso
          -- the neighbour before stands between
          obtain ⟨i, hi, e⟩ := List.mem_take_iff_getElem.1 ((q2 x).1 hx)
          have hk0 : ¬ k = 0 := by omega
          unfold newAt at hn
          rw [decide_eq_false hk0, getD_in hkl, getD_in (show k - 1 < ys.length by omega)] at hn
          have hne : ys[k] ≠ ys[k - 1] := by simpa using hn
          have hpl : ys[k - 1].length = n := hly _ (List.getElem_mem (by omega))
          have a1 := hs' (k - 1) k (by omega) hkl (by omega)
          have a2 : ltL ys[k - 1] x = false := by
            rw [← e]
            by_cases hik : i = k - 1
            · subst hik; exact ltL_irr _
            · exact hs' i (k - 1) (by omega) (by omega) (by omega)
          rw [h] at a2
          rcases ltL_tri (a := ys[k - 1]) (b := ys[k]) (hpl.trans hzl.symm) with q | q | q
          · rw [q] at a2; cases a2
          · exact hne q.symm
          · rw [q] at a1; cases a1
        · have := hmem x hx; rw [this] at h; cases h
      | false =>
        rw [if_neg (by simp), List.append_nil]
        refine ⟨q1, fun x => ?_⟩
        rw [q2 x, List.mem_append, List.mem_singleton]
        constructor
        · exact .inl
        · rintro (h | h)
          · exact h
          · unfold newAt at hn
            simp only [Bool.or_eq_false_iff, decide_eq_false_iff_not, Bool.not_eq_false', decide_eq_true_eq] at hn
            rw [getD_in hkl, getD_in (show k - 1 < ys.length by omega)] at hn
            rw [h, hn.2, List.mem_take_iff_getElem]
            exact ⟨k - 1, by omega, rfl⟩
  obtain ⟨q1, q2⟩ := key ys.length (Nat.le_refl _)
  rw [List.take_length] at q2
  exact (addAll_of hl q1 fun x => (q2 x).trans hp.mem_iff).symm
end GL

namespace GL
open Go

theorem cmpT_irr : ∀ xs : List Int, cmpT xs xs = 0
  | [] => rfl
  | x :: xs => by rw [cmpT, if_pos rfl]; exact cmpT_irr xs
theorem cmpT_swap : ∀ xs ys : List Int, cmpT xs ys = - cmpT ys xs
  | [], [] => rfl
  | [], _ :: _ => rfl
  | _ :: _, [] => rfl
  | x :: xs, y :: ys => by
    rw [cmpT, cmpT]
    by_cases h : x = y
    · rw [if_pos h, if_pos h.symm]; exact cmpT_swap xs ys
    · rw [if_neg h, if_neg (Ne.symm h)]
      by_cases h1 : x < y
      · rw [if_pos h1, if_neg (by omega)]
      · rw [if_neg h1, if_pos (by omega)]; rfl
theorem cmpT_le : ∀ xs ys zs : List Int, 0 ≤ cmpT xs ys → 0 ≤ cmpT ys zs → 0 ≤ cmpT xs zs
  | [], [], [], _, _ => by decide
  | [], [], _ :: _, _, h => absurd h (by show ¬ (0 : Int) ≤ -1; decide)
  | [], _ :: _, _, h, _ => absurd h (by show ¬ (0 : Int) ≤ -1; decide)
  | _ :: _, _, [], _, _ => by show (0 : Int) ≤ 1; decide
  | _ :: _, [], _ :: _, _, h => absurd h (by show ¬ (0 : Int) ≤ -1; decide)
  | x :: xs, y :: ys, z :: zs, h1, h2 => by
    rw [cmpT] at h1 h2 ⊢
    by_cases e1 : x = y
    · rw [if_pos e1] at h1
      by_cases e2 : y = z
      · rw [if_pos e2] at h2
        rw [if_pos (e1.trans e2)]
        exact cmpT_le xs ys zs h1 h2
      · rw [if_neg e2] at h2
        rw [e1, if_neg e2]; exact h2
    · rw [if_neg e1] at h1
      by_cases q1 : x < y
      · rw [if_pos q1] at h1; exact absurd h1 (by decide)
      · by_cases e2 : y = z
        · rw [if_neg (by omega), if_neg (by omega)]; decide
        · rw [if_neg e2] at h2
          by_cases q2 : y < z
          · rw [if_pos q2] at h2; exact absurd h2 (by decide)
          · rw [if_neg (by omega), if_neg (by omega)]; decide
theorem swoL (cs : List (List Int)) : Go.Sort.SWO fun i j : Nat => decide (cfT cs i j < 0) where
  irrefl x := by simp only [cfT, cmpT_irr]; rfl
  trans x y z h1 h2 := by
    have h1 : cmpT (cs.getD x []) (cs.getD y []) < 0 := of_decide_eq_true h1
    have h2 : cmpT (cs.getD y []) (cs.getD z []) < 0 := of_decide_eq_true h2
    refine decide_eq_true (show cmpT (cs.getD x []) (cs.getD z []) < 0 from ?_)
    by_cases h : cmpT (cs.getD x []) (cs.getD z []) < 0
    · exact h
    · exfalso
      have a := cmpT_swap (cs.getD x []) (cs.getD y [])
      have b := cmpT_le (cs.getD y []) (cs.getD x []) (cs.getD z []) (by omega) (by omega)
      have c := cmpT_swap (cs.getD y []) (cs.getD z [])
      omega
  ntrans x y z h1 h2 := by
    have h1 : ¬ cmpT (cs.getD x []) (cs.getD y []) < 0 := of_decide_eq_false h1
    have h2 : ¬ cmpT (cs.getD y []) (cs.getD z []) < 0 := of_decide_eq_false h2
    refine decide_eq_false (show ¬ cmpT (cs.getD x []) (cs.getD z []) < 0 from ?_)
    have := cmpT_le (cs.getD x []) (cs.getD y []) (cs.getD z []) (by omega) (by omega)
    omega
theorem idxT_facts (cs : List (List Int)) : (idxT cs).Perm (List.range cs.length) ∧ (idxT cs).Pairwise fun i j => 0 ≤ cfT cs j i := by
  obtain ⟨⟨h1, _, h3⟩, h4⟩ := Go.Sort.pdq_sorts (fun i j : Nat => decide (cfT cs i j < 0)) (swoL cs) (Array.range cs.length) 0 cs.length (Go.Lib.bitLen cs.length) true true (Nat.zero_le _) (by simp) (Or.inl rfl)
  generalize hd : Go.Sort.pdq (fun i j : Nat => decide (cfT cs i j < 0)) (Array.range cs.length) 0 cs.length (Go.Lib.bitLen cs.length) true true = d at *
  have hsz : d.size = cs.length := by rw [h1]; simp
  have he : idxT cs = d.toList := by rw [idxT, hd]
  rw [he]
  have e1 : d.extract 0 cs.length = d := by rw [← hsz]; exact Array.extract_size
  have e2 : (Array.range cs.length).extract 0 cs.length = Array.range cs.length := by
    have := Array.extract_size (xs := Array.range cs.length)
    rwa [Array.size_range] at this
  rw [e1, e2] at h3
  refine ⟨by simpa using h3, ?_⟩
  rw [List.pairwise_iff_getElem]
  intro i j hi hj hij
  have hi' : i < d.size := by simpa using hi
  have hj' : j < d.size := by simpa using hj
  have := h4 i j (Nat.zero_le _) hij (by omega)
  rw [getElem!_pos d i hi', getElem!_pos d j hj'] at this
  simp only [decide_eq_false_iff_not, Array.getElem_toList] at this ⊢
  omega
theorem tupP_of {h : Heap} {b : Nat} : ∀ {vs : List V} {xs : List (List Int)}, vs.length = xs.length → (∀ x ∈ xs, x.length ≤ 2 ^ 20) → (∀ i (hi : i < xs.length), ∃ G, SdF h (vs.getD i .nils) xs[i] G ∧ b ∉ G) → tupP h b vs = some xs
  | [], [], _, _, _ => rfl
  | [], _ :: _, hl, _, _ => by simp at hl
  | _ :: _, [], hl, _, _ => by simp at hl
  | v :: vs, x :: xs, hl, hx, he => by
    obtain ⟨G, hG, hn⟩ := he 0 (by simp)
    have hG : SdF h v x G := by simpa using hG
    have ih := tupP_of (h := h) (b := b) (vs := vs) (xs := xs) (by simpa using hl) (fun y hy => hx y (by simp [hy])) fun i hi => by
      obtain ⟨G, hG, hn⟩ := he (i + 1) (by simpa using hi)
      exact ⟨G, by simpa using hG, hn⟩
    have h1 := hG.len
    have h2 := hG.sl.rdS x.length (Nat.le_refl _)
    rw [List.take_length, flats_ints] at h2
    have h2 : rdS h 1 v x.length = some (x.map (V.int .i64)) := h2
    have h3 := hx x (by simp)
    have h4 : blkV v ≠ some b ∨ x.length = 0 := by
      rcases hG with ⟨_, ⟨rfl, _, _⟩ | ⟨b1, off, cap, rfl, _, ⟨rfl, _⟩ | ⟨blk, cs, G1, rfl, _⟩⟩⟩
      · left; simp [blkV]
      · right; rfl
      · left
        simp only [blkV]
        intro e
        injection e with e
        exact hn (by rw [← e]; simp)
    simp only [tupP, h1, Option.bind_some]
    rw [if_pos ⟨by omega, h4⟩, h2]
    simp only [Option.bind_some, intsV_eq, ih]
/-- slices.SortFunc by slices.Compare -/
theorem sortT_ok {h : Heap} {b : Nat} {vs : List V} {xs : List (List Int)} (L : Ls h b vs xs) (hl : xs.length ≤ 2 ^ 20) (hx : ∀ x ∈ xs, x.length ≤ 2 ^ 20) :
    ∃ h', call p 685 [.slice b 0 xs.length (.o 1), .fn 677 []] h = some (.tup [], h') ∧ (∃ ws ys, Ls h' b ws ys ∧ ys.Perm xs ∧ ys.Pairwise fun a c => 0 ≤ cmpT c a) ∧ KeepsP (fun c => c ≠ b) h h' ∧ h'.length = h.length := by
  have hvl := L.len
  have hT := tupP_of hvl hx L.el
  rw [call_ext (e := sortTE) rfl]
  by_cases h0 : xs.length = 0
  · have hx0 : xs = [] := List.length_eq_zero_iff.1 h0
    subst hx0
    have hv0 : vs = [] := List.length_eq_zero_iff.1 hvl
    subst hv0
    exact ⟨h, by simp [sortTE, lenV, rdS, tupP], ⟨[], [], L, .refl _, .nil⟩, KeepsP.refl _ _, rfl⟩
  · obtain ⟨hp, hs⟩ := idxT_facts xs
    have hil : (idxT xs).length = xs.length := by have := hp.length_eq; simpa using this
    have hin : ∀ i ∈ idxT xs, i < xs.length := fun i hi => by
      have := hp.mem_iff.1 hi; simpa using this
    have hr : rdS h 1 (.slice b 0 xs.length (.o 1)) xs.length = some vs := by
      rw [rdS, if_pos (Nat.le_refl _), if_neg (by omega), rdH_at L.blk (by simp), cut, if_pos (by show 0 + xs.length * 1 ≤ vs.length; omega)]
      simp [← hvl]
    have hw : wrH h b 0 ((idxT xs).map fun i => vs.getD i .nils) = some (h.set b ⟨.own, (idxT xs).map fun i => vs.getD i .nils⟩) := by
      rw [wrH_at L.blk rfl, lay, if_pos (by show 0 + _ ≤ vs.length; rw [List.length_map]; omega)]
      have : vs.drop (0 + ((idxT xs).map fun i => vs.getD i .nils).length) = [] := List.drop_of_length_le (by rw [List.length_map]; omega)
      show (some (vs.take 0 ++ _ ++ vs.drop (0 + ((idxT xs).map fun i => vs.getD i .nils).length))).bind _ = _
      rw [this]; simp
    have hne : xs ≠ [] := fun e => h0 (by rw [e]; rfl)
    refine ⟨h.set b ⟨.own, (idxT xs).map fun i => vs.getD i .nils⟩, by simp only [sortTE, if_true, lenV, Option.bind_some, if_pos (show xs.length ≤ 1099511627776 by omega), hr, hT, if_neg hne, hw], ⟨(idxT xs).map (fun i => vs.getD i .nils), (idxT xs).map fun i => xs.getD i [], L.wr (by simp) fun i hi => ?_, ?_, ?_⟩, set_keep _ _ _, by simp⟩
    · rw [List.length_map] at hi
      have hj := hin _ (List.getElem_mem hi)
      refine ⟨(idxT xs)[i], hj, ?_, ?_⟩
      · rw [getD_in (by rw [List.length_map]; exact hi), List.getElem_map]
      · rw [List.getElem_map, getD_in hj]
    · have e : (List.range xs.length).map (fun i => xs.getD i []) = xs := by
        apply List.ext_getElem
        · simp
        · intro i h1 h2; rw [List.getElem_map, List.getElem_range, getD_in h2]
      have := hp.map fun i => xs.getD i []
      rwa [e] at this
    · rw [List.pairwise_map]
      exact hs
end GL

namespace GL
open Go

theorem sortT_nil {h : Heap} {v : V} (hv : v = .nils ∨ ∃ b c, v = .slice b 0 0 c) : call p 685 [v, .fn 677 []] h = some (.tup [], h) := by
  rw [call_ext (e := sortTE) rfl]
  rcases hv with rfl | ⟨b, c, rfl⟩ <;> simp [sortTE, lenV, rdS, tupP]
theorem compactF_nil {h : Heap} {v : V} (hv : v = .nils ∨ ∃ b c, v = .slice b 0 0 c) : call p 686 [v, .fn 386 []] h = some (v, h) := by
  refine go_eq (fn := g686) rfl rfl fun R hR => ?_
  rcases hv with rfl | ⟨b, c, rfl⟩ <;> (simp [g686, lenV]; exact hR)
theorem Ls.of_od {lo : Nat} {h : Heap} {b : Nat} {cs : List V} {xs : List (List Int)} {F : List Nat} (hb : h[b]? = some ⟨.own, cs⟩) (hr : Reps h xs cs F) (hn : b ∉ F) : Ls h b cs xs := by
  have hsz : Data.sz (List Int) = 1 := rfl
  have hl := hr.len
  rw [hsz, Nat.mul_one] at hl
  refine ⟨hb, hl, fun i hi => ?_⟩
  obtain ⟨F1, F2, F3, hF, ⟨z, ez, hz⟩, _, _⟩ := hr.get i hi
  rw [hsz, Nat.mul_one] at ez
  refine ⟨F2, ?_, fun h => hn (by rw [hF]; simp [h])⟩
  have hv : i < cs.length := by omega
  rw [List.drop_eq_getElem_cons hv] at ez
  simp only [List.take_succ_cons, List.take_zero, List.cons.injEq, and_true] at ez
  rw [getD_in hv, ez]; exact hz
theorem related_ok {h : Heap} {v w : V} {c : List Int} {rows : List (List Int)} {F : List Nat} (hc : Sl h v c) (hs : SdF h w rows F) (hl : LenN c.length rows) (hcl : c.length ≤ 2 ^ 10) (hrl : rows.length ≤ 2 ^ 16) :
    ∃ r h', call p 673 [v, w] h = some (r, h') ∧ ∃ x y Fx Fy, r = .tup [.agg [x, y], .bool (goodRl (tellR c rows))] ∧ SdF h' x (if goodRl (tellR c rows) = true then c else []) Fx ∧ SdF h' y (if goodRl (tellR c rows) = true then addAll rows else []) Fy ∧ Keeps h h' ∧ h.length ≤ h'.length := by
  obtain ⟨a, h1, e1, Fa, sa, fa, k1, l1⟩ := cloneI_ok hc (by omega : c.length ≤ 2 ^ 20)
  refine go (fn := g673) rfl rfl fun R hR => ?_
  simp [g673, upd, e1, sa.cells, sa.cell, fillL, hs.len]
  refine Wc_upM (M := [8, 14, 15, 16, 17, 18, 19, 20, 21, 22, 23, 24, 25]) rfl rows.length (fun i s => i ≤ rows.length ∧ s.σ 14 = .v (vi i) ∧ Keeps h1 s.h ∧ h1.length ≤ s.h.length ∧ s.L 4 = (1, [.nils, .nils]) ∧ ∃ y G, s.L 6 = (1, [a, y]) ∧ Od h1.length s.h y (rows.take i) G) 0
    ⟨by omega, by simp, Keeps.refl _, Nat.le_refl _, by simp [upd], .nils, [], by simp [upd], by simpa using Od.nil (Nat.le_refl _)⟩ fun i s ⟨gi, g14, hk, hl0, gL4, y, G, gL6, sy⟩ hM J hJ => ?_
  by_cases hi : i < rows.length
  · have hss := (hs.keep k1).keep hk
    obtain ⟨z, Fz, ez, hz, _⟩ := hss.loadL i hi
    have ix := hss.idx 1 .i64 i hi
    simp only [Nat.mul_one] at ix
    have st := hss.step hi
    have hzl := hl _ (List.getElem_mem hi)
    obtain ⟨z2, h2, e2, F2, s2, f2, k2, l2⟩ := cloneI_ok hz.sl (by omega)
    have kl : Keeps h2 (h2 ++ [⟨.own, [z2]⟩]) := Keeps.append _ _
    have o2 := sy.keeps ((k2.trans kl).p fun _ => True) (fun _ _ => trivial) (fun _ _ => trivial) (by simp; omega)
    obtain ⟨y3, h3, e3, o3, k3, l3, b3⟩ := o2.app (zs := [rows[i]]) (ys := [z2]) (G := F2) (by simp) (.one ⟨z2, rfl, s2.keep kl⟩) (fun b hb hvb => by
      have q1 := f2.ge b hb
      have q2 := (sy.ge hvb).2
      omega) (bytes := 24) (by decide) (by rw [List.length_take]; simp; omega) (k := 1) (n := 1) rfl rfl
    obtain ⟨_, sy3, _⟩ := o3.sd
    have ht : rows.take (i + 1) = rows.take i ++ [rows[i]] := List.take_succ_eq_append_getElem hi
    have hk3 : Keeps h1 h3 := fun b blk hb hst => by
      have := get_lt hb
      exact k3 b blk (fun hvb => by have := (sy.ge hvb).1; omega) (kl _ _ (k2 _ _ (hk _ _ hb hst) hst) hst) hst
    generalize rows[i] = row at *
    simp [g673_0, hM, g14, hi, ix, ez, e2, gL6, upd, rdS_last, fillL, s2.cells, s2.cell, e3, sy3.cells, sy3.cell, st]
    exact hJ _ hi ⟨hi, by simp, hk3, by simp at l3; show h1.length ≤ h3.length; omega, by simp [gL4], y3, _, by simp, by rw [ht]; exact o3⟩
  · have : i = rows.length := by omega
    subst this
    rw [List.take_length] at sy
    -- the list, sorted and each once
    obtain ⟨h4, y5, h5, e4, e5, ⟨F5, s5⟩, k5, l5⟩ : ∃ h4 y5 h5, call p 685 [y, .fn 677 []] s.h = some (.tup [], h4) ∧ call p 686 [y, .fn 386 []] h4 = some (y5, h5) ∧ (∃ F5, SdF h5 y5 (addAll rows) F5) ∧ Keeps h1 h5 ∧ h1.length ≤ h5.length := by
      obtain ⟨hbd, _, ⟨rfl, rfl, _⟩ | ⟨b, cs, rfl, hb, hlo, hr, hn⟩ | ⟨b, rfl, rfl, _⟩⟩ := sy
      · exact ⟨_, _, _, sortT_nil (.inl rfl), compactF_nil (.inl rfl), ⟨[], SdF.nil⟩, hk, hl0⟩
      · have L := Ls.of_od (lo := 0) hb hr hn
        obtain ⟨h4, e4, ⟨ws, ys, L4, hp, hsr⟩, k4, l4⟩ := sortT_ok L (by omega) (fun x hx => by have := hl x hx; omega)
        have hyl := hp.length_eq
        obtain ⟨r, h5, e5, ⟨F5, s5⟩, k5, l5⟩ := compactF_ok L4 (by omega)
        rw [hyl] at e5
        have hdd : ddK ys ys.length = addAll rows := by
          refine dd_addAll hl hp ((List.Pairwise.and_mem.1 hsr).imp fun {x z} ⟨hx, hz, q⟩ => ?_)
          have q1 := hl x (hp.mem_iff.1 hx)
          have q2 := hl z (hp.mem_iff.1 hz)
          cases hlt : ltL z x with
          | false => rfl
          | true =>
            have := (cmpT_lt (q2.trans q1.symm)).2 hlt
            omega
        rw [hdd] at s5
        exact ⟨h4, r, h5, e4, e5, ⟨F5, s5⟩, Keeps.far hk (k4.trans k5) hlo fun i hi => by omega, by omega⟩
      · exact ⟨_, _, _, sortT_nil (.inr ⟨_, _, rfl⟩), compactF_nil (.inr ⟨_, _, rfl⟩), ⟨[], by simp [addAll], .inr ⟨_, _, _, rfl, by simp [capW, addAll], .inl ⟨rfl, rfl⟩⟩⟩, hk, hl0⟩
    have hv : RlV h5 (.agg [a, y5]) (tellR c rows) := ⟨a, y5, Fa, F5, rfl, sa.keep k5, s5⟩
    have eg := GoodRelation_eq hv
    have hlen : h.length ≤ h5.length := by omega
    cases hg : goodRl (tellR c rows) with
    | false =>
      rw [hg] at eg hR
      simp [g673_0, hM, g14, gL6, upd, e4, e5, s5.cells, s5.cell, eg, gL4, fillL, resV, mkV]
      exact hR _ _ ⟨.nils, .nils, [], [], rfl, .nil, .nil, k1.trans k5, hlen⟩
    | true =>
      rw [hg] at eg hR
      simp [g673_0, hM, g14, gL6, upd, e4, e5, s5.cells, s5.cell, eg, gL4, sa.cells, sa.cell, fillL, resV, mkV]
      exact hR _ _ ⟨a, y5, Fa, F5, rfl, sa.keep k5, s5, k1.trans k5, hlen⟩
end GL

namespace GL
open Go

/-! a reserved block stays one through a call -/
theorem lenE_fill : FillC fun _ => lenE := fun _ args h v h' q blk hx hd => by
  have hx : lenE args h = some (v, h') := hx
  show isDead h' q = true ∧ lenE args (h.set q blk) = some (v, h'.set q blk)
  obtain ⟨n, rfl, hn, e⟩ := lenE_some hx
  injection e with e1 e2
  subst e1; subst e2
  exact ⟨hd, by simp [lenE, hn]⟩
theorem valuesE_fill : FillC fun _ => valuesE := fun _ args h v h' q blk hx hd => by
  have hx : valuesE args h = some (v, h') := hx
  show isDead h' q = true ∧ valuesE args (h.set q blk) = some (v, h'.set q blk)
  obtain ⟨v0, rfl, hs, e⟩ := valuesE_some hx
  injection e with e1 e2
  subst e1; subst e2
  refine ⟨isDead_app hd, ?_⟩
  rw [valuesE_eq _ hs, set_app _ _ hd]
  simp
theorem sortedE_fill : FillC fun _ => sortedE := fun _ args h v h' q blk hx hd => by
  have hx : sortedE args h = some (v, h') := hx
  show isDead h' q = true ∧ sortedE args (h.set q blk) = some (v, h'.set q blk)
  obtain ⟨b, o, x, n, zs, rfl, hb, hn, hle, hz, e⟩ := sortedE_some hx
  rw [sortedE_eq (rdH_fill hd hb) hn hle (rdS_fill hd hz)]
  unfold sortedR at e ⊢
  by_cases h0 : zs = []
  · rw [if_pos h0] at e ⊢
    injection e with e1 e2
    subst e1; subst e2
    exact ⟨hd, rfl⟩
  · rw [if_neg h0] at e ⊢
    injection e with e1 e2
    subst e1; subst e2
    exact ⟨isDead_app hd, by rw [set_app _ _ hd]; simp⟩
theorem sortE_fill : FillC fun _ => sortE := fun _ args h v h' q blk hx hd => by
  have hx : sortE args h = some (v, h') := hx
  show isDead h' q = true ∧ sortE args (h.set q blk) = some (v, h'.set q blk)
  obtain ⟨x, n, zs, rfl, hl, hle, hr, e1, hcase⟩ := sortE_some hx
  simp only at e1 hcase
  subst e1
  have hlen : n = zs.length := by
    have := rdS_len hr
    simpa using this.symm
  subst hlen
  rcases hcase with ⟨rfl, rfl, hs⟩ | ⟨h0, b, off, m, c, rfl, hw⟩
  · exact ⟨hd, sortE_nil hs hl⟩
  · simp only [lenV] at hl
    injection hl with hl
    subst hl
    obtain ⟨hd', hw'⟩ := wrH_fill (nb := blk) hd hw
    exact ⟨hd', sortE_eq hle (rdS_fill hd hr) h0 hw'⟩
theorem lastE_fill : FillC fun _ => lastE := fun _ args h v h' q blk hx hd => by
  have hx : lastE args h = some (v, h') := hx
  show isDead h' q = true ∧ lastE args (h.set q blk) = some (v, h'.set q blk)
  obtain ⟨u, x, n, zs, rfl, hn, hle, hz, e⟩ := lastE_some hx
  injection e with e1 e2
  subst e1; subst e2
  rw [lastE_eq hn hle (rdS_fill hd hz)]
  exact ⟨hd, rfl⟩
theorem sortVE_fill : FillC fun _ => sortVE := fun _ args h v h' q blk hx hd => by
  have hx : sortVE args h = some (v, h') := hx
  show isDead h' q = true ∧ sortVE args (h.set q blk) = some (v, h'.set q blk)
  obtain ⟨x, n, zs, rfl, hl, hle, hr, e1, hcase⟩ := sortVE_some hx
  simp only at e1 hcase
  subst e1
  have hlen : n = zs.length := by
    have := rdS_len hr
    rw [valC_len] at this; omega
  subst hlen
  rcases hcase with ⟨rfl, rfl, hs⟩ | ⟨h0, b, off, m, c, rfl, hw⟩
  · exact ⟨hd, sortVE_nil hs hl⟩
  · simp only [lenV] at hl
    injection hl with hl
    subst hl
    obtain ⟨hd', hw'⟩ := wrH_fill (nb := blk) hd hw
    exact ⟨hd', sortVE_eq hle (rdS_fill hd hr) h0 hw'⟩
theorem sortTE_fill : FillC fun _ => sortTE := fun _ args h v h' q blk hx hd => by
  have hx : sortTE args h = some (v, h') := hx
  show isDead h' q = true ∧ sortTE args (h.set q blk) = some (v, h'.set q blk)
  obtain ⟨x, n, xs, rfl, hl, hle, hr, e1, hcase⟩ := sortTE_some hx
  simp only at e1 hcase
  subst e1
  have hlen : n = xs.length := by
    have := rdS_len hr
    omega
  subst hlen
  rcases hcase with ⟨rfl, rfl, hs⟩ | ⟨h0, b, off, m, c, cs, rfl, hcs, hw⟩
  · exact ⟨hd, sortTE_nil hs hl⟩
  · simp only [lenV] at hl
    injection hl with hl
    subst hl
    obtain ⟨hd', hw'⟩ := wrH_fill (nb := blk) hd hw
    exact ⟨hd', sortTE_eq hle (rdS_fill hd hr) h0 (tupP_fill hd hcs) hw'⟩
theorem splH_fill {k m : Nat} {s : V} {i j : Nat} {w v : V} {h h' : Heap} {q : Nat} {blk : Blk} (hx : splH k m s i j w h = some (v, h')) (hd : isDead h q = true) : isDead h' q = true ∧ splH k m s i j w (h.set q blk) = some (v, h'.set q blk) := by
  unfold splH at hx
  split at hx
  case h_2 => cases hx
  rename_i b off n cap
  split at hx
  case h_2 => cases hx
  rename_i bk hb
  split at hx
  case isFalse => cases hx
  rename_i hc
  simp only [Option.bind_eq_some_iff] at hx
  obtain ⟨ys, hy, hx⟩ := hx
  injection hx with hx
  injection hx with e1 e2
  subst e1; subst e2
  obtain ⟨bq, hq, hqd⟩ := isDead_get hd
  have hlt := isDead_lt hd
  have hne : q ≠ b := fun e => by
    rw [e, hb] at hq
    injection hq with hq
    subst hq
    rw [hc.1.1] at hqd; cases hqd
  have h1 : (h.set q blk)[b]? = some bk := by rw [List.getElem?_set_ne hne]; exact hb
  refine ⟨?_, ?_⟩
  · unfold isDead
    rw [List.getElem?_append_left (by simpa using hlt), List.getElem?_set_ne (Ne.symm hne), hq]
    simp [hqd]
  · simp only [splH, h1, if_pos hc, rdS_fill hd hy, Option.bind_some, List.length_set]
    rw [List.set_append_left _ _ (by simpa using hlt), List.set_comm _ _ hne]
theorem insE_fill : FillC fun _ => insE := fun _ args h v h' q blk hx hd => by
  have hx : insE args h = some (v, h') := hx
  show isDead h' q = true ∧ insE args (h.set q blk) = some (v, h'.set q blk)
  unfold insE at hx
  split at hx
  case h_2 => cases hx
  exact splH_fill hx hd
theorem repE_fill : FillC fun _ => repE := fun _ args h v h' q blk hx hd => by
  have hx : repE args h = some (v, h') := hx
  show isDead h' q = true ∧ repE args (h.set q blk) = some (v, h'.set q blk)
  unfold repE at hx
  split at hx
  case h_2 => cases hx
  split at hx
  case isFalse => cases hx
  rename_i hj
  obtain ⟨h1, h2⟩ := splH_fill (blk := blk) hx hd
  refine ⟨h1, ?_⟩
  simp only [repE, if_pos hj]; exact h2
theorem ext_fill : ∀ f e, p.ext f = some e → FillC fun _ => e := by
  intro f e h
  unfold p at h
  dsimp only at h
  try unfold extT at h
  try unfold extF at h
  repeat' (first
    | (cases h; done)
    | (rcases bif_some h with ⟨_, h1⟩ | ⟨_, h⟩
       · injection h1 with h1
         subst h1
         first | exact lenE_fill | exact sortE_fill | exact valuesE_fill | exact sortedE_fill | exact lastE_fill | exact sortVE_fill | exact sortTE_fill | exact insE_fill | exact repE_fill))
theorem call_dead {f : Nat} {args : List V} {h h' : Heap} {v : V} {q : Nat} (hx : call p f args h = some (v, h')) (hd : isDead h q = true) : isDead h' q = true := by
  obtain ⟨n, hn⟩ := call_iff.1 hx
  exact (callN_fill ext_fill n f args h v h' q ⟨.dead, []⟩ hn hd).1
end GL

namespace GL
open Go

theorem dead_keeps {h : Heap} {q : Nat} (hd : isDead h q = true) (nb : Blk) : Keeps h (h.set q nb) := fun b blk hb hl => by
  have hne : b ≠ q := fun e => by
    obtain ⟨bq, hq, hqd⟩ := isDead_get hd
    rw [e, hq] at hb
    injection hb with hb
    subst hb
    exact hl hqd
  rw [List.getElem?_set_ne (Ne.symm hne)]; exact hb
theorem dead_first (h : Heap) : isDead (h ++ [deadBlk]) h.length = true := by
  have := isDeadA h [deadBlk] 0
  rw [Nat.add_zero] at this
  rw [this]; rfl
end GL

namespace GL
open Go

theorem sameRel_same {h : Heap} {v w : V} {r : Rl} (hv : RlV h v r) (hw : RlV h w r) : call p 640 [v, w] h = some (.bool true, h) := by
  obtain ⟨a, b, F1, F2, rfl, ha, hb⟩ := hv
  obtain ⟨c, d, F3, F4, rfl, hc, hd⟩ := hw
  have e1 := sameInts_eq ha.sl hc.sl
  rw [decide_eq_true rfl] at e1
  have e2 := sameRows_same hb hd
  refine go_eq (fn := g640) rfl rfl fun R hR => ?_
  simp [g640, upd, ha.cells, ha.cell, hb.cells, hb.cell, hc.cells, hc.cell, hd.cells, hd.cell, e1, e2]
  exact hR
end GL

namespace GL
open Go

end GL

namespace GL
open Go

/-- a list more in a list of one's own -/
theorem Od.oneL {lo : Nat} {h : Heap} {v : V} {xs : List (List Int)} {F : List Nat} (o : Od lo h v xs F) {z : V} {row : List Int} {G : List Nat} (hz : SdF h z row G) (hG : ∀ b ∈ G, ¬ vB v b) (hl : xs.length ≤ 2 ^ 20) :
    ∃ v' h', appH 1 24 v 1 [z] (h ++ [⟨.own, [z]⟩]) = some (v', h') ∧ (∃ F', Od lo h' v' (xs ++ [row]) F') ∧ KeepsP (fun i => ¬ vB v i) h h' ∧ h.length < h'.length := by
  have kl : Keeps h (h ++ [⟨.own, [z]⟩]) := Keeps.append _ _
  have o2 := o.keeps (kl.p fun _ => True) (fun _ _ => trivial) (fun _ _ => trivial) (by simp)
  obtain ⟨v', h', e, o3, k3, l3, _⟩ := o2.app (zs := [row]) (ys := [z]) (G := G) (by simp) (.one ⟨z, rfl, hz.keep kl⟩) hG (bytes := 24) (by decide) (by simp; omega) (k := 1) (n := 1) rfl rfl
  exact ⟨v', h', e, ⟨_, o3⟩, fun b blk hb hh hst => k3 b blk hb (kl _ _ hh hst) hst, by simp at l3; omega⟩
theorem Od.farK {lo : Nat} {h0 h h' : Heap} {v : V} {xs : List (List Int)} {F : List Nat} (o : Od lo h v xs F) (hk : Keeps h0 h) (hp : KeepsP (fun i => ¬ vB v i) h h') (hl : h0.length ≤ lo) : Keeps h0 h' := fun b blk hb hst => by
  have := get_lt hb
  exact hp b blk (fun hv => by have := (o.ge hv).1; omega) (hk _ _ hb hst) hst
/-- what an operation on relations hands on -/
def RelR (h : Heap) (o : V) (b : Bool) (q : Rl) : Prop := ∃ x y Fx Fy, o = .tup [.agg [x, y], .bool (b && goodRl q)] ∧ SdF h x (if (b && goodRl q) = true then q.c else []) Fx ∧ SdF h y (if (b && goodRl q) = true then q.rows else []) Fy
theorem RelR.bad {h : Heap} {q : Rl} : RelR h (.tup [.agg [.nils, .nils], .bool false]) false q := ⟨.nils, .nils, [], [], rfl, .nil, .nil⟩
theorem small_tell {c : List Int} {rows : List (List Int)} (h1 : c.length ≤ 6) (h2 : risB 0 20 c = true) (h3 : LenN c.length rows) (h4 : ∀ t ∈ rows, t.all smallQ = true) (h5 : (addAll rows).length ≤ 60) : goodRl (tellR c rows) = true := by
  obtain ⟨q1, q2, q3⟩ := addAll_facts h3
  have q1' := List.pairwise_iff_getElem.1 q1
  have hq : rowsP2 c.length (addAll rows) (addAll rows).length = true := by
    rw [rowsP2, List.all_eq_true]
    intro j hj
    have hj := List.mem_range.1 hj
    have hm := List.getElem_mem hj
    simp only [rowQ2, getD_in hj, Bool.and_eq_true, decide_eq_true_eq, Bool.or_eq_true]
    refine ⟨⟨q2 _ hm, h4 _ ((q3 _).1 hm)⟩, ?_⟩
    by_cases h0 : j = 0
    · exact .inl h0
    · right
      rw [getD_in (show j - 1 < (addAll rows).length by omega)]
      exact q1' (j - 1) j (by omega) hj (by omega)
  show (decide (c.length ≤ 6) && risB 0 20 c && decide ((addAll rows).length ≤ 60) && rowsP2 c.length (addAll rows) (addAll rows).length) = true
  rw [decide_eq_true h1, h2, decide_eq_true h5, hq]; rfl
theorem goodRl_more {r : Rl} (h : goodRl r = true) : LenN r.c.length r.rows ∧ RisL r.rows ∧ (∀ t ∈ r.rows, t.all smallQ = true) ∧ risB 0 20 r.c = true ∧ addAll r.rows = r.rows := by
  have h' := h
  simp only [goodRl, Bool.and_eq_true, decide_eq_true_eq] at h'
  obtain ⟨⟨⟨h1, h2⟩, h3⟩, h4⟩ := h'
  have row : ∀ j (hj : j < r.rows.length), r.rows[j].length = r.c.length ∧ r.rows[j].all smallQ = true ∧ (j = 0 ∨ ltL (r.rows.getD (j - 1) []) r.rows[j] = true) := fun j hj => by
    have := rowsP2_at h4 hj
    simp only [rowQ2, getD_in hj, Bool.and_eq_true, decide_eq_true_eq, Bool.or_eq_true] at this
    exact ⟨this.1.1, this.1.2, this.2⟩
  have hl : LenN r.c.length r.rows := fun t ht => by
    obtain ⟨j, hj, rfl⟩ := List.mem_iff_getElem.1 ht
    exact (row j hj).1
  have hris : RisL r.rows := by
    rw [RisL, List.pairwise_iff_getElem]
    intro i j hi hj hij
    obtain ⟨m, rfl⟩ : ∃ m, j = i + m + 1 := ⟨j - i - 1, by omega⟩
    clear hij
    induction m with
    | zero =>
      rcases (row (i + 1) hj).2.2 with h0 | h0
      · omega
      · rwa [show i + 1 - 1 = i by omega, getD_in hi] at h0
    | succ m ih =>
      have hj' : i + m + 1 < r.rows.length := by omega
      have a := ih hj'
      rcases (row (i + (m + 1) + 1) hj).2.2 with h0 | h0
      · omega
      · rw [getD_in (show i + (m + 1) + 1 - 1 < r.rows.length by omega)] at h0
        refine ltL_trans ((row i hi).1.trans (row _ hj').1.symm) ?_ a h0
        exact (row _ hj').1.trans (row _ hj).1.symm
  exact ⟨hl, hris, fun t ht => by
    obtain ⟨j, hj, rfl⟩ := List.mem_iff_getElem.1 ht
    exact (row j hj).2.1, h2, addAll_self hl hris⟩
theorem pickL_len (c row xs : List Int) : (pickL c row xs).length = xs.length := by simp [pickL]
def projB (r : Rl) (xs : List Int) : Bool := goodRl r && partB r.c xs
def projL (r : Rl) (xs : List Int) : Rl := tellR xs (r.rows.map fun t => pickL r.c t xs)
theorem Project_ok {h : Heap} {x y v : V} {r : Rl} {xs : List Int} {Fx Fy : List Nat} (hx : SdF h x r.c Fx) (hy : SdF h y r.rows Fy) (hv : Sl h v xs) : ∃ o h', call p 739 [.agg [x, y], v] h = some (o, h') ∧ RelR h' o (projB r xs) (projL r xs) ∧ Keeps h h' ∧ h.length ≤ h'.length := by
  have e1 := GoodRelation_eq (v := .agg [x, y]) ⟨x, y, Fx, Fy, rfl, hx, hy⟩
  have e2 := isPart_eq hv hx.sl
  refine go (fn := g739) rfl rfl fun R hR => ?_
  cases hg : goodRl r with
  | false =>
    rw [hg] at e1
    simp [g739, upd, hx.cells, hx.cell, hy.cells, hy.cell, e1, fillL, resV, mkV]
    exact hR _ _ ⟨by rw [projB, hg]; exact RelR.bad, Keeps.refl _, Nat.le_refl _⟩
  | true =>
    rw [hg] at e1
    cases hp : partB r.c xs with
    | false =>
      rw [hp] at e2
      simp [g739, upd, hx.cells, hx.cell, hy.cells, hy.cell, hv.cells, hv.cell, e1, e2, fillL, resV, mkV]
      exact hR _ _ ⟨by rw [projB, hg, hp]; exact RelR.bad, Keeps.refl _, Nat.le_refl _⟩
    | true =>
      rw [hp] at e2
      obtain ⟨c6, _, r60, hrow⟩ := goodRl_facts hg
      obtain ⟨pin, pl⟩ := part_facts hp
      simp [g739, upd, hx.cells, hx.cell, hy.cells, hy.cell, hv.cells, hv.cell, e1, e2, hy.len]
      refine Wc_upM (M := [6, 8, 24, 25, 26, 27, 28, 29, 30, 31, 32, 33, 34, 35, 36]) rfl r.rows.length (fun i s => i ≤ r.rows.length ∧ s.σ 24 = .v (vi i) ∧ s.L 2 = (1, [x, y]) ∧ s.L 4 = (1, [.nils, .nils]) ∧ Keeps h s.h ∧ h.length ≤ s.h.length ∧ ∃ v6 F, s.σ 6 = .v v6 ∧ Od h.length s.h v6 ((r.rows.take i).map fun t => pickL r.c t xs) F) 0
        ⟨by omega, by simp, by simp [upd], by simp [upd], Keeps.append _ _, by simp, .slice h.length 0 0 (.k 0), [], by simp, by simpa using Od.empty (Nat.le_refl _) (by simp)⟩ fun i s ⟨gi, g24, gL2, gL4, hk, hl0, v6, F, g6, o6⟩ hM J hJ => ?_
      by_cases hi : i < r.rows.length
      · have hy' := hy.keep hk
        obtain ⟨z, Fz, ez, hz, _⟩ := hy'.loadL i hi
        have ix := hy'.idx 1 .i64 i hi
        simp only [Nat.mul_one] at ix
        have st := hy'.step hi
        obtain ⟨z2, h2, e3, oz, k2, l2⟩ := under_ok (hx.keep hk).sl hz.sl (hv.keeps hk) (hrow i hi) pin (by omega) (by omega)
        obtain ⟨Fz2, sz2, fz2⟩ := oz.fr
        have o6' := o6.keeps (k2.p fun _ => True) (fun _ _ => trivial) (fun _ _ => trivial) l2
        obtain ⟨v7, h3, e4, ⟨F7, o7⟩, k3, l3⟩ := o6'.oneL sz2 (fun b hb hvb => by
          have q1 := fz2.ge b hb
          have q2 := (o6.ge hvb).2
          omega) (by simp; omega)
        obtain ⟨_, s7, _⟩ := o7.sd
        have ht : (r.rows.take (i + 1)).map (fun t => pickL r.c t xs) = (r.rows.take i).map (fun t => pickL r.c t xs) ++ [pickL r.c r.rows[i] xs] := by
          rw [List.take_succ_eq_append_getElem hi, List.map_append]; rfl
        have k3' := o6'.farK (hk.trans k2) k3 (Nat.le_refl _)
        generalize r.rows[i] = t at *
        simp [g739_0, hM, g24, g6, hi, ix, ez, gL2, e3, sz2.cells, sz2.cell, fillL, rdS_last, e4, st]
        exact hJ _ hi ⟨hi, by simp, by simp [gL2], by simp [gL4], k3', by show h.length ≤ h3.length; omega, v7, F7, by simp, by rw [ht]; exact o7⟩
      · have : i = r.rows.length := by omega
        subst this
        rw [List.take_length] at o6
        obtain ⟨F6, s6, _⟩ := o6.sd
        obtain ⟨_, h9, e9, a9, b9, Fa, Fb, rfl, sa, sb, k9, l9⟩ := related_ok (hv.keeps hk) s6 (fun t ht => by
          obtain ⟨t0, _, rfl⟩ := List.mem_map.1 ht
          exact pickL_len _ _ _) (by omega) (by simp; omega)
        simp [g739_0, hM, g24, g6, e9, upd, gL4, sa.cells, sa.cell, sb.cells, sb.cell, fillL, resV, mkV]
        exact hR _ _ ⟨⟨a9, b9, Fa, Fb, by rw [projB, hg, hp]; rfl, by rw [projB, hg, hp]; exact sa, by rw [projB, hg, hp]; exact sb⟩, hk.trans k9, by omega⟩
theorem ProjectS_ok {h : Heap} {x y v : V} {r : Rl} {xs : List Int} {Fx Fy : List Nat} (hx : SdF h x r.c Fx) (hy : SdF h y r.rows Fy) (hv : Sl h v xs) : ∃ o h', call p 752 [.agg [x, y], v] h = some (o, h') ∧ RelR h' o (projB r xs) (projL r xs) ∧ Keeps h h' ∧ h.length ≤ h'.length := by
  have e1 := GoodRelationS_eq (v := .agg [x, y]) ⟨x, y, Fx, Fy, rfl, hx, hy⟩
  refine go (fn := g752) rfl rfl fun R hR => ?_
  cases hg : goodRl r with
  | false =>
    rw [hg] at e1
    simp [g752, upd, hx.cells, hx.cell, hy.cells, hy.cell, e1, fillL, resV, mkV]
    exact hR _ _ ⟨by rw [projB, hg]; exact RelR.bad, Keeps.refl _, Nat.le_refl _⟩
  | true =>
    rw [hg] at e1
    obtain ⟨c6, cin, r60, hrow⟩ := goodRl_facts hg
    have e2 := l3Sub_eq hx.sl hv cin
    cases hp : partB r.c xs with
    | false =>
      rw [hp] at e2
      simp [g752, upd, hx.cells, hx.cell, hy.cells, hy.cell, hv.cells, hv.cell, e1, e2, fillL, resV, mkV]
      exact hR _ _ ⟨by rw [projB, hg, hp]; exact RelR.bad, Keeps.refl _, Nat.le_refl _⟩
    | true =>
      rw [hp] at e2
      obtain ⟨pin, pl⟩ := part_facts hp
      simp [g752, upd, hx.cells, hx.cell, hy.cells, hy.cell, hv.cells, hv.cell, e1, e2, hy.len]
      refine Wc_upM (M := [6, 8, 23, 24, 25, 26, 27, 28, 29, 30, 31, 32, 33, 34, 35]) rfl r.rows.length (fun i s => i ≤ r.rows.length ∧ s.σ 23 = .v (vi i) ∧ s.L 2 = (1, [x, y]) ∧ s.L 4 = (1, [.nils, .nils]) ∧ Keeps h s.h ∧ h.length ≤ s.h.length ∧ ∃ v6 F, s.σ 6 = .v v6 ∧ Od h.length s.h v6 ((r.rows.take i).map fun t => pickL r.c t xs) F) 0
        ⟨by omega, by simp, by simp [upd], by simp [upd], Keeps.refl _, Nat.le_refl _, .nils, [], by simp, by simpa using Od.nil (Nat.le_refl _)⟩ fun i s ⟨gi, g23, gL2, gL4, hk, hl0, v6, F, g6, o6⟩ hM J hJ => ?_
      by_cases hi : i < r.rows.length
      · have hy' := hy.keep hk
        obtain ⟨z, Fz, ez, hz, _⟩ := hy'.loadL i hi
        have ix := hy'.idx 1 .i64 i hi
        simp only [Nat.mul_one] at ix
        have st := hy'.step hi
        obtain ⟨z2, h2, e3, oz, k2, l2⟩ := l3Pick_ok (hx.keep hk).sl hz.sl (hv.keeps hk) (hrow i hi) pin (by omega) (by omega)
        obtain ⟨Fz2, sz2, fz2⟩ := oz.fr
        have o6' := o6.keeps (k2.p fun _ => True) (fun _ _ => trivial) (fun _ _ => trivial) l2
        obtain ⟨v7, h3, e4, ⟨F7, o7⟩, k3, l3⟩ := o6'.oneL sz2 (fun b hb hvb => by
          have q1 := fz2.ge b hb
          have q2 := (o6.ge hvb).2
          omega) (by simp; omega)
        obtain ⟨_, s7, _⟩ := o7.sd
        have ht : (r.rows.take (i + 1)).map (fun t => pickL r.c t xs) = (r.rows.take i).map (fun t => pickL r.c t xs) ++ [pickL r.c r.rows[i] xs] := by
          rw [List.take_succ_eq_append_getElem hi, List.map_append]; rfl
        have k3' := o6'.farK (hk.trans k2) k3 (Nat.le_refl _)
        generalize r.rows[i] = t at *
        simp [g752_0, hM, g23, g6, hi, ix, ez, gL2, e3, sz2.cells, sz2.cell, fillL, rdS_last, e4, st]
        exact hJ _ hi ⟨hi, by simp, by simp [gL2], by simp [gL4], k3', by show h.length ≤ h3.length; omega, v7, F7, by simp, by rw [ht]; exact o7⟩
      · have : i = r.rows.length := by omega
        subst this
        rw [List.take_length] at o6
        obtain ⟨F6, s6, _⟩ := o6.sd
        obtain ⟨_, h9, e9, a9, b9, Fa, Fb, rfl, sa, _, sb, _, _, k9, l9⟩ := l3Tell_ok (hv.keeps hk) s6 (fun t ht => by
          obtain ⟨t0, _, rfl⟩ := List.mem_map.1 ht
          exact pickL_len _ _ _) (by omega) (by simp; omega)
        obtain ⟨Fb', sb', _⟩ := sb.sd
        simp [g752_0, hM, g23, g6, e9, upd, gL4, sa.cells, sa.cell, sb'.cells, sb'.cell, fillL, resV, mkV]
        exact hR _ _ ⟨⟨a9, b9, Fa, Fb', by rw [projB, hg, hp]; rfl, by rw [projB, hg, hp]; exact sa, by rw [projB, hg, hp]; exact sb'⟩, hk.trans k9, by omega⟩
end GL

namespace GL
open Go

theorem pos_in {c : List Int} {name : Int} (h : name ∈ c) : ∃ q : Nat, placeL c name = q ∧ q < c.length := by
  have := place_in h
  exact ⟨(placeL c name).toNat, by omega, by omega⟩

end GL

namespace GL
open Go

theorem Ls.keep {h h' : Heap} {b : Nat} {vs : List V} {xs : List (List Int)} (L : Ls h b vs xs) (hk : Keeps h h') : Ls h' b vs xs := L.at' (hk.p _) (hk b _ L.blk (by simp))
end GL

namespace GL
open Go

end GL

namespace GL
open Go

/-- a list of lists that is made az long az it will be, and filled -/
def GsL (h : Heap) (lo : Nat) (w : V) (zs : List (List Int)) (n : Nat) : Prop :=
  (n = 0 ∧ zs = [] ∧ w = .nils) ∨ ∃ b vs F, w = .slice b 0 zs.length (.o 1) ∧ lo ≤ b ∧ h[b]? = some ⟨.own, vs ++ List.replicate (n - zs.length) V.nils⟩ ∧ zs.length ≤ n ∧ Reps h zs vs F ∧ b ∉ F
theorem Reps.lenL {h : Heap} {xs : List (List Int)} {cs : List V} {F : List Nat} (hr : Reps h xs cs F) : cs.length = xs.length := by
  have := hr.len; rwa [show Data.sz (List Int) = 1 from rfl, Nat.mul_one] at this
theorem GsL.sd {h : Heap} {lo : Nat} {w : V} {zs : List (List Int)} {n : Nat} (g : GsL h lo w zs n) (hn : zs.length = n) (hl : n ≤ 2 ^ 40) : ∃ F, SdF h w zs F := by
  rcases g with ⟨_, rfl, rfl⟩ | ⟨b, vs, F, rfl, hb, hc, _, hv, _⟩
  · exact ⟨[], SdF.nil⟩
  · rw [hn, Nat.sub_self, List.replicate_zero, List.append_nil] at hc
    subst hn
    have hvl := hv.lenL
    refine ⟨b :: F, by omega, .inr ⟨b, 0, .o 1, rfl, rfl, .inr ⟨_, vs, F, rfl, hc, by simp, ?_, hv⟩⟩⟩
    simp only [cut, show Data.sz (List Int) = 1 from rfl, Nat.mul_one, Nat.zero_add]
    rw [if_pos (by show zs.length ≤ vs.length; omega), List.drop_zero, List.take_of_length_le (by show vs.length ≤ _; omega)]
end GL

namespace GL
open Go

end GL

namespace GL
open Go

end GL

namespace GL
open Go

end GL

namespace GL
open Go

end GL

namespace GL
open Go

theorem place_nodup {xs : List Int} (hn : xs.Nodup) {i : Nat} (hi : i < xs.length) : placeL xs xs[i] = i := by
  refine idx_take hi rfl fun hm => ?_
  obtain ⟨j, hj, e⟩ := List.mem_take_iff_getElem.1 hm
  have := nodup_inj hn _ _ e
  omega
end GL

namespace GL
open Go

end GL

namespace GL
open Go

theorem small_at {t : List Int} (h : t.all smallQ = true) (i : Nat) : smallQ (t.getD i 0) = true := by
  by_cases hi : i < t.length
  · rw [getD_in hi]; exact List.all_eq_true.1 h _ (List.getElem_mem hi)
  · rw [show t.getD i 0 = 0 by rw [List.getD_eq_getElem?_getD, List.getElem?_eq_none (by omega)]; rfl]; decide
theorem pick_small {c t xs : List Int} (h : t.all smallQ = true) : (pickL c t xs).all smallQ = true := by
  rw [List.all_eq_true]
  intro m hm
  obtain ⟨n, _, rfl⟩ := List.mem_map.1 hm
  exact small_at h _
theorem addAll_le (rows : List (List Int)) : (addAll rows).length ≤ rows.length := by
  have := addAll_len rows []
  simp only [List.length_nil] at this
  unfold addAll; omega
theorem proj_good {r : Rl} {xs : List Int} (hB : projB r xs = true) : goodRl (projL r xs) = true := by
  simp only [projB, Bool.and_eq_true] at hB
  obtain ⟨hg, hp⟩ := hB
  obtain ⟨hl, hr, hs, hc, _⟩ := goodRl_more hg
  obtain ⟨c6, cin, r60, _⟩ := goodRl_facts hg
  obtain ⟨pin, pl⟩ := part_facts hp
  have hris : xs.Pairwise (· < ·) := by
    simp only [partB, Bool.and_eq_true, decide_eq_true_eq] at hp; exact hp.2
  refine small_tell (by omega) (ris_of.2 ⟨fun x hx => cin x (pin x hx), hris⟩) (fun t ht => ?_) (fun t ht => ?_) ?_
  · obtain ⟨t0, _, rfl⟩ := List.mem_map.1 ht; exact pickL_len _ _ _
  · obtain ⟨t0, h0, rfl⟩ := List.mem_map.1 ht; exact pick_small (hs t0 h0)
  · have := addAll_le (r.rows.map fun t => pickL r.c t xs)
    rw [List.length_map] at this; omega
theorem getD_mapF {α : Type} (f : Int → α) {xs : List Int} {i : Nat} (hi : i < xs.length) (d : α) : (xs.map f).getD i d = f xs[i] := by
  rw [getD_in (by rw [List.length_map]; exact hi), List.getElem_map]
end GL

namespace GL
open Go

abbrev CC (x y : V) : Prop := x.cells = [x] ∧ x.cell = true ∧ y.cells = [y] ∧ y.cell = true
/-- a relation handed on, or none -/
def givR (b : Bool) (q : Rl) : Rl := if (b && goodRl q) = true then q else ⟨[], []⟩
theorem RelR.get {h : Heap} {o : V} {b : Bool} {q : Rl} (hR : RelR h o b q) : ∃ x y Fx Fy, o = .tup [.agg [x, y], .bool (b && goodRl q)] ∧ SdF h x (givR b q).c Fx ∧ SdF h y (givR b q).rows Fy ∧ CC x y := by
  obtain ⟨x, y, Fx, Fy, e, hx, hy⟩ := hR
  refine ⟨x, y, Fx, Fy, e, ?_, ?_, hx.cells, hx.cell, hy.cells, hy.cell⟩
  · unfold givR
    by_cases hb : (b && goodRl q) = true
    · rw [if_pos hb] at hx ⊢; exact hx
    · rw [if_neg hb] at hx ⊢; exact hx
  · unfold givR
    by_cases hb : (b && goodRl q) = true
    · rw [if_pos hb] at hy ⊢; exact hy
    · rw [if_neg hb] at hy ⊢; exact hy
theorem RelR.good {h : Heap} {o : V} {b : Bool} {q : Rl} (hR : RelR h o b q) (hb : b = true) (hg : goodRl q = true) : ∃ x y Fx Fy, o = .tup [.agg [x, y], .bool true] ∧ SdF h x q.c Fx ∧ SdF h y q.rows Fy ∧ CC x y := by
  obtain ⟨x, y, Fx, Fy, e, hx, hy, hc⟩ := hR.get
  rw [givR, hb, hg, Bool.and_true, if_pos rfl] at hx hy
  rw [hb, hg] at e
  exact ⟨x, y, Fx, Fy, e, hx, hy, hc⟩
/-- two values of one relation agree -/
theorem alike {h : Heap} {x y z w : V} {r : Rl} {F1 F2 F3 F4 : List Nat} (hx : SdF h x r.c F1) (hy : SdF h y r.rows F2) (hz : SdF h z r.c F3) (hw : SdF h w r.rows F4) : call p 640 [.agg [x, y], .agg [z, w]] h = some (.bool true, h) :=
  sameRel_same (r := r) ⟨x, y, F1, F2, rfl, hx, hy⟩ ⟨z, w, F3, F4, rfl, hz, hw⟩

end GL

namespace GL
open Go

end GL

namespace GL
open Go

/-! two relations joined: the plain side -/
def joinB (a b : Rl) : Bool := goodRl a && goodRl b
def comN (a b : Rl) : List Int := a.c.filter fun n => decide (n ∈ b.c)
def togN (a b : Rl) : List Int := srtI (a.c ++ b.c.filter fun n => !decide (n ∈ a.c))
def joinAt (a b : Rl) (t u : List Int) (n : Int) : Int := if n ∈ a.c then t.getD (placeL a.c n).toNat 0 else u.getD (placeL b.c n).toNat 0
def joinT (a b : Rl) (t u : List Int) : List Int := (togN a b).map (joinAt a b t u)
def joinQ (a b : Rl) (t u : List Int) : Bool := decide (pickL a.c t (comN a b) = pickL b.c u (comN a b))
def joinO (a b : Rl) (t : List Int) (us : List (List Int)) : List (List Int) := (us.filter (joinQ a b t)).map (joinT a b t)
def joinR (a b : Rl) (ts : List (List Int)) : List (List Int) := ts.flatMap fun t => joinO a b t b.rows
def joinL (a b : Rl) : Rl := tellR (togN a b) (joinR a b a.rows)
theorem joinO_take (a b : Rl) (t : List Int) {us : List (List Int)} {j : Nat} (hj : j < us.length) : joinO a b t (us.take (j + 1)) = joinO a b t (us.take j) ++ if joinQ a b t us[j] = true then [joinT a b t us[j]] else [] := by
  rw [List.take_succ_eq_append_getElem hj, joinO, List.filter_append, List.map_append]
  congr 1
  cases h : joinQ a b t us[j]
  · simp only [List.filter_cons, h, Bool.false_eq_true, if_false, List.filter_nil, List.map_nil]
  · simp only [List.filter_cons, h, if_true, List.filter_nil, List.map_cons, List.map_nil]
theorem joinR_take (a b : Rl) {ts : List (List Int)} {i : Nat} (hi : i < ts.length) : joinR a b (ts.take (i + 1)) = joinR a b (ts.take i) ++ joinO a b ts[i] b.rows := by
  rw [List.take_succ_eq_append_getElem hi, joinR, List.flatMap_append]
  simp [joinR]
theorem joinO_len (a b : Rl) (t : List Int) (us : List (List Int)) : (joinO a b t us).length ≤ us.length := by
  rw [joinO, List.length_map]; exact List.length_filter_le ..
theorem joinR_len (a b : Rl) : ∀ ts : List (List Int), (joinR a b ts).length ≤ ts.length * b.rows.length
  | [] => by simp [joinR]
  | t :: ts => by
    have h1 := joinR_len a b ts
    have h2 := joinO_len a b t b.rows
    have : joinR a b (t :: ts) = joinO a b t b.rows ++ joinR a b ts := by simp [joinR]
    rw [this, List.length_append, List.length_cons, Nat.succ_mul]; omega
theorem joinT_len (a b : Rl) (t u : List Int) : (joinT a b t u).length = (togN a b).length := by simp [joinT]
theorem joinR_LenN (a b : Rl) (ts : List (List Int)) : LenN (togN a b).length (joinR a b ts) := fun x hx => by
  obtain ⟨t, _, hx⟩ := List.mem_flatMap.1 hx
  obtain ⟨u, _, rfl⟩ := List.mem_map.1 hx
  exact joinT_len a b t u
theorem good_ris {r : Rl} (h : goodRl r = true) : r.c.Pairwise (· < ·) ∧ r.c.Nodup := by
  obtain ⟨_, _, _, q, _⟩ := goodRl_more h
  have hr := (ris_of.1 q).2
  exact ⟨hr, hr.imp fun h => Int.ne_of_lt h⟩
theorem togN_mem {a b : Rl} {n : Int} : n ∈ togN a b ↔ n ∈ a.c ∨ n ∈ b.c := by
  rw [togN, (srtI_perm _).mem_iff, List.mem_append, List.mem_filter]
  constructor
  · rintro (h | ⟨h, _⟩)
    · exact .inl h
    · exact .inr h
  · rintro (h | h)
    · exact .inl h
    · by_cases hn : n ∈ a.c
      · exact .inl hn
      · exact .inr ⟨h, by simp [hn]⟩
theorem togN_ris {a b : Rl} (ha : goodRl a = true) (hb : goodRl b = true) : (togN a b).Pairwise (· < ·) := by
  refine sorted_nodup (srtI_le _) ((srtI_perm _).nodup_iff.2 ?_)
  refine List.nodup_append.2 ⟨(good_ris ha).2, (good_ris hb).2.filter _, fun x hx y hy e => ?_⟩
  subst e
  have := (List.mem_filter.1 hy).2
  simp [hx] at this
theorem togN_len {a b : Rl} (ha : goodRl a = true) (hb : goodRl b = true) : (togN a b).length ≤ 12 := by
  have h1 := (goodRl_facts ha).1
  have h2 := (goodRl_facts hb).1
  have := List.length_filter_le (fun n => !decide (n ∈ a.c)) b.c
  rw [togN, srtI_length, List.length_append]; omega
theorem togN_eq {a b : Rl} (ha : goodRl a = true) (hb : goodRl b = true) {ys : List Int} (h1 : ys.Pairwise (· < ·)) (h2 : ∀ x, x ∈ ys ↔ x ∈ a.c ∨ x ∈ b.c) : ys = togN a b :=
  rising_ext h1 (togN_ris ha hb) fun x => by rw [h2, togN_mem]
theorem comN_in {a b : Rl} {n : Int} (h : n ∈ comN a b) : n ∈ a.c ∧ n ∈ b.c := by
  obtain ⟨h1, h2⟩ := List.mem_filter.1 h
  exact ⟨h1, by simpa using h2⟩
theorem comN_len (a b : Rl) : (comN a b).length ≤ a.c.length := List.length_filter_le ..
/-- one more in a list of lists, none written but one empty block -/
theorem Od.oneB {lo q : Nat} {g h : Heap} {v : V} {xs : List (List Int)} {F : List Nat} (o : Od lo h v xs F) (hb : ∀ b, vB v b → b = q ∨ g.length ≤ b) (hg : KeepsP (fun b => b ≠ q) g h) (hgl : g.length ≤ h.length) {z : V} {row : List Int} {G : List Nat} (hz : SdF h z row G) (hG : ∀ b ∈ G, ¬ vB v b) (hl : xs.length ≤ 2 ^ 20) :
    ∃ v' h' F', appH 1 24 v 1 [z] (h ++ [⟨.own, [z]⟩]) = some (v', h') ∧ Od lo h' v' (xs ++ [row]) F' ∧ (∀ b, vB v' b → b = q ∨ g.length ≤ b) ∧ KeepsP (fun b => b ≠ q) g h' ∧ h.length < h'.length := by
  have kl : Keeps h (h ++ [⟨.own, [z]⟩]) := Keeps.append _ _
  have o2 := o.keeps (kl.p fun _ => True) (fun _ _ => trivial) (fun _ _ => trivial) (by simp)
  obtain ⟨v', h', e, o3, k3, l3, b3⟩ := o2.app (zs := [row]) (ys := [z]) (G := G) (by simp) (.one ⟨z, rfl, hz.keep kl⟩) hG (bytes := 24) (by decide) (by simp; omega) (k := 1) (n := 1) rfl rfl
  refine ⟨v', h', _, e, o3, fun b hv => .inr ?_, fun b blk hq hh hst => ?_, by simp at l3; omega⟩
  · have := b3 b hv
    simp at this; omega
  · have := get_lt hh
    exact k3 b blk (fun hv => by rcases hb b hv with e | e <;> omega) (kl _ _ (hg b blk hq hh hst) hst) hst
end GL

namespace GL
open Go

theorem JoinTwo_ok {h : Heap} {x y z w : V} {a b : Rl} {F1 F2 F3 F4 : List Nat} (hx : SdF h x a.c F1) (hy : SdF h y a.rows F2) (hz : SdF h z b.c F3) (hw : SdF h w b.rows F4) : ∃ o h', call p 736 [.agg [x, y], .agg [z, w]] h = some (o, h') ∧ RelR h' o (joinB a b) (joinL a b) ∧ Keeps h h' ∧ h.length ≤ h'.length := by
  have q1 := GoodRelation_eq (v := .agg [x, y]) ⟨x, y, F1, F2, rfl, hx, hy⟩
  have q2 := GoodRelation_eq (v := .agg [z, w]) ⟨z, w, F3, F4, rfl, hz, hw⟩
  have bad : ∀ h', joinB a b = false → Keeps h h' → h.length ≤ h'.length → ∀ R : V → Heap → Prop, (∀ r1 h1, (RelR h1 r1 (joinB a b) (joinL a b) ∧ Keeps h h1 ∧ h.length ≤ h1.length) → R r1 h1) → R (.tup [.agg [.nils, .nils], .bool false]) h' := fun h' hb k1 l1 R hR => hR _ _ ⟨by rw [hb]; exact RelR.bad, k1, l1⟩
  refine go (fn := g736) rfl rfl fun R hR => ?_
  cases hga : goodRl a with
  | false =>
    rw [hga] at q1
    simp [g736, upd, hx.cells, hx.cell, hy.cells, hy.cell, hz.cells, hz.cell, hw.cells, hw.cell, q1, fillL, resV, mkV]
    exact bad _ (by rw [joinB, hga]; rfl) (Keeps.refl _) (Nat.le_refl _) R hR
  | true =>
    rw [hga] at q1
    cases hgb : goodRl b with
    | false =>
      rw [hgb] at q2
      simp [g736, upd, hx.cells, hx.cell, hy.cells, hy.cell, hz.cells, hz.cell, hw.cells, hw.cell, q1, q2, fillL, resV, mkV]
      exact bad _ (by rw [joinB, hgb, Bool.and_false]) (Keeps.refl _) (Nat.le_refl _) R hR
    | true =>
      rw [hgb] at q2
      have hB : joinB a b = true := by rw [joinB, hga, hgb]; rfl
      obtain ⟨ca, _, ra, rowa⟩ := goodRl_facts hga
      obtain ⟨cb, _, rb, rowb⟩ := goodRl_facts hgb
      have kd : Keeps h (h ++ [deadBlk]) := Keeps.append _ _
      obtain ⟨v6, h1, e1, G6, s6, f6, k1, l1⟩ := both_ok (hx.sl.keeps kd) (hz.sl.keeps kd) (by omega)
      rw [show (a.c.filter fun n => decide (n ∈ b.c)) = comN a b from rfl] at s6
      have hd1 := call_dead e1 (dead_first h)
      have kd1 := kd.trans k1
      obtain ⟨v7, h2, e2, N, G7, s7, f7, hris, hmem, k2, l2⟩ := together_ok (hx.keep kd1) (hz.keep kd1) (by omega)
      have hN := togN_eq hga hgb hris hmem
      subst hN
      have hd2 := call_dead e2 hd1
      have ad0 : allDead (h ++ [deadBlk]) h.length (fun _ => false) [0] = true := by simp [allDead, dead_first]
      have ad1 : allDead h1 h.length (fun _ => false) [0] = true := by simp [allDead, hd1]
      have ad2 : allDead h2 h.length (fun _ => false) [0] = true := by simp [allDead, hd2]
      simp only [List.length_append, List.length_cons, List.length_nil] at l1
      have lt2 : h.length < h2.length := by omega
      generalize hZ : h2.set h.length ⟨.own, []⟩ = g at *
      have kz : Keeps h2 g := by rw [← hZ]; exact dead_keeps hd2 _
      have gl : g.length = h2.length := by rw [← hZ]; simp
      have kg : Keeps h g := (kd1.trans k2).trans kz
      have n6 : ∀ b ∈ G6, b ≠ h.length := fun b hb e => by
        have := f6.ge b hb
        simp at this; omega
      have n7 : ∀ b ∈ G7, b ≠ h.length := fun b hb e => by
        have := f7.ge b hb
        omega
      have sg6 := (s6.keep k2).keep kz
      have sg7 := s7.keep kz
      have nlen := togN_len hga hgb
      have clen := comN_len a b
      simp [g736, upd, hx.cells, hx.cell, hy.cells, hy.cell, hz.cells, hz.cell, hw.cells, hw.cell, q1, q2, fillL, begin_one, xop_m, ad0, e1, ad1, e2, ad2, hd2, hZ, hy.len]
      refine Wc_upM (M := [8, 10, 12, 13, 15, 16, 40, 41, 42, 43, 44, 45, 46, 47, 48, 49, 50, 51, 52, 53, 54, 55, 56, 57, 58, 59, 60, 61, 62, 63, 64, 65, 66, 67, 68, 69, 70, 71, 72, 73, 74, 75, 76, 77, 78, 79, 80, 81, 82, 83, 84, 85, 86, 87, 88, 89, 90, 91, 92, 93, 94, 95, 96, 97, 98, 99]) rfl a.rows.length
        (fun i s => i ≤ a.rows.length ∧ s.σ 40 = .v (vi i) ∧ s.L 2 = (1, [x, y]) ∧ s.L 3 = (1, [z, w]) ∧ s.L 4 = (1, [.nils, .nils]) ∧ KeepsP (fun b => b ≠ h.length) g s.h ∧ g.length ≤ s.h.length ∧ ∃ v8 F, s.σ 8 = .v v8 ∧ Od h.length s.h v8 (joinR a b (a.rows.take i)) F ∧ ∀ b, vB v8 b → b = h.length ∨ g.length ≤ b) 0
        ⟨by omega, by simp, by simp [upd], by simp [upd], by simp [upd], KeepsP.refl _ _, Nat.le_refl _, .slice h.length 0 0 (.k 0), [], by simp, by simpa [joinR] using Od.empty (Nat.le_refl _) (by omega), fun b ⟨_, _, _, e⟩ => by cases e; exact .inl rfl⟩
        fun i s ⟨gi, g40, gL2, gL3, gL4, hk, hl0, v8, F, g8, o8, b8⟩ hM J hJ => ?_
      have kk : Keeps h s.h := fun b blk hb hst => hk b blk (by have := get_lt hb; omega) (kg b blk hb hst) hst
      by_cases hi : i < a.rows.length
      · have hy' := hy.keep kk
        obtain ⟨vt, Ft, et0, ht0, _⟩ := hy.loadL i hi
        have et := rdH_keep kk et0
        have ix := hy'.idx 1 .i64 i hi
        simp only [Nat.mul_one] at ix
        have st := hy'.step hi
        have tl := rowa i hi
        have kk0 := kk
        have jt := joinR_take a b hi
        have jl := joinR_len a b (a.rows.take i)
        rw [List.length_take] at jl
        have jl2 : min i a.rows.length * b.rows.length ≤ 60 * 60 := Nat.mul_le_mul (by omega) rb
        generalize a.rows[i] = t at *
        simp [g736_2, hM, g40, gL2, gL3, upd, hi, ix, et, (hw.keep kk).len]
        refine Wc_upM (M := [8, 12, 13, 15, 16, 47, 48, 49, 50, 51, 52, 53, 54, 55, 56, 57, 58, 59, 60, 61, 62, 63, 64, 65, 66, 67, 68, 69, 70, 71, 72, 73, 74, 75, 76, 77, 78, 79, 80, 81, 82, 83, 84, 85, 86, 87, 88, 89, 90, 91, 92, 93, 94, 95, 96, 97, 98]) rfl b.rows.length
          (fun j s2 => j ≤ b.rows.length ∧ s2.σ 47 = .v (vi j) ∧ s2.L 2 = (1, [x, y]) ∧ s2.L 3 = (1, [z, w]) ∧ s2.L 4 = (1, [.nils, .nils]) ∧ KeepsP (fun b => b ≠ h.length) g s2.h ∧ g.length ≤ s2.h.length ∧ ∃ v8 F, s2.σ 8 = .v v8 ∧ Od h.length s2.h v8 (joinR a b (a.rows.take i) ++ joinO a b t (b.rows.take j)) F ∧ ∀ b, vB v8 b → b = h.length ∨ g.length ≤ b) 0
          ⟨by omega, by simp, by simp [gL2], by simp [gL3], by simp [gL4], hk, hl0, v8, F, by simp [g8], by simpa [joinO] using o8, b8⟩
          fun j s2 ⟨gj, g47, hL2, hL3, hL4, hk, hl0, v8, F, g8, o8, b8⟩ hM2 J2 hJ2 => ?_
        have kk : Keeps h s2.h := fun b blk hb hst => hk b blk (by have := get_lt hb; omega) (kg b blk hb hst) hst
        by_cases hj : j < b.rows.length
        · have hw' := hw.keep kk
          obtain ⟨vu, Fu, eu0, hu0, _⟩ := hw.loadL j hj
          have eu := rdH_keep kk eu0
          have iy := hw'.idx 1 .i64 j hj
          simp only [Nat.mul_one] at iy
          have st2 := hw'.step hj
          have ul := rowb j hj
          have jt2 := joinO_take a b t hj
          have jl3 := joinO_len a b t (b.rows.take j)
          rw [List.length_take] at jl3
          generalize b.rows[j] = u at *
          have sk6 := sg6.keeps (hk.mono n6)
          have sk7 := sg7.keeps (hk.mono n7)
          have ht := ht0.keep kk
          have hu := hu0.keep kk
          obtain ⟨p1, h3, e3, o3, k3, l3⟩ := under_ok (hx.keep kk).sl ht.sl sk6.sl tl (fun n hn => (comN_in hn).1) (by omega) (by omega)
          obtain ⟨p2, h4, e4, o4, k4, l4⟩ := under_ok ((hz.keep kk).keep k3).sl (hu.keep k3).sl (sk6.keep k3).sl ul (fun n hn => (comN_in hn).2) (by omega) (by omega)
          have e5 := Equal_eq (o3.sl.keeps k4) o4.sl
          have k34 := k3.trans k4
          have hk4 : KeepsP (fun b => b ≠ h.length) g h4 := fun b blk hb hh hst => k34 _ _ (hk b blk hb hh hst) hst
          have o84 := o8.keeps (k34.p fun _ => True) (fun _ _ => trivial) (fun _ _ => trivial) (by omega)
          cases hq : joinQ a b t u with
          | false =>
            rw [hq, if_neg (by simp), List.append_nil] at jt2
            rw [show decide (pickL a.c t (comN a b) = pickL b.c u (comN a b)) = false from hq] at e5
            simp [g736_1, hM, hM2, g47, g8, hL2, hL3, hj, iy, eu, upd, e3, e4, e5, st2]
            exact hJ2 _ hj ⟨hj, by simp, by simp [hL2], by simp [hL3], by simp [hL4], hk4, by show g.length ≤ h4.length; omega, v8, F, by simp [g8], by rw [jt2]; exact o84, b8⟩
          | true =>
            rw [hq, if_pos rfl] at jt2
            rw [show decide (pickL a.c t (comN a b) = pickL b.c u (comN a b)) = true from hq] at e5
            have kn : Keeps h4 (h4 ++ [⟨.own, []⟩]) := Keeps.append _ _
            have kk4 := kk.trans k34
            have sk74 := sk7.keep k34
            simp [g736_1, hM, hM2, g47, g8, hL2, hL3, hj, iy, eu, upd, e3, e4, e5, sk74.len]
            refine Wc_upM (M := [13, 15, 16, 66, 67, 68, 69, 70, 71, 72, 73, 74, 75, 76, 77, 78, 79, 80, 81, 82, 83, 84, 85, 86, 87, 88, 89, 90, 91, 92, 93]) rfl (togN a b).length
              (fun m s3 => m ≤ (togN a b).length ∧ s3.σ 66 = .v (vi m) ∧ s3.L 2 = (1, [x, y]) ∧ s3.L 3 = (1, [z, w]) ∧ s3.L 4 = (1, [.nils, .nils]) ∧ Keeps h4 s3.h ∧ h4.length ≤ s3.h.length ∧ ∃ v13, s3.σ 13 = .v v13 ∧ Out h4.length s3.h v13 (((togN a b).take m).map (joinAt a b t u))) 0
              ⟨by omega, by simp, by simp [hL2], by simp [hL3], by simp [hL4], kn, by simp, .slice h4.length 0 0 (.k 0), by simp, by simpa using Out.empty (Nat.le_refl _) (by simp)⟩
              fun m s3 ⟨gm, g66, mL2, mL3, mL4, hk3, hl3, v13, g13, o13⟩ hM3 J3 hJ3 => ?_
            by_cases hm : m < (togN a b).length
            · have s73 := sk74.keep hk3
              have im := s73.idx 1 .i64 m hm
              have lm := s73.sl.loadI m hm
              have st3 := s73.step hm
              simp only [Nat.mul_one] at im
              have kk3 := kk4.trans hk3
              have ea := indexPl_eq (hx.keep kk3).sl (togN a b)[m]
              have eb := indexPl_eq (hz.keep kk3).sl (togN a b)[m]
              have hin := togN_mem.1 (List.getElem_mem hm)
              have hT : ((togN a b).take (m + 1)).map (joinAt a b t u) = ((togN a b).take m).map (joinAt a b t u) ++ [joinAt a b t u (togN a b)[m]] := by
                rw [List.take_succ_eq_append_getElem hm, List.map_append]; rfl
              have mlen : (((togN a b).take m).map (joinAt a b t u)).length ≤ 2 ^ 20 := by simp; omega
              generalize (togN a b)[m] = n at *
              by_cases hna : n ∈ a.c
              · obtain ⟨q, hq1, hq2⟩ := pos_in hna
                rw [hq1] at ea
                have hqt : q < t.length := by omega
                have it := ((ht0.keep kk3).idx 1 .i64 q hqt)
                have lt := ((ht0.keep kk3).sl.loadI q hqt)
                simp only [Nat.mul_one] at it
                have q0 : (0 : Int) ≤ q := by omega
                have hv : joinAt a b t u n = t[q] := by rw [joinAt, if_pos hna, hq1, Int.toNat_natCast, getD_in hqt]
                rw [hv] at hT
                obtain ⟨v', h5, e6, o6, k6, l6⟩ := o13.one t[q] mlen
                have kf := o13.far hk3 k6 (Nat.le_refl _)
                generalize t[q] = c at *
                simp [g736_0, hM, hM2, hM3, g66, g13, mL2, upd, hm, im, lm, ea, q0, it, lt, fillL, rdS_last, e6, st3]
                exact hJ3 _ hm ⟨hm, by simp, by simp [mL2], by simp [mL3], by simp [mL4], kf, by show h4.length ≤ h5.length; omega, v', by simp, by rw [hT]; exact o6⟩
              · have hnb : n ∈ b.c := hin.resolve_left hna
                have hp := place_neg.2 hna
                have hp0 : ¬ 0 ≤ placeL a.c n := by omega
                obtain ⟨q, hq1, hq2⟩ := pos_in hnb
                rw [hq1] at eb
                have hqu : q < u.length := by omega
                have it := ((hu0.keep kk3).idx 1 .i64 q hqu)
                have lt := ((hu0.keep kk3).sl.loadI q hqu)
                simp only [Nat.mul_one] at it
                have hv : joinAt a b t u n = u[q] := by rw [joinAt, if_neg hna, hq1, Int.toNat_natCast, getD_in hqu]
                rw [hv] at hT
                obtain ⟨v', h5, e6, o6, k6, l6⟩ := o13.one u[q] mlen
                have kf := o13.far hk3 k6 (Nat.le_refl _)
                generalize u[q] = c at *
                simp [g736_0, hM, hM2, hM3, g66, g13, mL2, mL3, upd, hm, im, lm, ea, eb, hp0, it, lt, fillL, rdS_last, e6, st3]
                exact hJ3 _ hm ⟨hm, by simp, by simp [mL2], by simp [mL3], by simp [mL4], kf, by show h4.length ≤ h5.length; omega, v', by simp, by rw [hT]; exact o6⟩
            · have : m = (togN a b).length := by omega
              subst this
              rw [List.take_length, show (togN a b).map (joinAt a b t u) = joinT a b t u from rfl] at o13
              obtain ⟨G13, s13, f13⟩ := o13.fr
              have o85 := o84.keeps (hk3.p fun _ => True) (fun _ _ => trivial) (fun _ _ => trivial) hl3
              have hk5 : KeepsP (fun b => b ≠ h.length) g s3.h := fun b blk hb hh hst => hk3 _ _ (hk4 b blk hb hh hst) hst
              obtain ⟨v9, h9, F9, e9, o9, b9, k9, l9⟩ := o85.oneB b8 hk5 (by omega) s13 (fun c hc hvb => by
                have q3 := f13.ge c hc
                have q4 := (o8.ge hvb).2
                omega) (by simp; omega)
              rw [List.append_assoc, ← jt2] at o9
              simp [g736_0, hM, hM2, hM3, g66, g13, g8, g47, s13.cells, s13.cell, fillL, rdS_last, e9, st2]
              exact hJ2 _ hj ⟨hj, by simp, by simp [mL2], by simp [mL3], by simp [mL4], k9, by show g.length ≤ h9.length; omega, v9, F9, by simp, o9, b9⟩
        · have : j = b.rows.length := by omega
          subst this
          rw [List.take_length, ← jt] at o8
          simp [g736_1, hM, hM2, g47, g8, g40, st]
          exact hJ _ hi ⟨hi, by simp, by simp [hL2], by simp [hL3], by simp [hL4], hk, hl0, v8, F, by simp [g8], o8, b8⟩
      · have : i = a.rows.length := by omega
        subst this
        rw [List.take_length] at o8
        obtain ⟨F8, s8, _⟩ := o8.sd
        have jl := joinR_len a b a.rows
        have jl2 : a.rows.length * b.rows.length ≤ 60 * 60 := Nat.mul_le_mul ra rb
        obtain ⟨_, h9, e9, a9, b9, Fa, Fb, rfl, sa, sb, k9, l9⟩ := related_ok (sg7.keeps (hk.mono n7)).sl s8 (joinR_LenN a b a.rows) (by omega) (by omega)
        simp [g736_2, hM, g40, g8, gL4, e9, upd, sa.cells, sa.cell, sb.cells, sb.cell, fillL, resV, mkV]
        exact hR _ _ ⟨⟨a9, b9, Fa, Fb, by rw [hB]; rfl, by rw [hB]; exact sa, by rw [hB]; exact sb⟩, kk.trans k9, by omega⟩
end GL

namespace GL
open Go

theorem Out.oneB {lo : Nat} {h : Heap} {v : V} {xs : List Int} (ho : Out lo h v xs) (x : Int) (hx : xs.length ≤ 2 ^ 20) :
    ∃ v' h', appH 1 8 v 1 [vi x] (h ++ [⟨.own, [vi x]⟩]) = some (v', h') ∧ Out lo h' v' (xs ++ [x]) ∧ KeepsP (fun i => ¬ vB v i) h h' ∧ h.length < h'.length ∧ ∀ i, vB v' i → h.length ≤ i := by
  have o3 : Out lo (h ++ [⟨.own, [vi x]⟩]) v xs := (Keeps.append h _).out ho (by simp)
  obtain ⟨v', h', e4, o4, k4, l4, b4⟩ := o3.app [x] (by simp) (bytes := 8) (by decide) (by simp; omega) (k := 1) rfl (n := 1) rfl (ys := [vi x]) rfl
  exact ⟨v', h', e4, o4, fun i blk hi h1 h2 => k4 i blk hi (Keeps.append h _ i blk h1 h2) h2, by simp at l4; omega, fun i hv => by have := b4 i hv; simp at this; omega⟩
theorem comN_eq {a b : Rl} (ha : goodRl a = true) (hb : goodRl b = true) : (b.c.filter fun n => decide (n ∈ a.c)) = comN a b :=
  rising_ext ((good_ris hb).1.filter _) ((good_ris ha).1.filter _) fun x => by
    rw [List.mem_filter, comN, List.mem_filter]
    simp only [decide_eq_true_eq]
    exact And.comm
theorem addAll_one (xs : List (List Int)) (t : List Int) : addAll (xs ++ [t]) = addRow (addAll xs) t := by
  rw [addAll, List.foldl_append]; rfl
theorem tell_again {n : Nat} (c : List Int) {rows : List (List Int)} (h : LenN n rows) : tellR c (addAll rows) = tellR c rows := by
  obtain ⟨q1, q2, _⟩ := addAll_facts h
  rw [tellR, addAll_self q2 q1]; rfl

theorem JoinTwoS_ok {h : Heap} {x y z w : V} {a b : Rl} {F1 F2 F3 F4 : List Nat} (hx : SdF h x a.c F1) (hy : SdF h y a.rows F2) (hz : SdF h z b.c F3) (hw : SdF h w b.rows F4) (hn : a.rows.length * b.rows.length ≤ 2 ^ 10) : ∃ o h', call p 737 [.agg [x, y], .agg [z, w]] h = some (o, h') ∧ RelR h' o (joinB a b) (joinL a b) ∧ Keeps h h' ∧ h.length ≤ h'.length := by
  have q1 := GoodRelationS_eq (v := .agg [x, y]) ⟨x, y, F1, F2, rfl, hx, hy⟩
  have q2 := GoodRelationS_eq (v := .agg [z, w]) ⟨z, w, F3, F4, rfl, hz, hw⟩
  have bad : ∀ h', joinB a b = false → Keeps h h' → h.length ≤ h'.length → ∀ R : V → Heap → Prop, (∀ r1 h1, (RelR h1 r1 (joinB a b) (joinL a b) ∧ Keeps h h1 ∧ h.length ≤ h1.length) → R r1 h1) → R (.tup [.agg [.nils, .nils], .bool false]) h' := fun h' hb k1 l1 R hR => hR _ _ ⟨by rw [hb]; exact RelR.bad, k1, l1⟩
  refine go (fn := g737) rfl rfl fun R hR => ?_
  cases hga : goodRl a with
  | false =>
    rw [hga] at q1
    simp [g737, upd, hx.cells, hx.cell, hy.cells, hy.cell, hz.cells, hz.cell, hw.cells, hw.cell, q1, fillL, resV, mkV]
    exact bad _ (by rw [joinB, hga]; rfl) (Keeps.refl _) (Nat.le_refl _) R hR
  | true =>
    rw [hga] at q1
    cases hgb : goodRl b with
    | false =>
      rw [hgb] at q2
      simp [g737, upd, hx.cells, hx.cell, hy.cells, hy.cell, hz.cells, hz.cell, hw.cells, hw.cell, q1, q2, fillL, resV, mkV]
      exact bad _ (by rw [joinB, hgb, Bool.and_false]) (Keeps.refl _) (Nat.le_refl _) R hR
    | true =>
      rw [hgb] at q2
      have hB : joinB a b = true := by rw [joinB, hga, hgb]; rfl
      obtain ⟨ca, _, ra, rowa⟩ := goodRl_facts hga
      obtain ⟨cb, _, rb, rowb⟩ := goodRl_facts hgb
      obtain ⟨er, v6, h1, e1, G6, s6, f6, k1, l1⟩ := appNew hx.sl (by omega : a.c.length ≤ 2 ^ 20) (k := 1) (bytes := 8) rfl (by decide)
      simp [g737, upd, hx.cells, hx.cell, hy.cells, hy.cell, hz.cells, hz.cell, hw.cells, hw.cell, q1, q2, fillL, hx.len, er, e1, hz.len]
      refine Wc_upM (M := [6, 7, 9, 35, 36, 37, 38, 39, 40, 41, 42, 43, 44, 45, 46, 47, 48, 49, 50, 51]) rfl b.c.length
        (fun i s => i ≤ b.c.length ∧ s.σ 35 = .v (vi i) ∧ s.L 2 = (1, [x, y]) ∧ s.L 3 = (1, [z, w]) ∧ s.L 4 = (1, [.nils, .nils]) ∧ Keeps h s.h ∧ h.length ≤ s.h.length ∧
          ∃ v6 v7 ys G6, s.σ 6 = .v v6 ∧ s.σ 7 = .v v7 ∧ SdF s.h v6 ys G6 ∧ ys.Pairwise (· < ·) ∧ (∀ x, x ∈ ys ↔ x ∈ a.c ∨ x ∈ b.c.take i) ∧ ys.length ≤ a.c.length + i ∧ (∀ b ∈ G6, ¬ vB v7 b) ∧ Out h.length s.h v7 ((b.c.take i).filter fun n => decide (n ∈ a.c))) 0
        ⟨by omega, by simp, by simp [upd], by simp [upd], by simp [upd], k1, l1, v6, .nils, a.c, G6, by simp, by simp, s6, (good_ris hga).1, by simp, by omega, fun b _ ⟨_, _, _, e⟩ => (by cases e), by simpa using Out.nil l1⟩
        fun i s ⟨gi, g35, gL2, gL3, gL4, hk, hl0, v6, v7, ys, G6, g6, g7, s6, hris, hmem, hlen, hG, o7⟩ hM J hJ => ?_
      by_cases hi : i < b.c.length
      · have hz' := hz.keep hk
        have ix := hz'.idx 1 .i64 i hi
        have ld := hz'.sl.loadI i hi
        have st := hz'.step hi
        simp only [Nat.mul_one] at ix
        have ea := l3At_eq (hx.keep hk).sl b.c[i]
        have hT : (b.c.take (i + 1)).filter (fun n => decide (n ∈ a.c)) = (b.c.take i).filter (fun n => decide (n ∈ a.c)) ++ if b.c[i] ∈ a.c then [b.c[i]] else [] := by
          rw [List.take_succ_eq_append_getElem hi, List.filter_append]
          congr 1
          by_cases hc : b.c[i] ∈ a.c <;> simp [hc]
        have hm1 : ∀ x, x ∈ b.c.take (i + 1) ↔ x ∈ b.c.take i ∨ x = b.c[i] := fun x => by rw [List.take_succ_eq_append_getElem hi, List.mem_append, List.mem_singleton]
        have fl : ((b.c.take i).filter fun n => decide (n ∈ a.c)).length ≤ 2 ^ 20 := by
          have := List.length_filter_le (fun n => decide (n ∈ a.c)) (b.c.take i)
          rw [List.length_take] at this; omega
        generalize b.c[i] = n at *
        by_cases hc : n ∈ a.c
        · rw [if_pos hc] at hT
          have hp : 0 ≤ placeL a.c n := (place_in hc).1
          obtain ⟨v7', h2, e2, o2, k2, l2, b2⟩ := o7.oneB n fl
          have kf := o7.far hk k2 (Nat.le_refl _)
          have s62 := s6.keeps (k2.mono hG)
          obtain ⟨v6', h3, e3, ys', G3, s3, r3, m3, n3, g3, k3, l3⟩ := l1Put_ok s62 hris (by omega) n
          simp [g737_0, hM, g35, g6, g7, gL2, upd, hi, ix, ld, ea, hp, fillL, rdS_last, e2, e3, st]
          exact hJ _ hi ⟨hi, by simp, by simp [gL2], by simp [gL3], by simp [gL4], kf.trans k3, by show h.length ≤ h3.length; omega, v6', v7', ys', G3, by simp, by simp, s3, r3, fun x => by rw [m3, hmem, hm1, or_assoc], by omega, fun c hc hv => by
            have q3 := o2.ge hv
            rcases g3 c hc with h4 | h4
            · have q4 := b2 c hv
              have q5 := s6.ltF h4
              omega
            · omega, by rw [hT]; exact (k3.out o2 l3)⟩
        · rw [if_neg hc, List.append_nil] at hT
          have hp0 := place_neg.2 hc
          have hp : ¬ 0 ≤ placeL a.c n := by omega
          obtain ⟨v6', h3, e3, ys', G3, s3, r3, m3, n3, g3, k3, l3⟩ := l1Put_ok s6 hris (by omega) n
          simp [g737_0, hM, g35, g6, g7, gL2, upd, hi, ix, ld, ea, hp, e3, st]
          exact hJ _ hi ⟨hi, by simp, by simp [gL2], by simp [gL3], by simp [gL4], hk.trans k3, by show h.length ≤ h3.length; omega, v6', v7, ys', G3, by simp, by simp [g7], s3, r3, fun x => by rw [m3, hmem, hm1, or_assoc], by omega, fun c hc hv => by
            have q3 := o7.ge hv
            rcases g3 c hc with h4 | h4
            · exact hG c h4 hv
            · omega, by rw [hT]; exact (k3.out o7 l3)⟩
      · have : i = b.c.length := by omega
        subst this
        rw [List.take_length] at o7 hmem
        rw [comN_eq hga hgb] at o7
        have hN := togN_eq hga hgb hris hmem
        subst hN
        have sg7 := s6
        have sg6 := o7.sl
        have nlen := togN_len hga hgb
        have clen := comN_len a b
        have kg := hk
        have hg0 := hl0
        generalize hgg : s.h = g at *
        simp [g737_0, hM, g35, gL2, gL3, g6, g7, upd, (hy.keep kg).len, hgg]
        refine Wc_upM (M := [10, 12, 14, 15, 17, 18, 55, 56, 57, 58, 59, 60, 61, 62, 63, 64, 65, 66, 67, 68, 69, 70, 71, 72, 73, 74, 75, 76, 77, 78, 79, 80, 81, 82, 83, 84, 85, 86, 87, 88, 89, 90, 91, 92, 93, 94, 95, 96, 97, 98, 99, 100, 101, 102, 103, 104, 105, 106, 107, 108, 109, 110, 111, 112]) rfl a.rows.length
          (fun i s => i ≤ a.rows.length ∧ s.σ 55 = .v (vi i) ∧ s.L 2 = (1, [x, y]) ∧ s.L 3 = (1, [z, w]) ∧ s.L 4 = (1, [.nils, .nils]) ∧ Keeps g s.h ∧ g.length ≤ s.h.length ∧ ∃ v8 F, s.σ 10 = .v v8 ∧ Od g.length s.h v8 (addAll (joinR a b (a.rows.take i))) F) 0
          ⟨by omega, by simp, by simp [gL2], by simp [gL3], by simp [gL4], Keeps.refl _, Nat.le_refl _, .nils, [], by simp, by simpa [joinR, addAll] using Od.nil (Nat.le_refl _)⟩
          fun i s ⟨gi, g40, gL2, gL3, gL4, hk, hl0, v8, F, g8, o8⟩ hM1 J hJ => ?_
        have kk : Keeps h s.h := kg.trans hk
        by_cases hi : i < a.rows.length
        · have hy' := hy.keep kk
          obtain ⟨vt, Ft, et0, ht0, _⟩ := hy.loadL i hi
          have et := rdH_keep kk et0
          have ix := hy'.idx 1 .i64 i hi
          simp only [Nat.mul_one] at ix
          have st := hy'.step hi
          have tl := rowa i hi
          have jt := joinR_take a b hi
          have jl := joinR_len a b (a.rows.take i)
          rw [List.length_take] at jl
          have jl2 : (min i a.rows.length + 1) * b.rows.length ≤ a.rows.length * b.rows.length := Nat.mul_le_mul (by omega) (Nat.le_refl _)
          rw [Nat.succ_mul] at jl2
          generalize a.rows[i] = t at *
          simp [g737_3, hM, hM1, g40, gL2, gL3, upd, hi, ix, et, (hw.keep kk).len]
          refine Wc_upM (M := [10, 14, 15, 17, 18, 62, 63, 64, 65, 66, 67, 68, 69, 70, 71, 72, 73, 74, 75, 76, 77, 78, 79, 80, 81, 82, 83, 84, 85, 86, 87, 88, 89, 90, 91, 92, 93, 94, 95, 96, 97, 98, 99, 100, 101, 102, 103, 104, 105, 106, 107, 108, 109, 110, 111]) rfl b.rows.length
            (fun j s2 => j ≤ b.rows.length ∧ s2.σ 62 = .v (vi j) ∧ s2.L 2 = (1, [x, y]) ∧ s2.L 3 = (1, [z, w]) ∧ s2.L 4 = (1, [.nils, .nils]) ∧ Keeps g s2.h ∧ g.length ≤ s2.h.length ∧ ∃ v8 F, s2.σ 10 = .v v8 ∧ Od g.length s2.h v8 (addAll (joinR a b (a.rows.take i) ++ joinO a b t (b.rows.take j))) F) 0
            ⟨by omega, by simp, by simp [gL2], by simp [gL3], by simp [gL4], hk, hl0, v8, F, by simp [g8], by simpa [joinO] using o8⟩
            fun j s2 ⟨gj, g47, hL2, hL3, hL4, hk, hl0, v8, F, g8, o8⟩ hM2 J2 hJ2 => ?_
          have kk : Keeps h s2.h := kg.trans hk
          by_cases hj : j < b.rows.length
          · have hw' := hw.keep kk
            obtain ⟨vu, Fu, eu0, hu0, _⟩ := hw.loadL j hj
            have eu := rdH_keep kk eu0
            have iy := hw'.idx 1 .i64 j hj
            simp only [Nat.mul_one] at iy
            have st2 := hw'.step hj
            have ul := rowb j hj
            have jt2 := joinO_take a b t hj
            have jl3 := joinO_len a b t (b.rows.take j)
            rw [List.length_take] at jl3
            generalize b.rows[j] = u at *
            have sk6 := sg6.keeps hk
            have sk7 := sg7.keep hk
            have ht := ht0.keep kk
            have hu := hu0.keep kk
            obtain ⟨p1, h3, e3, o3, k3, l3⟩ := l3Pick_ok (hx.keep kk).sl ht.sl sk6 tl (fun n hn => (comN_in hn).1) (by omega) (by omega)
            obtain ⟨p2, h4, e4, o4, k4, l4⟩ := l3Pick_ok ((hz.keep kk).keep k3).sl (hu.keep k3).sl (sk6.keeps k3) ul (fun n hn => (comN_in hn).2) (by omega) (by omega)
            have e5 := l1Same_eq (o3.sl.keeps k4) o4.sl
            have k34 := k3.trans k4
            have hk4 := hk.trans k34
            have o84 := o8.keeps (k34.p fun _ => True) (fun _ _ => trivial) (fun _ _ => trivial) (by omega)
            cases hq : joinQ a b t u with
            | false =>
              rw [hq, if_neg (by simp), List.append_nil] at jt2
              rw [show decide (pickL a.c t (comN a b) = pickL b.c u (comN a b)) = false from hq] at e5
              simp [g737_2, hM, hM1, hM2, g47, g8, g7, hL2, hL3, hj, iy, eu, upd, e3, e4, e5, st2]
              exact hJ2 _ hj ⟨hj, by simp, by simp [hL2], by simp [hL3], by simp [hL4], hk4, by show g.length ≤ h4.length; omega, v8, F, by simp [g8], by rw [jt2]; exact o84⟩
            | true =>
              rw [hq, if_pos rfl] at jt2
              rw [show decide (pickL a.c t (comN a b) = pickL b.c u (comN a b)) = true from hq] at e5
              have kk4 := kk.trans k34
              have sk74 := sk7.keep k34
              simp [g737_2, hM, hM1, hM2, g47, g8, g6, g7, hL2, hL3, hj, iy, eu, upd, e3, e4, e5, sk74.len]
              refine Wc_upM (M := [15, 17, 18, 80, 81, 82, 83, 84, 85, 86, 87, 88, 89, 90, 91, 92, 93, 94, 95, 96, 97, 98, 99, 100, 101, 102, 103, 104, 105, 106, 107]) rfl (togN a b).length
                (fun m s3 => m ≤ (togN a b).length ∧ s3.σ 80 = .v (vi m) ∧ s3.L 2 = (1, [x, y]) ∧ s3.L 3 = (1, [z, w]) ∧ s3.L 4 = (1, [.nils, .nils]) ∧ Keeps h4 s3.h ∧ h4.length ≤ s3.h.length ∧ ∃ v13, s3.σ 15 = .v v13 ∧ Out h4.length s3.h v13 (((togN a b).take m).map (joinAt a b t u))) 0
                ⟨by omega, by simp, by simp [hL2], by simp [hL3], by simp [hL4], Keeps.refl _, Nat.le_refl _, .nils, by simp, by simpa using Out.nil (Nat.le_refl _)⟩
                fun m s3 ⟨gm, g66, mL2, mL3, mL4, hk3, hl3, v13, g13, o13⟩ hM3 J3 hJ3 => ?_
              by_cases hm : m < (togN a b).length
              · have s73 := sk74.keep hk3
                have im := s73.idx 1 .i64 m hm
                have lm := s73.sl.loadI m hm
                have st3 := s73.step hm
                simp only [Nat.mul_one] at im
                have kk3 := kk4.trans hk3
                have ea := l3At_eq (hx.keep kk3).sl (togN a b)[m]
                have eb := l3At_eq (hz.keep kk3).sl (togN a b)[m]
                have hin := togN_mem.1 (List.getElem_mem hm)
                have hT : ((togN a b).take (m + 1)).map (joinAt a b t u) = ((togN a b).take m).map (joinAt a b t u) ++ [joinAt a b t u (togN a b)[m]] := by
                  rw [List.take_succ_eq_append_getElem hm, List.map_append]; rfl
                have mlen : (((togN a b).take m).map (joinAt a b t u)).length ≤ 2 ^ 20 := by simp; omega
                generalize (togN a b)[m] = n at *
                by_cases hna : n ∈ a.c
                · obtain ⟨q, hq1, hq2⟩ := pos_in hna
                  rw [hq1] at ea
                  have hqt : q < t.length := by omega
                  have it := ((ht0.keep kk3).idx 1 .i64 q hqt)
                  have lt := ((ht0.keep kk3).sl.loadI q hqt)
                  simp only [Nat.mul_one] at it
                  have q0 : (0 : Int) ≤ q := by omega
                  have hv : joinAt a b t u n = t[q] := by rw [joinAt, if_pos hna, hq1, Int.toNat_natCast, getD_in hqt]
                  rw [hv] at hT
                  obtain ⟨v', h5, e6, o6, k6, l6⟩ := o13.one t[q] mlen
                  have kf := o13.far hk3 k6 (Nat.le_refl _)
                  generalize t[q] = c at *
                  simp [g737_1, hM, hM1, hM2, hM3, g66, g13, mL2, upd, hm, im, lm, ea, q0, it, lt, fillL, rdS_last, e6, st3]
                  exact hJ3 _ hm ⟨hm, by simp, by simp [mL2], by simp [mL3], by simp [mL4], kf, by show h4.length ≤ h5.length; omega, v', by simp, by rw [hT]; exact o6⟩
                · have hnb : n ∈ b.c := hin.resolve_left hna
                  have hp := place_neg.2 hna
                  have hp0 : ¬ 0 ≤ placeL a.c n := by omega
                  obtain ⟨q, hq1, hq2⟩ := pos_in hnb
                  rw [hq1] at eb
                  have hqu : q < u.length := by omega
                  have it := ((hu0.keep kk3).idx 1 .i64 q hqu)
                  have lt := ((hu0.keep kk3).sl.loadI q hqu)
                  simp only [Nat.mul_one] at it
                  have hv : joinAt a b t u n = u[q] := by rw [joinAt, if_neg hna, hq1, Int.toNat_natCast, getD_in hqu]
                  rw [hv] at hT
                  obtain ⟨v', h5, e6, o6, k6, l6⟩ := o13.one u[q] mlen
                  have kf := o13.far hk3 k6 (Nat.le_refl _)
                  generalize u[q] = c at *
                  simp [g737_1, hM, hM1, hM2, hM3, g66, g13, mL2, mL3, upd, hm, im, lm, ea, eb, hp0, it, lt, fillL, rdS_last, e6, st3]
                  exact hJ3 _ hm ⟨hm, by simp, by simp [mL2], by simp [mL3], by simp [mL4], kf, by show h4.length ≤ h5.length; omega, v', by simp, by rw [hT]; exact o6⟩
              · have : m = (togN a b).length := by omega
                subst this
                rw [List.take_length, show (togN a b).map (joinAt a b t u) = joinT a b t u from rfl] at o13
                have o85 := o84.keeps (hk3.p fun _ => True) (fun _ _ => trivial) (fun _ _ => trivial) hl3
                obtain ⟨G8, s8, _⟩ := o85.sd
                have hall : LenN (togN a b).length (joinR a b (a.rows.take i) ++ joinO a b t (b.rows.take j)) := fun r hr => by
                  rcases List.mem_append.1 hr with hr | hr
                  · exact joinR_LenN a b _ r hr
                  · obtain ⟨u0, _, rfl⟩ := List.mem_map.1 hr; exact joinT_len ..
                have hal := addAll_le (joinR a b (a.rows.take i) ++ joinO a b t (b.rows.take j))
                rw [List.length_append] at hal
                have hT2 : addAll (joinR a b (a.rows.take i) ++ joinO a b t (b.rows.take (j + 1))) = addRow (addAll (joinR a b (a.rows.take i) ++ joinO a b t (b.rows.take j))) (joinT a b t u) := by rw [jt2, ← List.append_assoc, addAll_one]
                obtain ⟨v9, h9, e9, hr9, k9, l9⟩ := l3Add_ok s8 o13.sl (fun r hr => by rw [(addAll_facts hall).2.1 r hr, joinT_len]) (by omega) (by rw [joinT_len]; omega)
                obtain ⟨F9, o9⟩ : ∃ F9, Od g.length h9 v9 (addAll (joinR a b (a.rows.take i) ++ joinO a b t (b.rows.take (j + 1)))) F9 := by
                  rcases hr9 with ⟨rfl, rfl, q⟩ | ⟨F5, o5, _⟩
                  · rw [hT2, q]; exact ⟨F, o85⟩
                  · rw [hT2]; exact ⟨F5, o5.less (by omega)⟩
                simp [g737_1, hM, hM1, hM2, hM3, g66, g13, g8, g47, e9, st2]
                exact hJ2 _ hj ⟨hj, by simp, by simp [mL2], by simp [mL3], by simp [mL4], (hk4.trans hk3).trans k9, by show g.length ≤ h9.length; omega, v9, F9, by simp, o9⟩
          · have : j = b.rows.length := by omega
            subst this
            rw [List.take_length, ← jt] at o8
            simp [g737_2, hM, hM1, hM2, g47, g8, g40, st]
            exact hJ _ hi ⟨hi, by simp, by simp [hL2], by simp [hL3], by simp [hL4], hk, hl0, v8, F, by simp [g8], o8⟩
        · have : i = a.rows.length := by omega
          subst this
          rw [List.take_length] at o8
          obtain ⟨F8, s8, _⟩ := o8.sd
          have jl := joinR_len a b a.rows
          have hal := addAll_le (joinR a b a.rows)
          have hta := tell_again (togN a b) (joinR_LenN a b a.rows)
          obtain ⟨_, h9, e9, a9, b9, Fa, Fb, rfl, sa, _, sb, _, _, k9, l9⟩ := l3Tell_ok (sg7.keep hk).sl s8 (addAll_facts (joinR_LenN a b a.rows)).2.1 (by omega) (by omega)
          rw [hta] at e9 sa sb
          have hrw : addAll (addAll (joinR a b a.rows)) = addAll (joinR a b a.rows) := congrArg Rl.rows hta
          rw [hrw] at sb
          obtain ⟨Fb', sb', _⟩ := sb.sd
          simp [g737_3, hM, hM1, g40, g8, g6, gL4, e9, upd, sa.cells, sa.cell, sb'.cells, sb'.cell, fillL, resV, mkV]
          exact hR _ _ ⟨⟨a9, b9, Fa, Fb', by rw [hB]; rfl, by rw [hB]; exact sa, by rw [hB]; exact sb'⟩, kk.trans k9, by omega⟩
end GL

namespace GL
open Go

theorem Rl.eq_iff {a b : Rl} : a = b ↔ a.c = b.c ∧ a.rows = b.rows := by
  cases a; cases b; simp
instance : DecidableEq Rl := fun _ _ => decidable_of_iff _ Rl.eq_iff.symm
end GL

namespace GL
open Go

theorem pick_map {N xs : List Int} (f : Int → Int) (h : ∀ n ∈ xs, n ∈ N) : pickL N (N.map f) xs = xs.map f := by
  unfold pickL
  apply List.map_congr_left
  intro n hn
  obtain ⟨q, hq1, hq2⟩ := pos_in (h n hn)
  rw [hq1, Int.toNat_natCast, getD_mapF f hq2]
  have : placeL N n = (N.idxOf n : Int) := by rw [placeL, if_pos (h n hn)]
  have hq : q = N.idxOf n := by omega
  subst hq
  rw [List.getElem_idxOf]
theorem pick_all {c t : List Int} (hn : c.Nodup) (hl : t.length = c.length) : pickL c t c = t := by
  apply List.ext_getElem
  · rw [pickL_len, hl]
  · intro i h1 h2
    have hi : i < c.length := by omega
    simp only [pickL, List.getElem_map]
    rw [place_nodup hn hi, Int.toNat_natCast, getD_in h2]
theorem joinR_mem {a b : Rl} {ts : List (List Int)} {x : List Int} : x ∈ joinR a b ts ↔ ∃ t ∈ ts, ∃ u ∈ b.rows, pickL a.c t (comN a b) = pickL b.c u (comN a b) ∧ joinT a b t u = x := by
  simp only [joinR, joinO, joinQ, List.mem_flatMap, List.mem_map, List.mem_filter, decide_eq_true_eq, and_assoc]
end GL

namespace GL
open Go

end GL

