import Derived.ChangeArms
import Derived.IntWalk
import Derived.WideShapes
import Derived.Test.YtaaccpeacckdaaaGuFnKeysA
/- What the functions of the law do, on the machine. -/
set_option linter.unusedSimpArgs false
set_option linter.unusedVariables false
set_option linter.unnecessarySimpa false
namespace GL
open Go

theorem idx_take {xs : List Int} {n : Int} {i : Nat} (hn : i < xs.length) (he : xs[i] = n) (hall : n ∉ xs.take i) : placeL xs n = i := by
  have hm : n ∈ xs := by rw [← he]; simp
  have hix : xs.idxOf n = i := by
    have h1 : xs.take i ++ n :: xs.drop (i + 1) = xs := by rw [← he, ← List.drop_eq_getElem_cons hn, List.take_append_drop]
    have : xs.idxOf n = (xs.take i ++ n :: xs.drop (i + 1)).idxOf n := by rw [h1]
    rw [this, List.idxOf_append, if_neg hall]
    simp; omega
  rw [placeL, if_pos hm, hix]
theorem indexPl_eq {h : Heap} {v : V} {xs : List Int} (hs : Sl h v xs) (n : Int) : call p 390 [v, vi n] h = some (vi (placeL xs n), h) := by
  refine go_eq (fn := g390) rfl rfl fun R hR => ?_
  simp [g390, hs.len]
  refine Wc_upM (M := [4, 5, 8, 9, 10, 11, 12, 13, 14, 15, 16, 17, 18]) rfl xs.length (fun i s => s.σ 8 = .v (vi i) ∧ s.h = h ∧ n ∉ xs.take i) 0 (by simp) fun i s ⟨g8, gh, hall⟩ hM J hJ => ?_
  by_cases hn : i < xs.length
  · by_cases he : n = xs[i]
    · rw [idx_take hn he.symm hall] at hR
      simp [g390_0, hM, g8, gh, hn, hs.idx, hs.loadI, he]
      exact hR
    · simp [g390_0, hM, g8, gh, hn, hs.idx, hs.loadI, he, hs.step hn]
      exact hJ _ hn ⟨by simp, rfl, by rw [mem_take_succ hn]; rintro (h | h); exact hall h; exact he h⟩
  · rw [List.take_of_length_le (by omega)] at hall
    have : placeL xs n = -1 := by rw [placeL, if_neg hall]
    rw [this] at hR
    simp [g390_0, hM, g8, gh, hn]
    exact hR
theorem l3At_eq {h : Heap} {v : V} {xs : List Int} (hs : Sl h v xs) (n : Int) : call p 606 [v, vi n] h = some (vi (placeL xs n), h) := by
  refine go_eq (fn := g606) rfl rfl fun R hR => ?_
  simp [g606, hs.len]
  refine Wc_upM (M := [4, 5, 6, 9, 10, 11, 12, 13, 14, 15, 16, 17, 18]) rfl xs.length (fun i s => s.σ 9 = .v (vi i) ∧ s.h = h ∧ n ∉ xs.take i) 0 (by simp) fun i s ⟨g9, gh, hall⟩ hM J hJ => ?_
  by_cases hn : i < xs.length
  · by_cases he : xs[i] = n
    · rw [idx_take hn he hall] at hR
      simp [g606_0, hM, g9, gh, hn, hs.idx, hs.loadI, he]
      exact hR
    · simp [g606_0, hM, g9, gh, hn, hs.idx, hs.loadI, he, hs.step hn]
      exact hJ _ hn ⟨by simp, rfl, by rw [mem_take_succ hn]; rintro (h | h); exact hall h; exact he h.symm⟩
  · rw [List.take_of_length_le (by omega)] at hall
    have : placeL xs n = -1 := by rw [placeL, if_neg hall]
    rw [this] at hR
    simp [g606_0, hM, g9, gh, hn]
    exact hR

def agH (a b : List Int) (p : Int) : Prop := p.tdiv 12 ∈ a ∧ p.tmod 12 ∈ a ∧ p.tdiv 12 ∈ b ∧ p.tmod 12 ∈ b
instance (a b : List Int) (p : Int) : Decidable (agH a b p) := by unfold agH; infer_instance
end GL

namespace GL
open Go

end GL

namespace GL
open Go

end GL

namespace GL
open Go

end GL

namespace GL
open Go

end GL

namespace GL
open Go

end GL

namespace GL
open Go

end GL

namespace GL
open Go

end GL

namespace GL
open Go

end GL

namespace GL
open Go

structure Sp where
  kind : Int
  shard : Int
  key : Int
  src : Int
  n : Int
deriving DecidableEq
instance : Flat Sp := ⟨5, fun x => [vi x.kind, vi x.shard, vi x.key, vi x.src, vi x.n], fun _ => rfl, fun _ => rfl, by decide⟩
def okS (s : Sp) (at' : Int) : Prop :=
  (0 ≤ s.shard ∧ s.shard ≤ 2) ∧ (0 ≤ s.key ∧ s.key ≤ 3) ∧ ((s.kind = 1 ∧ s.src = 0 ∧ s.n = 0) ∨ (s.kind = 2 ∧ s.key = 0 ∧ (0 ≤ s.src ∧ s.src ≤ at' - 1) ∧ (-99 ≤ s.n ∧ s.n ≤ 99)) ∨ (s.kind = 3 ∧ (0 ≤ s.src ∧ s.src ≤ at' - 1) ∧ s.n = 0))
instance (s : Sp) (a : Int) : Decidable (okS s a) := by unfold okS; infer_instance
end GL

namespace GL
open Go

/-- numbers that are not too large -/
def smI (xs : List Int) : Prop := ∀ x ∈ xs, -1000000 ≤ x ∧ x ≤ 1000000
theorem smI.getD {xs : List Int} (h : smI xs) (i : Nat) : -1000000 ≤ xs.getD i 0 ∧ xs.getD i 0 ≤ 1000000 := by
  by_cases hi : i < xs.length
  · rw [getD_at hi]; exact h _ (List.getElem_mem hi)
  · rw [List.getD_eq_getElem?_getD, List.getElem?_eq_none (by omega)]; simp
theorem smI.set {xs : List Int} (h : smI xs) (i : Nat) {x : Int} (hx : -1000000 ≤ x ∧ x ≤ 1000000) : smI (xs.set i x) := fun y hy => by
  rcases List.mem_or_eq_of_mem_set hy with h1 | h1
  · exact h y h1
  · rw [h1]; exact hx
end GL

namespace GL
open Go

def upTo (n : Nat) : List Int := (List.range n).map fun (i : Nat) => (i : Int)
theorem upTo_succ (n : Nat) : upTo (n + 1) = upTo n ++ [(n : Int)] := by simp [upTo, List.range_succ]
theorem upTo_len (n : Nat) : (upTo n).length = n := by simp [upTo]
theorem mem_upTo {n : Nat} {x : Int} : x ∈ upTo n ↔ 0 ≤ x ∧ x < n := by
  simp only [upTo, List.mem_map, List.mem_range]
  constructor
  · rintro ⟨i, hi, rfl⟩; omega
  · intro h; exact ⟨x.toNat, by omega, by omega⟩
theorem allColumns_ok {h : Heap} (n : Nat) (hn : n ≤ 2 ^ 20) : ∃ r h', call p 598 [vi n] h = some (r, h') ∧ Out h.length h' r (upTo n) ∧ Keeps h h' ∧ h.length ≤ h'.length := by
  refine go (fn := g598) rfl rfl fun R hR => ?_
  simp [g598]
  refine Wc_upM (M := [3, 4, 7, 8, 9, 10, 11, 12, 13, 14]) rfl n (fun i s => i ≤ n ∧ s.σ 7 = .v (vi i) ∧ (∃ v, s.σ 3 = .v v ∧ Out h.length s.h v (upTo i)) ∧ Keeps h s.h ∧ h.length ≤ s.h.length) 0
    ⟨by omega, by simp, ⟨.slice h.length 0 0 (.k 0), by simp, Out.empty (Nat.le_refl _) (by simp)⟩, Keeps.append _ _, by simp⟩ fun i s ⟨gi, g7, ⟨v, g3, ho⟩, hk, hl⟩ hM J hJ => ?_
  by_cases hi : i < n
  · obtain ⟨v', h1, e1, o1, k1, l1⟩ := ho.one (i : Int) (by rw [upTo_len]; omega)
    have st : IntKind.i64.wrap ((i : Int) + 1) = (i + 1 : Nat) := by rw [IntWalk.i64_in] <;> omega
    simp [g598_0, hM, g7, g3, hi, fillL, rdS_last, e1, st, -Int.natCast_add]
    exact hJ _ hi ⟨hi, by simp, ⟨v', by simp, by rw [upTo_succ]; exact o1⟩, ho.far hk k1 (Nat.le_refl _), by show h.length ≤ h1.length; omega⟩
  · have : i = n := by omega
    subst this
    simp [g598_0, hM, g7, g3]
    exact hR _ _ ⟨ho, hk, hl⟩

end GL

namespace GL
open Go

end GL

namespace GL
open Go

/-- a list of lists of one's own, each of which may grow -/
def Pcs (lo : Nat) (h : Heap) (b : Nat) (xs : List (List Int)) : Prop :=
  ∃ rs : List V, h[b]? = some ⟨.own, rs⟩ ∧ rs.length = xs.length ∧ lo ≤ b ∧ (∀ k (hr : k < rs.length) (hx : k < xs.length), Out (b + 1) h rs[k] xs[k]) ∧ ∀ j k (hj : j < rs.length) (hk : k < rs.length), j ≠ k → ∀ i, vB rs[j] i → ¬ vB rs[k] i
theorem Pcs.load {lo : Nat} {h : Heap} {b : Nat} {xs : List (List Int)} (hp : Pcs lo h b xs) {k : Nat} (hk : k < xs.length) : ∃ v, rdH h b k 1 = some [v] ∧ Out (b + 1) h v xs[k] := by
  obtain ⟨rs, hb, hl, h1, h2, h3⟩ := hp
  have hk' : k < rs.length := by omega
  refine ⟨rs[k], ?_, h2 k hk' hk⟩
  rw [rdH_at hb (by simp)]
  simp only [cut]
  rw [if_pos (by show k + 1 ≤ rs.length; omega), List.drop_eq_getElem_cons hk']; rfl
theorem reps_rows {h : Heap} {lo : Nat} : ∀ {rs : List V} {xs : List (List Int)}, rs.length = xs.length → (∀ k (hr : k < rs.length) (hx : k < xs.length), Out lo h rs[k] xs[k]) → ∃ F, Reps h xs rs F ∧ ∀ b ∈ F, lo ≤ b
  | [], [], _, _ => ⟨[], .nil, by simp⟩
  | [], _ :: _, hl, _ => by simp at hl
  | _ :: _, [], hl, _ => by simp at hl
  | r :: rs, x :: xs, hl, ho => by
    obtain ⟨F1, s1, f1⟩ := (ho 0 (by simp) (by simp)).fr
    obtain ⟨F2, s2, f2⟩ := reps_rows (rs := rs) (xs := xs) (by simpa using hl) fun k hr hx => ho (k + 1) (by simp; omega) (by simp; omega)
    refine ⟨F1 ++ F2, ⟨[r], rs, F1, F2, rfl, rfl, ⟨r, rfl, s1⟩, s2⟩, fun b hb => ?_⟩
    rcases List.mem_append.1 hb with h | h
    · exact f1.ge b h
    · exact f2 b h
theorem Pcs.sdF {lo : Nat} {h : Heap} {b : Nat} {xs : List (List Int)} (hp : Pcs lo h b xs) (hx : xs.length < 2 ^ 63) : ∃ F, SdF h (.slice b 0 xs.length (.k xs.length)) xs F ∧ ∀ i ∈ F, lo ≤ i := by
  obtain ⟨rs, hb, hl, h1, h2, h3⟩ := hp
  obtain ⟨F, hr, hF⟩ := reps_rows hl h2
  have hsz : Data.sz (List Int) = 1 := rfl
  refine ⟨b :: F, ⟨hx, .inr ⟨b, 0, .k xs.length, rfl, Nat.le_refl _, .inr ⟨_, rs, F, rfl, hb, by simp, ?_, hr⟩⟩⟩, fun i hi => ?_⟩
  · rw [hsz, Nat.mul_one, ← hl]; simp [cut]
  · rcases List.mem_cons.1 hi with h | h
    · omega
    · have := hF i h; omega
theorem Pcs.start (h : Heap) (n : Nat) : Pcs h.length (h ++ [⟨.own, List.replicate n V.nils⟩]) h.length (List.replicate n []) :=
  ⟨List.replicate n .nils, by simp, by simp, Nat.le_refl _, fun k hr hx => by rw [List.getElem_replicate, List.getElem_replicate]; exact Out.nil (by simp), fun j k hj hk _ i hv => by rw [List.getElem_replicate] at hv; obtain ⟨_, _, _, e⟩ := hv; cases e⟩

end GL

namespace GL
open Go

end GL

namespace GL
open Go

end GL

namespace GL
open Go

end GL

namespace GL
open Go

/-- a list of one's own of lists that do not change -/
def Rws (lo : Nat) (h : Heap) (b : Nat) (xs : List (List Int)) : Prop :=
  ∃ rs : List V, h[b]? = some ⟨.own, rs⟩ ∧ rs.length = xs.length ∧ lo ≤ b ∧ ∀ k (hr : k < rs.length) (hx : k < xs.length), ∃ F, SdF h rs[k] xs[k] F ∧ ∀ i ∈ F, b < i
theorem Rws.keep {lo : Nat} {h h' : Heap} {b : Nat} {xs : List (List Int)} (hp : Rws lo h b xs) (hk : Keeps h h') : Rws lo h' b xs := by
  obtain ⟨rs, h1, h2, h3, h4⟩ := hp
  exact ⟨rs, hk _ _ h1 (by simp), h2, h3, fun k hr hx => by obtain ⟨F, q1, q2⟩ := h4 k hr hx; exact ⟨F, q1.keep hk, q2⟩⟩
theorem Rws.load {lo : Nat} {h : Heap} {b : Nat} {xs : List (List Int)} (hp : Rws lo h b xs) {k : Nat} (hk : k < xs.length) : ∃ v F, rdH h b k 1 = some [v] ∧ SdF h v xs[k] F ∧ ∀ i ∈ F, b < i := by
  obtain ⟨rs, hb, hl, h1, h2⟩ := hp
  have hk' : k < rs.length := by omega
  obtain ⟨F, q1, q2⟩ := h2 k hk' hk
  refine ⟨rs[k], F, ?_, q1, q2⟩
  rw [rdH_at hb (by simp)]
  simp only [cut]
  rw [if_pos (by show k + 1 ≤ rs.length; omega), List.drop_eq_getElem_cons hk']; rfl
theorem Rws.put {lo : Nat} {h : Heap} {b : Nat} {xs : List (List Int)} (hp : Rws lo h b xs) {k : Nat} (hk : k < xs.length) {w : V} {ys : List Int} {G : List Nat} (hw : SdF h w ys G) (hG : ∀ i ∈ G, b < i) :
    ∃ h2, wrH h b k [w] = some h2 ∧ Rws lo h2 b (xs.set k ys) ∧ KeepsP (fun i => i < lo) h h2 ∧ h2.length = h.length := by
  obtain ⟨rs, hb, hl, h1, h2⟩ := hp
  have hk' : k < rs.length := by omega
  have kb : KeepsP (fun i => i ≠ b) h (h.set b ⟨.own, rs.set k w⟩) := fun i blk hi hbi _ => by rw [List.getElem?_set_ne (Ne.symm hi)]; exact hbi
  refine ⟨h.set b ⟨.own, rs.set k w⟩, ?_, ⟨rs.set k w, by rw [List.getElem?_set_self (get_lt hb)], by simp [hl], h1, fun j hj hxj => ?_⟩, kb.mono fun i hi => by omega, by simp⟩
  · rw [wrH_at hb rfl]
    simp only [lay, List.length_singleton]
    have hset : rs.set k w = rs.take k ++ [w] ++ rs.drop (k + 1) := by rw [List.set_eq_take_append_cons_drop, if_pos hk']; simp
    rw [if_pos (by show k + 1 ≤ rs.length; omega), hset]; rfl
  · simp only [List.length_set] at hj hxj
    by_cases hjk : k = j
    · subst hjk
      simp only [List.getElem_set_self]
      exact ⟨G, hw.keeps (kb.mono fun i hi => by have := hG i hi; omega), hG⟩
    · rw [List.getElem_set_ne hjk, List.getElem_set_ne hjk]
      obtain ⟨F, q1, q2⟩ := h2 j hj hxj
      exact ⟨F, q1.keeps (kb.mono fun i hi => by have := q2 i hi; omega), q2⟩
theorem reps_rws {h : Heap} {b : Nat} : ∀ {rs : List V} {xs : List (List Int)}, rs.length = xs.length → (∀ k (hr : k < rs.length) (hx : k < xs.length), ∃ F, SdF h rs[k] xs[k] F ∧ ∀ i ∈ F, b < i) → ∃ F, Reps h xs rs F ∧ ∀ i ∈ F, b < i
  | [], [], _, _ => ⟨[], .nil, by simp⟩
  | [], _ :: _, hl, _ => by simp at hl
  | _ :: _, [], hl, _ => by simp at hl
  | r :: rs, x :: xs, hl, ho => by
    obtain ⟨F1, s1, f1⟩ := ho 0 (by simp) (by simp)
    obtain ⟨F2, s2, f2⟩ := reps_rws (rs := rs) (xs := xs) (by simpa using hl) fun k hr hx => ho (k + 1) (by simp; omega) (by simp; omega)
    refine ⟨F1 ++ F2, ⟨[r], rs, F1, F2, rfl, rfl, ⟨r, rfl, s1⟩, s2⟩, fun b hb => ?_⟩
    rcases List.mem_append.1 hb with h | h
    · exact f1 b h
    · exact f2 b h
theorem Rws.sdF {lo : Nat} {h : Heap} {b : Nat} {xs : List (List Int)} (hp : Rws lo h b xs) (hx : xs.length < 2 ^ 63) : ∃ F, SdF h (.slice b 0 xs.length (.k xs.length)) xs F ∧ ∀ i ∈ F, lo ≤ i := by
  obtain ⟨rs, hb, hl, h1, h2⟩ := hp
  obtain ⟨F, hr, hF⟩ := reps_rws hl h2
  have hsz : Data.sz (List Int) = 1 := rfl
  refine ⟨b :: F, ⟨hx, .inr ⟨b, 0, .k xs.length, rfl, Nat.le_refl _, .inr ⟨_, rs, F, rfl, hb, by simp, ?_, hr⟩⟩⟩, fun i hi => ?_⟩
  · rw [hsz, Nat.mul_one, ← hl]; simp [cut]
  · rcases List.mem_cons.1 hi with h | h
    · omega
    · have := hF i h; omega
theorem Rws.start (h : Heap) (n : Nat) : Rws h.length (h ++ [⟨.own, List.replicate n V.nils⟩]) h.length (List.replicate n []) :=
  ⟨List.replicate n .nils, by simp, by simp, Nat.le_refl _, fun k hr hx => by rw [List.getElem_replicate, List.getElem_replicate]; exact ⟨[], .nil, by simp⟩⟩

end GL

namespace GL
open Go

end GL

namespace GL
open Go

end GL

namespace GL
open Go

end GL

namespace GL
open Go

end GL

namespace GL
open Go

end GL

namespace GL
open Go

structure Lk where
  rd : List (List Int)
  wr : List Int
  ov : List Int
structure Ak where
  who : Int
  item : Int
  w : Bool
  e : Bool
def LkV (h : Heap) (v : V) (c : Lk) (F : List Nat) : Prop := ∃ x y z F1 F2 F3, v = .agg [x, y, z] ∧ F = F1 ++ F2 ++ F3 ∧ SdF h x c.rd F1 ∧ SdF h y c.wr F2 ∧ SdF h z c.ov F3
section
variable {h h' : Heap} {v : V} {c : Lk} {F : List Nat}
theorem LkV.keeps (hc : LkV h v c F) (hk : KeepsP (fun b => b ∈ F) h h') : LkV h' v c F := by
  obtain ⟨x, y, z, F1, F2, F3, rfl, rfl, hx, hy, hz⟩ := hc
  exact ⟨x, y, z, F1, F2, F3, rfl, rfl, hx.keeps (hk.mono fun b hb => by simp [hb]), hy.keeps (hk.mono fun b hb => by simp [hb]), hz.keeps (hk.mono fun b hb => by simp [hb])⟩
theorem LkV.keep (hc : LkV h v c F) (hk : Keeps h h') : LkV h' v c F := hc.keeps (hk.p _)
theorem LkV.lt (hc : LkV h v c F) {b : Nat} (hb : b ∈ F) : b < h.length := by
  obtain ⟨x, y, z, F1, F2, F3, rfl, rfl, hx, hy, hz⟩ := hc
  rcases List.mem_append.1 hb with hb | hb
  · rcases List.mem_append.1 hb with hb | hb
    · exact hx.ltF hb
    · exact hy.ltF hb
  · exact hz.ltF hb
end
def rowQ (c : Lk) (i : Nat) : Prop := risB 0 3 (c.rd.getD i []) = true ∧ (-1 ≤ c.wr.getD i 0 ∧ c.wr.getD i 0 ≤ 3) ∧ (0 ≤ c.wr.getD i 0 → c.rd.getD i [] = [] ∨ c.rd.getD i [] = [c.wr.getD i 0])
def goodLk (c : Lk) : Prop := c.rd.length = 4 ∧ c.wr.length = 4 ∧ (∀ x ∈ c.ov, 0 ≤ x ∧ x ≤ 3) ∧ c.ov.Nodup ∧ (∀ i, i < 4 → rowQ c i) ∧ ∀ i, i < 4 → c.wr.getD i 0 ∉ c.ov ∧ ∀ x ∈ c.rd.getD i [], x ∉ c.ov
instance (c : Lk) (i : Nat) : Decidable (rowQ c i) := by unfold rowQ; infer_instance
instance (c : Lk) : Decidable (goodLk c) := by unfold goodLk; infer_instance
end GL

namespace GL
open Go

theorem upTo_filter (q : Int → Bool) (i : Nat) : (upTo (i + 1)).filter q = if q i = true then (upTo i).filter q ++ [(i : Int)] else (upTo i).filter q := by
  rw [upTo_succ, List.filter_append]
  cases h : q i <;> simp [h]
end GL

namespace GL
open Go

end GL

namespace GL
open Go

/-- locks of one's own, in memory -/
def LkO (lo : Nat) (h : Heap) (x y z : V) (c : Lk) (F1 F2 : List Nat) : Prop := SdF h x c.rd F1 ∧ SdF h y c.wr F2 ∧ Out lo h z c.ov ∧ Fresh lo h (F1 ++ F2) ∧ ∀ i, vB z i → i ∉ F1 ++ F2
section
variable {lo : Nat} {h h' : Heap} {x y z : V} {c : Lk} {F1 F2 : List Nat}
theorem LkO.keeps {P : Nat → Prop} (o : LkO lo h x y z c F1 F2) (hk : KeepsP P h h') (hp : ∀ i ∈ F1 ++ F2, P i) (hz : ∀ i, vB z i → P i) (hl : h.length ≤ h'.length) : LkO lo h' x y z c F1 F2 := by
  obtain ⟨h1, h2, h3, h4, h5⟩ := o
  exact ⟨h1.keeps (hk.mono fun i hi => hp i (by simp [hi])), h2.keeps (hk.mono fun i hi => hp i (by simp [hi])), h3.keeps hk hz hl, h4.keeps (hk.mono hp), h5⟩
theorem LkO.keep (o : LkO lo h x y z c F1 F2) (hk : Keeps h h') (hl : h.length ≤ h'.length) : LkO lo h' x y z c F1 F2 := o.keeps (hk.p fun _ => True) (fun _ _ => trivial) (fun _ _ => trivial) hl
theorem LkO.v (o : LkO lo h x y z c F1 F2) : ∃ F, LkV h (.agg [x, y, z]) c F ∧ Fresh lo h F ∧ ∀ i ∈ F, i ∈ F1 ++ F2 ∨ vB z i := by
  obtain ⟨h1, h2, h3, h4, h5⟩ := o
  have h3' := h3
  obtain ⟨_, _, ⟨rfl, hov⟩ | ⟨b1, rfl, hb1, _⟩ | ⟨b1, rfl, hov, _⟩⟩ := h3
  · exact ⟨F1 ++ F2 ++ [], ⟨x, y, .nils, F1, F2, [], rfl, rfl, h1, h2, by rw [hov]; exact .nil⟩, by simpa using h4, fun i hi => .inl (by simpa using hi)⟩
  · obtain ⟨F, hF, hF2, hF3⟩ := h3'.sl.sdF h3'.cap
    refine ⟨F1 ++ F2 ++ F, ⟨x, y, _, F1, F2, F, rfl, rfl, h1, h2, hF⟩, ⟨List.nodup_append.2 ⟨h4.nodup, hF.flatF.2.1, fun a ha b hb e => ?_⟩, fun i hi => ?_, fun i hi => ?_⟩, fun i hi => ?_⟩
    · subst e; exact h5 a (hF2 a hb).2 ha
    · rcases List.mem_append.1 hi with hi | hi
      · exact h4.ge i hi
      · exact (h3'.ge (hF2 i hi).2).1
    · rcases List.mem_append.1 hi with hi | hi
      · exact h4.own i hi
      · have := (hF2 i hi).1; simp [bOf] at this; subst this; exact ⟨_, hb1⟩
    · rcases List.mem_append.1 hi with hi | hi
      · exact .inl hi
      · exact .inr (hF2 i hi).2
  · exact ⟨F1 ++ F2 ++ [], ⟨x, y, _, F1, F2, [], rfl, rfl, h1, h2, by rw [hov]; exact ⟨by simp, .inr ⟨b1, 0, .k 0, rfl, Nat.le_refl _, .inl ⟨rfl, rfl⟩⟩⟩⟩, by simpa using h4, fun i hi => .inl (by simpa using hi)⟩
end
section
variable {lo : Nat} {h h' : Heap} {x y z : V} {c : Lk} {F1 F2 : List Nat}
end
end GL

namespace GL
open Go

end GL

namespace GL
open Go

end GL

namespace GL
open Go

end GL

namespace GL
open Go

end GL

namespace GL
open Go

end GL

namespace GL
open Go

instance lkData : Data Lk where
  sz := 3
  pos := by decide
  rep := fun h c cs F => ∃ x y z F1 F2 F3, cs = [x, y, z] ∧ F = F1 ++ F2 ++ F3 ∧ SdF h x c.rd F1 ∧ SdF h y c.wr F2 ∧ SdF h z c.ov F3
  len := by rintro h a cs F ⟨x, y, z, F1, F2, F3, rfl, _⟩; rfl
  ok := by rintro h a cs F ⟨x, y, z, F1, F2, F3, rfl, _, h1, h2, h3⟩; simp [allCell, h1.cell, h2.cell, h3.cell]
  keeps := by
    rintro h h' a cs F ⟨x, y, z, F1, F2, F3, rfl, rfl, h1, h2, h3⟩ hk
    exact ⟨x, y, z, F1, F2, F3, rfl, rfl, h1.keeps (hk.mono fun b hb => by simp [hb]), h2.keeps (hk.mono fun b hb => by simp [hb]), h3.keeps (hk.mono fun b hb => by simp [hb])⟩
  lt := by
    rintro h a cs F b ⟨x, y, z, F1, F2, F3, rfl, rfl, h1, h2, h3⟩ hb
    rcases List.mem_append.1 hb with hb | hb
    · rcases List.mem_append.1 hb with hb | hb
      · exact h1.lt hb
      · exact h2.lt hb
    · exact h3.lt hb
def Lk.of (p : List (List Int) × List Int × List Int) : Lk := ⟨p.1, p.2.1, p.2.2⟩
instance : Flat Ak := ⟨4, fun x => [vi x.who, vi x.item, .bool x.w, .bool x.e], fun _ => rfl, fun _ => rfl, by decide⟩
def Ak.of (p : Int × Int × Bool × Bool) : Ak := ⟨p.1, p.2.1, p.2.2.1, p.2.2.2⟩
end GL

namespace GL
open Go

end GL

namespace GL
open Go

structure Ac where
  who : Int
  item : Int
  wr : Bool
deriving DecidableEq
instance : Flat Ac := ⟨3, fun x => [vi x.who, vi x.item, .bool x.wr], fun _ => rfl, fun _ => rfl, by decide⟩
theorem LkO.mono {lo lo' : Nat} {h : Heap} {x y z : V} {c : Lk} {F1 F2 : List Nat} (o : LkO lo h x y z c F1 F2) (hl : lo' ≤ lo) : LkO lo' h x y z c F1 F2 :=
  ⟨o.1, o.2.1, o.2.2.1.mono hl, o.2.2.2.1.mono hl, o.2.2.2.2⟩

end GL

namespace GL
open Go

theorem LkO.but {lo b0 : Nat} {h h' : Heap} {x y z : V} {c : Lk} {F1 F2 : List Nat} (o : LkO lo h x y z c F1 F2) (hk : KeepsBut b0 h h') (hb : b0 < lo) (hl : h.length ≤ h'.length) : LkO lo h' x y z c F1 F2 :=
  o.keeps hk.P (fun i hi e => by have := o.2.2.2.1.ge i hi; omega) (fun i hi e => by have := (o.2.2.1.ge hi).1; omega) hl

end GL

namespace GL
open Go

end GL

namespace GL
open Go

end GL

namespace GL
open Go

end GL

namespace GL
open Go

end GL

namespace GL
open Go

/-! dependencies: columns that settle columns -/
structure Dp where
  l : List Int
  r : List Int
instance dpData : Data Dp where
  sz := 2
  pos := by decide
  rep := fun h c cs F => ∃ x y F1 F2, cs = [x, y] ∧ F = F1 ++ F2 ∧ SdF h x c.l F1 ∧ SdF h y c.r F2
  len := by rintro h a cs F ⟨x, y, F1, F2, rfl, _⟩; rfl
  ok := by rintro h a cs F ⟨x, y, F1, F2, rfl, _, h1, h2⟩; simp [allCell, h1.cell, h2.cell]
  keeps := by
    rintro h h' a cs F ⟨x, y, F1, F2, rfl, rfl, h1, h2⟩ hk
    exact ⟨x, y, F1, F2, rfl, rfl, h1.keeps (hk.mono fun b hb => List.mem_append_left _ hb), h2.keeps (hk.mono fun b hb => List.mem_append_right _ hb)⟩
  lt := by
    rintro h a cs F b ⟨x, y, F1, F2, rfl, rfl, h1, h2⟩ hb
    rcases List.mem_append.1 hb with hb | hb
    · exact h1.lt hb
    · exact h2.lt hb
theorem SdF.loadDp {h : Heap} {v : V} {xs : List Dp} {F : List Nat} (hs : SdF h v xs F) (i : Nat) (hi : i < xs.length) : ∃ x y F1 F2, rdH h (bOf v) (oOf v + i * 2) 2 = some [x, y] ∧ SdF h x xs[i].l F1 ∧ SdF h y xs[i].r F2 ∧ (∀ b ∈ F1, b ∈ F) ∧ (∀ b ∈ F2, b ∈ F) ∧ F1 ++ F2 = F1 ++ F2 := by
  obtain ⟨cs, G1, G2, G3, e, ⟨x, y, F1, F2, rfl, rfl, h1, h2⟩, rfl⟩ := hs.load i hi
  exact ⟨x, y, F1, F2, e, h1, h2, fun b hb => by simp [hb], fun b hb => by simp [hb], rfl⟩

def okDp (k : Int) (f : Dp) : Bool := risB 0 (k - 1) f.l && risB 0 (k - 1) f.r
def okDps (k : Int) (fs : List Dp) : Bool := decide (1 ≤ k ∧ k ≤ 6) && decide (fs.length ≤ 8) && fs.all (okDp k)

theorem areColumns_eq {h : Heap} {v : V} {xs : List Int} (hs : Sl h v xs) (k : Int) (hk : 1 ≤ k ∧ k ≤ 6) : call p 655 [vi k, v] h = some (.bool (risB 0 (k - 1) xs), h) := by
  have w1 : IntKind.i64.wrap (k - 1) = k - 1 := by rw [IntWalk.i64_in] <;> omega
  have e1 := isRising_eq hs 0 (k - 1)
  refine go_eq (fn := g655) rfl rfl fun R hR => ?_
  simp [g655, w1, e1, hs.cells, hs.cell]; exact hR
theorem isDep_eq {h : Heap} {x y : V} {f : Dp} (hx : Sl h x f.l) (hy : Sl h y f.r) (k : Int) (hk : 1 ≤ k ∧ k ≤ 6) : call p 656 [vi k, .agg [x, y]] h = some (.bool (okDp k f), h) := by
  have e1 := areColumns_eq hx k hk
  have e2 := areColumns_eq hy k hk
  refine go_eq (fn := g656) rfl rfl fun R hR => ?_
  unfold okDp at hR
  cases h1 : risB 0 (k - 1) f.l <;> rw [h1] at e1 hR <;> simp [g656, upd, e1, e2, hx.cells, hx.cell, hy.cells, hy.cell] <;> exact hR
theorem l5Dep_eq {h : Heap} {x y : V} {f : Dp} (hx : Sl h x f.l) (hy : Sl h y f.r) (k : Int) (hk : 1 ≤ k ∧ k ≤ 6) : call p 672 [vi k, .agg [x, y]] h = some (.bool (okDp k f), h) := by
  have w1 : IntKind.i64.wrap (k - 1) = k - 1 := by rw [IntWalk.i64_in] <;> omega
  have e1 := l1Rising_eq hx 0 (k - 1)
  have e2 := l1Rising_eq hy 0 (k - 1)
  refine go_eq (fn := g672) rfl rfl fun R hR => ?_
  unfold okDp at hR
  cases h1 : risB 0 (k - 1) f.l <;> rw [h1] at e1 hR <;> simp [g672, upd, w1, e1, e2, hx.cells, hx.cell, hy.cells, hy.cell] <;> exact hR
theorem notDep_eq {h : Heap} {x y : V} {f : Dp} (hx : Sl h x f.l) (hy : Sl h y f.r) (k : Int) (hk : 1 ≤ k ∧ k ≤ 6) {b : Nat} (hb : rdH h b 0 1 = some [vi k]) : call p 653 [.agg [x, y], .ptr b 0] h = some (.bool (!okDp k f), h) := by
  have e1 := isDep_eq hx hy k hk
  refine go_eq (fn := g653) rfl rfl fun R hR => ?_
  simp [g653, upd, hb, e1, hx.cells, hx.cell, hy.cells, hy.cell]
  exact hR
theorem indexDp_eq {h : Heap} {v : V} {xs : List Dp} {F : List Nat} (hs : SdF h v xs F) (k : Int) (hk : 1 ≤ k ∧ k ≤ 6) {b : Nat} (hb : rdH h b 0 1 = some [vi k]) : ∃ r h', call p 675 [v, .fn 653 [.ptr b 0]] h = some (r, h') ∧ h' = h ∧ ∃ k' : Int, r = vi k' ∧ decide (0 ≤ k') = !xs.all (okDp k) := by
  refine go (fn := g675) rfl rfl fun R hR => ?_
  simp [g675, hs.len]
  refine Wc_upM (M := [4, 5, 8, 9, 10, 11, 12, 13, 14, 15, 16, 17, 18]) rfl xs.length (fun i s => s.σ 8 = .v (vi i) ∧ s.h = h ∧ ∀ x ∈ xs.take i, okDp k x = true) 0 (by simp) fun i s ⟨g8, gh, hall⟩ hM J hJ => ?_
  by_cases hn : i < xs.length
  · obtain ⟨x, y, F1, F2, ld, hx, hy, _⟩ := hs.loadDp i hn
    have e1 := notDep_eq hx.sl hy.sl k hk hb
    cases he : okDp k xs[i] with
    | false =>
      rw [he] at e1
      simp [g675_0, hM, g8, gh, hn, hs.idx, ld, hx.cells, hx.cell, hy.cells, hy.cell, e1]
      refine hR _ _ ⟨rfl, i, rfl, ?_⟩
      have : xs.all (okDp k) = false := List.all_eq_false.2 ⟨xs[i], List.getElem_mem hn, by simp [he]⟩
      simp [this]
    | true =>
      rw [he] at e1
      simp [g675_0, hM, g8, gh, hn, hs.idx, ld, hx.cells, hx.cell, hy.cells, hy.cell, e1, hs.step hn]
      exact hJ _ hn ⟨by simp, rfl, (all_take_succ hn).2 ⟨hall, he⟩⟩
  · rw [List.take_of_length_le (by omega)] at hall
    have : xs.all (okDp k) = true := List.all_eq_true.2 hall
    simp [g675_0, hM, g8, gh, hn]
    exact hR _ _ ⟨rfl, -1, rfl, by simp [this]⟩
theorem containsDp_eq {h : Heap} {v : V} {xs : List Dp} {F : List Nat} (hs : SdF h v xs F) (k : Int) (hk : 1 ≤ k ∧ k ≤ 6) {b : Nat} (hb : rdH h b 0 1 = some [vi k]) : call p 654 [v, .fn 653 [.ptr b 0]] h = some (.bool (!xs.all (okDp k)), h) := by
  obtain ⟨_, _, e, rfl, k', rfl, hk'⟩ := indexDp_eq hs k hk hb
  refine go_eq (fn := g654) rfl rfl fun R hR => ?_
  simp [g654, e, hk']
  simpa using hR
theorem GoodDeps_ok {h : Heap} {v : V} {xs : List Dp} {F : List Nat} (hs : SdF h v xs F) (k : Int) : ∃ r h', call p 616 [vi k, v] h = some (r, h') ∧ r = .bool (okDps k xs) ∧ Keeps h h' ∧ h.length ≤ h'.length := by
  have k0 : Keeps h (h ++ [⟨.own, [vi k]⟩]) := Keeps.append _ _
  have hb0 : (h ++ [⟨.own, [vi k]⟩])[h.length]? = some ⟨.own, [vi k]⟩ := get_last _ _
  have r0 : rdH (h ++ [⟨.own, [vi k]⟩]) h.length 0 1 = some [vi k] := by rw [rdH_at hb0 (by simp)]; rfl
  refine go (fn := g616) rfl rfl fun R hR => ?_
  by_cases hk : 1 ≤ k ∧ k ≤ 6
  · have e1 := containsDp_eq (hs.keep k0) k hk r0
    by_cases h8 : xs.length ≤ 8
    · have h8' : (xs.length : Int) ≤ 8 := by omega
      simp [g616, r0, hk, hs.len, h8, h8', e1, -Bool.decide_and]
      exact hR _ _ ⟨by simp [okDps, hk, h8], k0, by simp⟩
    · have h8' : ¬ (xs.length : Int) ≤ 8 := by omega
      simp [g616, r0, hk, hs.len, h8, h8', -Bool.decide_and]
      exact hR _ _ ⟨by simp [okDps, h8], k0, by simp⟩
  · simp [g616, r0, hk, -Bool.decide_and]
    exact hR _ _ ⟨by simp [okDps, hk, -Bool.decide_and], k0, by simp⟩
theorem GoodDepsS_eq {h : Heap} {v : V} {xs : List Dp} {F : List Nat} (hs : SdF h v xs F) (k : Int) : call p 647 [vi k, v] h = some (.bool (okDps k xs), h) := by
  refine go_eq (fn := g647) rfl rfl fun R hR => ?_
  by_cases hk : 1 ≤ k ∧ k ≤ 6
  · by_cases h8 : xs.length ≤ 8
    · have h8' : (xs.length : Int) ≤ 8 := by omega
      have h8n : ¬ (8 : Int) < xs.length := by omega
      simp [g647, hk, hs.len, h8, h8', h8n, -Bool.decide_and]
      refine Wc_upM (M := [4, 6, 17, 18, 19, 20, 21, 22, 23, 24, 25]) rfl xs.length (fun i s => s.σ 17 = .v (vi i) ∧ s.h = h ∧ ∀ x ∈ xs.take i, okDp k x = true) 0 (by simp) fun i s ⟨g8, gh, hall⟩ hM J hJ => ?_
      by_cases hn : i < xs.length
      · obtain ⟨x, y, F1, F2, ld, hx, hy, _⟩ := hs.loadDp i hn
        have e1 := l5Dep_eq hx.sl hy.sl k hk
        cases he : okDp k xs[i] with
        | false =>
          rw [he] at e1
          have : xs.all (okDp k) = false := List.all_eq_false.2 ⟨xs[i], List.getElem_mem hn, by simp [he]⟩
          rw [okDps, this, Bool.and_false] at hR
          simp [g647_0, hM, g8, gh, hn, hs.idx, ld, upd, hx.cells, hx.cell, hy.cells, hy.cell, e1]
          exact hR
        | true =>
          rw [he] at e1
          simp [g647_0, hM, g8, gh, hn, hs.idx, ld, upd, hx.cells, hx.cell, hy.cells, hy.cell, e1, hs.step hn]
          exact hJ _ hn ⟨by simp, rfl, (all_take_succ hn).2 ⟨hall, he⟩⟩
      · rw [List.take_of_length_le (by omega)] at hall
        have : xs.all (okDp k) = true := List.all_eq_true.2 hall
        rw [okDps, this, decide_eq_true hk, decide_eq_true h8] at hR
        simp [g647_0, hM, g8, gh, hn]
        exact hR
    · have h8n : (8 : Int) < xs.length := by omega
      rw [okDps, decide_eq_false h8] at hR
      simp [g647, hk, hs.len, h8n, -Bool.decide_and]
      simpa using hR
  · rw [okDps, decide_eq_false hk] at hR
    simp [g647, hk, -Bool.decide_and]
    simpa using hR
end GL

namespace GL
open Go

/-! the closure of columns under dependencies -/
def Cld (fs : List Dp) (s : List Int) : Prop := ∀ f ∈ fs, (∀ x ∈ f.l, x ∈ s) → ∀ x ∈ f.r, x ∈ s
def InK (k : Nat) (xs : List Int) : Prop := ∀ x ∈ xs, 0 ≤ x ∧ x < k
def DepsIn (k : Nat) (fs : List Dp) : Prop := ∀ f ∈ fs, InK k f.l ∧ InK k f.r ∧ f.l.Pairwise (· < ·) ∧ f.r.Pairwise (· < ·)
open Classical in
noncomputable def clos (k : Nat) (fs : List Dp) (xs : List Int) : List Int := (upTo k).filter fun n => decide (∀ s : List Int, (∀ x ∈ xs, x ∈ s) → Cld fs s → n ∈ s)
section
variable {k : Nat} {fs : List Dp} {xs : List Int}
theorem mem_clos {n : Int} : n ∈ clos k fs xs ↔ (0 ≤ n ∧ n < k) ∧ ∀ s : List Int, (∀ x ∈ xs, x ∈ s) → Cld fs s → n ∈ s := by
  rw [clos, List.mem_filter, mem_upTo]; simp
theorem clos_ris : (clos k fs xs).Pairwise (· < ·) := List.Pairwise.filter _ (range_rising k)
theorem clos_in : InK k (clos k fs xs) := fun _ hx => (mem_clos.1 hx).1
theorem clos_len : (clos k fs xs).length ≤ k := rising_len clos_ris clos_in
theorem clos_sub (hx : InK k xs) : ∀ x ∈ xs, x ∈ clos k fs xs := fun x h => mem_clos.2 ⟨hx x h, fun _ h1 _ => h1 x h⟩
theorem clos_min {n : Int} (hn : n ∈ clos k fs xs) {s : List Int} (h1 : ∀ x ∈ xs, x ∈ s) (h2 : Cld fs s) : n ∈ s := (mem_clos.1 hn).2 s h1 h2
theorem clos_cld (hd : DepsIn k fs) : Cld fs (clos k fs xs) := fun f hf hl x hx =>
  mem_clos.2 ⟨(hd f hf).2.1 x hx, fun s h1 h2 => h2 f hf (fun y hy => clos_min (hl y hy) h1 h2) x hx⟩

structure CurOK (k : Nat) (fs : List Dp) (xs cur : List Int) : Prop where
  ris : cur.Pairwise (· < ·)
  ink : InK k cur
  sub : ∀ x ∈ xs, x ∈ cur
  min : ∀ x ∈ cur, ∀ s : List Int, (∀ x ∈ xs, x ∈ s) → Cld fs s → x ∈ s
theorem CurOK.start (h1 : xs.Pairwise (· < ·)) (h2 : InK k xs) : CurOK k fs xs xs := ⟨h1, h2, fun _ h => h, fun x hx s h1 _ => h1 x hx⟩
theorem CurOK.eq {cur : List Int} (h : CurOK k fs xs cur) (hc : Cld fs cur) : cur = clos k fs xs :=
  rising_ext h.ris clos_ris fun x => ⟨fun hx => mem_clos.2 ⟨h.ink x hx, fun s h1 h2 => h.min x hx s h1 h2⟩, fun hx => clos_min hx h.sub hc⟩
theorem CurOK.len {cur : List Int} (h : CurOK k fs xs cur) : cur.length ≤ k := rising_len h.ris h.ink
theorem CurOK.grow {cur ys : List Int} (h : CurOK k fs xs cur) (hd : DepsIn k fs) {f : Dp} (hf : f ∈ fs) (hl : ∀ x ∈ f.l, x ∈ cur) (hr : ys.Pairwise (· < ·)) (hm : ∀ x, x ∈ ys ↔ x ∈ cur ∨ x ∈ f.r) : CurOK k fs xs ys :=
  ⟨hr, fun x hx => by
    rcases (hm x).1 hx with h1 | h1
    · exact h.ink x h1
    · exact (hd f hf).2.1 x h1, fun x hx => (hm x).2 (.inl (h.sub x hx)), fun x hx s h1 h2 => by
    rcases (hm x).1 hx with h3 | h3
    · exact h.min x h3 s h1 h2
    · exact h2 f hf (fun y hy => h.min y (hl y hy) s h1 h2) x h3⟩
theorem longer {cur ys : List Int} (hn : cur.Pairwise (· < ·)) (hs : ∀ x ∈ cur, x ∈ ys) {z : Int} (hz : z ∈ ys) (hc : z ∉ cur) : cur.length < ys.length := by
  have := sub_len (l := z :: cur) (m := ys) (List.nodup_cons.2 ⟨hc, hn.imp fun h => Int.ne_of_lt h⟩) fun x hx => by
    rcases List.mem_cons.1 hx with rfl | h
    · exact hz
    · exact hs x h
  simp only [List.length_cons] at this; omega
end

theorem closure_ok {h : Heap} {vf vx : V} {k : Nat} {fs : List Dp} {xs : List Int} {F : List Nat} (hf : SdF h vf fs F) (hx : Sl h vx xs) (hd : DepsIn k fs) (hr : xs.Pairwise (· < ·)) (hin : InK k xs) (hk : k ≤ 2 ^ 10) :
    ∃ r h', call p 645 [vf, vx] h = some (r, h') ∧ ∃ G, SdF h' r (clos k fs xs) G ∧ Keeps h h' ∧ h.length ≤ h'.length := by
  have hxl : xs.length ≤ k := rising_len hr hin
  obtain ⟨r, h1, e1, G1, c1, f1, k1, l1⟩ := cloneI_ok hx (by omega)
  refine go (fn := g645) rfl rfl fun R hR => ?_
  simp [g645, hx.cells, hx.cell, e1]
  refine Wc_dnM (M := [5, 6, 8, 11, 12, 13, 14, 15, 16, 17, 18, 19, 20, 21, 22, 23, 24, 25, 26, 27, 28, 29, 30, 31, 32, 33]) rfl (fun m s => ∃ (cur : List Int) (v : V) (G : List Nat) (b : Bool), s.σ 5 = .v v ∧ s.σ 6 = .v (.bool b) ∧ SdF s.h v cur G ∧ CurOK k fs xs cur ∧ Keeps h s.h ∧ h.length ≤ s.h.length ∧ ((b = true ∧ m = k + 1 - cur.length) ∨ (b = false ∧ m = 0 ∧ Cld fs cur))) (k + 1 - xs.length)
    ⟨xs, r, G1, true, by simp, by simp, c1, .start hr hin, k1, l1, .inl ⟨rfl, rfl⟩⟩ fun m s ⟨cur, v, G, b, g5, g6, sc, hc, hk0, hl0, hb⟩ hM J hJ => ?_
  rcases hb with ⟨rfl, hm⟩ | ⟨rfl, hm, hcl⟩
  · have hlen := hc.len
    simp [g645_1, hM, g6, hf.len]
    refine Wc_upM (M := [5, 6, 8, 14, 15, 16, 17, 18, 19, 20, 21, 22, 23, 24, 25, 26, 27, 28, 29, 30, 31, 32, 33]) rfl fs.length (fun i s => s.σ 14 = .v (vi i) ∧ ∃ (cur' : List Int) (v : V) (G : List Nat) (b : Bool), s.σ 5 = .v v ∧ s.σ 6 = .v (.bool b) ∧ SdF s.h v cur' G ∧ CurOK k fs xs cur' ∧ Keeps h s.h ∧ h.length ≤ s.h.length ∧ ((b = true ∧ cur.length < cur'.length) ∨ (b = false ∧ cur' = cur ∧ ∀ f ∈ fs.take i, (∀ x ∈ f.l, x ∈ cur) → ∀ x ∈ f.r, x ∈ cur))) 0
      ⟨by simp, cur, v, G, false, by simp [g5], by simp, sc, hc, hk0, hl0, .inr ⟨rfl, rfl, by simp⟩⟩ fun i s1 ⟨g14, cur', v', G', b', g5', g6', sc', hc', hk1, hl1, hb'⟩ hM1 J1 hJ1 => ?_
    have hM' : ∀ q, q ∉ [5, 6, 8, 11, 12, 13, 14, 15, 16, 17, 18, 19, 20, 21, 22, 23, 24, 25, 26, 27, 28, 29, 30, 31, 32, 33] → s1.σ q = s.σ q := fun q hq => by rw [hM1 q (by simp at hq ⊢; omega)]; simp at hq; simp [hq]
    by_cases hn : i < fs.length
    · have hf1 := hf.keep hk1
      obtain ⟨x, y, F1, F2, ld, sx, sy, _⟩ := hf1.loadDp i hn
      have st := hf.step hn
      have hmem := List.getElem_mem hn
      obtain ⟨_, h2, e2, rfl, k2, l2⟩ := hasAll_ok sc'.sl sx.sl
      by_cases hall : ∀ x ∈ fs[i].l, x ∈ cur'
      · have ea : (fs[i].l.all fun n => decide (n ∈ cur')) = true := List.all_eq_true.2 fun x hx => by simpa using hall x hx
        rw [ea] at e2
        have sc2 := sc'.keep k2
        have sy2 := sy.keep k2
        obtain ⟨_, h3, e3, rfl, k3, l3⟩ := hasAll_ok sc2.sl sy2.sl
        by_cases hall2 : ∀ x ∈ fs[i].r, x ∈ cur'
        · have eb : (fs[i].r.all fun n => decide (n ∈ cur')) = true := List.all_eq_true.2 fun x hx => by simpa using hall2 x hx
          rw [eb] at e3
          simp [g645_0, hM1, hM, g14, g5', g6', hn, hf1.idx, ld, upd, sx.cells, sx.cell, sy.cells, sy.cell, e2, e3, st]
          refine hJ1 _ hn ⟨by simp, cur', v', G', b', by simp [g5'], by simp [g6'], sc2.keep k3, hc', (hk1.trans k2).trans k3, by show h.length ≤ h3.length; omega, ?_⟩
          rcases hb' with hb' | ⟨h4, h5, h6⟩
          · exact .inl hb'
          · subst h5
            exact .inr ⟨h4, rfl, (all_take_succ hn).2 ⟨h6, fun _ => hall2⟩⟩
        · have eb : (fs[i].r.all fun n => decide (n ∈ cur')) = false := by
            rw [Bool.eq_false_iff]; intro h; exact hall2 fun x hx => by simpa using List.all_eq_true.1 h x hx
          rw [eb] at e3
          have hyl := rising_len hc'.ris hc'.ink
          have sy3 := sy2.keep k3
          have hrl := rising_len (hd _ hmem).2.2.2 (hd _ hmem).2.1
          have hln : cur'.length + fs[i].r.length ≤ 2 ^ 20 := by omega
          obtain ⟨r4, h4, e4, ys, G4, c4, f4, pw, hm4, k4, l4⟩ := together_ok (sc2.keep k3) sy3 hln
          simp [g645_0, hM1, hM, g14, g5', g6', hn, hf1.idx, ld, upd, sx.cells, sx.cell, sy.cells, sy.cell, e2, e3, e4, st]
          refine hJ1 _ hn ⟨by simp, ys, r4, G4, true, by simp, by simp, c4, hc'.grow hd hmem hall pw hm4, ((hk1.trans k2).trans k3).trans k4, by show h.length ≤ h4.length; omega, .inl ⟨rfl, ?_⟩⟩
          obtain ⟨z, hz, hzn⟩ : ∃ z ∈ fs[i].r, z ∉ cur' := by
            apply Classical.byContradiction; intro hne; exact hall2 fun x hx => Classical.byContradiction fun hx' => hne ⟨x, hx, hx'⟩
          have h9 := longer hc'.ris (ys := ys) (fun x hx => (hm4 x).2 (.inl hx)) ((hm4 z).2 (.inr hz)) hzn
          rcases hb' with ⟨_, h5⟩ | ⟨_, h5, _⟩
          · omega
          · subst h5; exact h9
      · have ea : (fs[i].l.all fun n => decide (n ∈ cur')) = false := by
          rw [Bool.eq_false_iff]; intro h; exact hall fun x hx => by simpa using List.all_eq_true.1 h x hx
        rw [ea] at e2
        simp [g645_0, hM1, hM, g14, g5', g6', hn, hf1.idx, ld, upd, sx.cells, sx.cell, sy.cells, sy.cell, e2, st]
        refine hJ1 _ hn ⟨by simp, cur', v', G', b', by simp [g5'], by simp [g6'], sc'.keep k2, hc', hk1.trans k2, by show h.length ≤ h2.length; omega, ?_⟩
        rcases hb' with hb' | ⟨h4, h5, h6⟩
        · exact .inl hb'
        · subst h5
          exact .inr ⟨h4, rfl, (all_take_succ hn).2 ⟨h6, fun h => absurd h hall⟩⟩
    · simp [g645_0, hM1, g14, hn]
      rcases hb' with ⟨h4, h5⟩ | ⟨h4, h5, h6⟩
      · have := hc'.len
        exact hJ _ _ (by omega) ⟨cur', v', G', b', g5', g6', sc', hc', hk1, hl1, .inl ⟨h4, rfl⟩⟩
      · rw [List.take_of_length_le (by omega)] at h6
        subst h5
        exact hJ 0 _ (by omega) ⟨cur', v', G', b', g5', g6', sc', hc', hk1, hl1, .inr ⟨h4, rfl, h6⟩⟩
  · simp [g645_1, hM, g6, g5]
    rw [hc.eq hcl] at sc
    exact hR _ _ ⟨G, sc, hk0, hl0⟩
end GL

namespace GL
open Go

theorem l5Closure_ok {h : Heap} {vf vx : V} {k : Nat} {fs : List Dp} {xs : List Int} {F : List Nat} (hf : SdF h vf fs F) (hx : Sl h vx xs) (hd : DepsIn k fs) (hr : xs.Pairwise (· < ·)) (hin : InK k xs) (hk : k ≤ 2 ^ 10) :
    ∃ r h', call p 649 [vf, vx] h = some (r, h') ∧ ∃ G, SdF h' r (clos k fs xs) G ∧ Keeps h h' ∧ h.length ≤ h'.length := by
  have hxl : xs.length ≤ k := rising_len hr hin
  obtain ⟨e0, r, h1, e1, G1, c1, f1, k1, l1⟩ := appNew hx (show xs.length ≤ 2 ^ 20 by omega) (k := 1) (bytes := 8) rfl (by decide)
  refine go (fn := g649) rfl rfl fun R hR => ?_
  simp [g649, hx.len, hx.cells, hx.cell, e0, e1]
  refine Wc_dnM (M := [5, 6, 8, 10, 14, 15, 16, 17, 18, 19, 20, 21, 22, 23, 24, 25, 26, 27, 28, 29, 30, 31, 32, 33, 34, 35, 36, 37, 38, 39, 40, 41, 42, 43]) rfl (fun m s => ∃ (cur : List Int) (v : V) (G : List Nat) (b : Bool), s.σ 5 = .v v ∧ s.σ 6 = .v (.bool b) ∧ SdF s.h v cur G ∧ CurOK k fs xs cur ∧ Keeps h s.h ∧ h.length ≤ s.h.length ∧ ((b = true ∧ m = k + 1 - cur.length) ∨ (b = false ∧ m = 0 ∧ Cld fs cur))) (k + 1 - xs.length)
    ⟨xs, r, G1, true, by simp, by simp, c1, .start hr hin, k1, by simpa using l1, .inl ⟨rfl, rfl⟩⟩ fun m s ⟨cur, v, G, b, g5, g6, sc, hc, hk0, hl0, hb⟩ hM J hJ => ?_
  rcases hb with ⟨rfl, hm⟩ | ⟨rfl, hm, hcl⟩
  · have hlen := hc.len
    simp [g649_2, hM, g6, hf.len]
    refine Wc_upM (M := [5, 6, 8, 10, 17, 18, 19, 20, 21, 22, 23, 24, 25, 26, 27, 28, 29, 30, 31, 32, 33, 34, 35, 36, 37, 38, 39, 40, 41, 42, 43]) rfl fs.length (fun i s => s.σ 17 = .v (vi i) ∧ ∃ (cur' : List Int) (v : V) (G : List Nat) (b : Bool), s.σ 5 = .v v ∧ s.σ 6 = .v (.bool b) ∧ SdF s.h v cur' G ∧ CurOK k fs xs cur' ∧ Keeps h s.h ∧ h.length ≤ s.h.length ∧ ((b = true ∧ cur.length < cur'.length) ∨ (b = false ∧ cur' = cur ∧ ∀ f ∈ fs.take i, (∀ x ∈ f.l, x ∈ cur) → ∀ x ∈ f.r, x ∈ cur))) 0
      ⟨by simp, cur, v, G, false, by simp [g5], by simp, sc, hc, hk0, hl0, .inr ⟨rfl, rfl, by simp⟩⟩ fun i s1 ⟨g14, cur', v', G', b', g5', g6', sc', hc', hk1, hl1, hb'⟩ hM1 J1 hJ1 => ?_
    by_cases hn : i < fs.length
    · have hf1 := hf.keep hk1
      obtain ⟨x, y, F1, F2, ld, sx, sy, _⟩ := hf1.loadDp i hn
      have st := hf.step hn
      have hmem := List.getElem_mem hn
      have e2 := l5Sub_eq sx.sl sc'.sl
      by_cases hall : ∀ x ∈ fs[i].l, x ∈ cur'
      · have ea : (fs[i].l.all fun n => decide (n ∈ cur')) = true := List.all_eq_true.2 fun x hx => by simpa using hall x hx
        rw [ea] at e2
        have e3 := l5Sub_eq sy.sl sc'.sl
        by_cases hall2 : ∀ x ∈ fs[i].r, x ∈ cur'
        · have eb : (fs[i].r.all fun n => decide (n ∈ cur')) = true := List.all_eq_true.2 fun x hx => by simpa using hall2 x hx
          rw [eb] at e3
          simp [g649_1, hM1, hM, g14, g5', g6', hn, hf1.idx, ld, upd, sx.cells, sx.cell, sy.cells, sy.cell, e2, e3, st]
          refine hJ1 _ hn ⟨by simp, cur', v', G', b', by simp [g5'], by simp [g6'], sc', hc', hk1, hl1, ?_⟩
          rcases hb' with hb' | ⟨h4, h5, h6⟩
          · exact .inl hb'
          · subst h5
            exact .inr ⟨h4, rfl, (all_take_succ hn).2 ⟨h6, fun _ => hall2⟩⟩
        · have eb : (fs[i].r.all fun n => decide (n ∈ cur')) = false := by
            rw [Bool.eq_false_iff]; intro h; exact hall2 fun x hx => by simpa using List.all_eq_true.1 h x hx
          rw [eb] at e3
          have hyl := rising_len hc'.ris hc'.ink
          have hrl := rising_len (hd _ hmem).2.2.2 (hd _ hmem).2.1
          simp [g649_1, hM1, hM, g14, g5', g6', hn, hf1.idx, ld, upd, sx.cells, sx.cell, sy.cells, sy.cell, sy.len, e2, e3, st]
          refine Wc_upM (M := [5, 10, 35, 36, 37, 38, 39, 40, 41, 42]) rfl fs[i].r.length (fun j s => s.σ 35 = .v (vi j) ∧ ∃ (c2 : List Int) (v : V) (G : List Nat), s.σ 5 = .v v ∧ SdF s.h v c2 G ∧ c2.Pairwise (· < ·) ∧ (∀ x, x ∈ c2 ↔ x ∈ cur' ∨ x ∈ fs[i].r.take j) ∧ c2.length ≤ cur'.length + j ∧ Keeps s1.h s.h ∧ s1.h.length ≤ s.h.length) 0
            ⟨by simp, cur', v', G', by simp [g5'], sc', hc'.ris, by simp, by omega, Keeps.refl _, Nat.le_refl _⟩ fun j s2 ⟨g35, c2, v2, G2, g52, sc2, hr2, hm2, hl2, hk2, hlen2⟩ hM2 J2 hJ2 => ?_
          by_cases hj : j < fs[i].r.length
          · have sy2 := (sy.keep hk2).sl
            have ix := sy2.idx 1 .i64 j hj
            have ldj := sy2.loadI j hj
            have stj := sy2.step hj
            simp only [Nat.mul_one] at ix
            obtain ⟨r5, h5, e5, ys, G5, sc5, hr5, hm5, hl5, _, k5, l5⟩ := l1Put_ok sc2 hr2 (by omega) fs[i].r[j]
            have hts := List.take_succ_eq_append_getElem hj
            simp [g649_0, hM2, hM1, hM, g35, g52, hj, ix, ldj, upd, e5, stj]
            refine hJ2 _ hj ⟨by simp, ys, r5, G5, by simp, sc5, hr5, fun x => by rw [hm5 x, hm2 x, hts, List.mem_append, List.mem_singleton, or_assoc], by omega, hk2.trans k5, by show s1.h.length ≤ h5.length; omega⟩
          · rw [List.take_of_length_le (by omega)] at hm2
            have g6f : s2.σ 6 = .v (.bool true) := by rw [hM2 6 (by simp)]; simp
            have stj := st
            simp [g649_0, hM2, hM1, hM, g35, g52, hj, stj, g14]
            refine hJ1 _ hn ⟨by simp, c2, v2, G2, true, by simp [g52], by simp [g6f], sc2, hc'.grow hd hmem hall hr2 hm2, hk1.trans hk2, by show h.length ≤ s2.h.length; omega, .inl ⟨rfl, ?_⟩⟩
            obtain ⟨z, hz, hzn⟩ : ∃ z ∈ fs[i].r, z ∉ cur' := by
              apply Classical.byContradiction; intro hne; exact hall2 fun x hx => Classical.byContradiction fun hx' => hne ⟨x, hx, hx'⟩
            have h9 := longer hc'.ris (ys := c2) (fun x hx => (hm2 x).2 (.inl hx)) ((hm2 z).2 (.inr hz)) hzn
            rcases hb' with ⟨_, h5⟩ | ⟨_, h5, _⟩
            · omega
            · subst h5; exact h9
      · have ea : (fs[i].l.all fun n => decide (n ∈ cur')) = false := by
          rw [Bool.eq_false_iff]; intro h; exact hall fun x hx => by simpa using List.all_eq_true.1 h x hx
        rw [ea] at e2
        simp [g649_1, hM1, hM, g14, g5', g6', hn, hf1.idx, ld, upd, sx.cells, sx.cell, sy.cells, sy.cell, e2, st]
        refine hJ1 _ hn ⟨by simp, cur', v', G', b', by simp [g5'], by simp [g6'], sc', hc', hk1, hl1, ?_⟩
        rcases hb' with hb' | ⟨h4, h5, h6⟩
        · exact .inl hb'
        · subst h5
          exact .inr ⟨h4, rfl, (all_take_succ hn).2 ⟨h6, fun h => absurd h hall⟩⟩
    · simp [g649_1, hM1, g14, hn]
      rcases hb' with ⟨h4, h5⟩ | ⟨h4, h5, h6⟩
      · have := hc'.len
        exact hJ _ _ (by omega) ⟨cur', v', G', b', g5', g6', sc', hc', hk1, hl1, .inl ⟨h4, rfl⟩⟩
      · rw [List.take_of_length_le (by omega)] at h6
        subst h5
        exact hJ 0 _ (by omega) ⟨cur', v', G', b', g5', g6', sc', hc', hk1, hl1, .inr ⟨h4, rfl, h6⟩⟩
  · simp [g649_2, hM, g6, g5]
    rw [hc.eq hcl] at sc
    exact hR _ _ ⟨G, sc, hk0, hl0⟩
end GL

namespace GL
open Go

/-! lists of columns as bits of a number -/
def bitsOf (k m : Nat) : List Int := (upTo k).filter fun n => m.testBit n.toNat
def listsL (k : Nat) : List (List Int) := (List.range (2 ^ k)).map (bitsOf k)
theorem mem_bits {k m : Nat} {x : Int} : x ∈ bitsOf k m ↔ (0 ≤ x ∧ x < k) ∧ m.testBit x.toNat = true := by
  rw [bitsOf, List.mem_filter, mem_upTo]
theorem bits_ris (k m : Nat) : (bitsOf k m).Pairwise (· < ·) := List.Pairwise.filter _ (range_rising k)
theorem bits_in (k m : Nat) : InK k (bitsOf k m) := fun _ hx => (mem_bits.1 hx).1
theorem bits_len (k m : Nat) : (bitsOf k m).length ≤ k := rising_len (bits_ris k m) (bits_in k m)

theorem shr_v {k' : IntKind} (m i : Nat) (hi : i ≤ 60) : binV .shr (vi m) (.int k' (i : Int)) = some (vi (m / 2 ^ i : Nat)) := by
  have hmin : min i 64 = i := by omega
  have h0 : ¬ ((i : Int) < 0) := by omega
  simp only [binV, shI, h0, if_false, or_true, if_true, Int.toNat_natCast, IntKind.bits, hmin]
  rw [Int.fdiv_eq_ediv_of_nonneg _ (by exact_mod_cast Nat.zero_le (2 ^ i))]
  norm_cast
theorem and_v (a : Nat) (ha : a < 2 ^ 30) : binV .and (vi a) (vi 1) = some (vi (a % 2 : Nat)) := by
  have e : (BitVec.ofInt 64 (a : Int) &&& BitVec.ofInt 64 1).toNat = a % 2 := by
    rw [BitVec.toNat_and, BitVec.ofInt_natCast, BitVec.toNat_ofNat]
    have : (BitVec.ofInt 64 1).toNat = 1 := by decide
    rw [this, Nat.mod_eq_of_lt (by omega), Nat.and_one_is_mod]
  have hw : IntKind.i64.wrap ((a % 2 : Nat) : Int) = (a % 2 : Nat) := by rw [IntWalk.i64_in]; omega
  have : binV .and (vi a) (vi 1) = some (.int .i64 (IntKind.i64.wrap ((BitVec.ofInt 64 (a : Int) &&& BitVec.ofInt 64 1).toNat : Nat))) := rfl
  rw [this, e, hw]
theorem shl_v {k' : IntKind} (i : Nat) (hi : i ≤ 30) : binV .shl (vi 1) (.int k' (i : Int)) = some (vi (2 ^ i : Nat)) := by
  have hmin : min i 64 = i := by omega
  have h0 : ¬ ((i : Int) < 0) := by omega
  have hp : 2 ^ i ≤ 2 ^ 30 := Nat.pow_le_pow_right (by decide) hi
  have e : (1 : Int) * 2 ^ i = ((2 ^ i : Nat) : Int) := by simp
  simp only [binV, shI, h0, if_false, true_or, if_true, Int.toNat_natCast, IntKind.bits, hmin]
  generalize hq : (2 : Nat) ^ i = q at *
  rw [e, IntWalk.i64_in]; omega
theorem tb_v (m i : Nat) : decide (((m / 2 ^ i % 2 : Nat) : Int) = 1) = m.testBit i := by
  rw [Nat.testBit_eq_decide_div_mod_eq]
  generalize m / 2 ^ i % 2 = q
  congr 1; simp; omega
end GL

namespace GL
open Go

theorem bv_lss (k : IntKind) (a b : Int) : binV .lss (.int k a) (.int k b) = some (.bool (decide (a < b))) := by simp [binV, binI]
theorem bv_gtr (k : IntKind) (a b : Int) : binV .gtr (.int k a) (.int k b) = some (.bool (decide (b < a))) := by simp [binV, binI]
theorem bv_eql (k : IntKind) (a b : Int) : binV .eql (.int k a) (.int k b) = some (.bool (decide (a = b))) := by simp [binV, binI]
theorem bv_add (k : IntKind) (a b : Int) : binV .add (.int k a) (.int k b) = some (.int k (k.wrap (a + b))) := by simp [binV, binI]
theorem bv_sub (k : IntKind) (a b : Int) : binV .sub (.int k a) (.int k b) = some (.int k (k.wrap (a - b))) := by simp [binV, binI]

theorem l5List_ok {h : Heap} {k m : Nat} (hm : m < 2 ^ k) (hk : k ≤ 20) : ∃ r h', call p 648 [vi m] h = some (r, h') ∧ Out h.length h' r (bitsOf k m) ∧ Keeps h h' ∧ h.length ≤ h'.length := by
  have hk2 : 2 ^ k ≤ 2 ^ 20 := Nat.pow_le_pow_right (by decide) hk
  refine go (fn := g648) rfl rfl fun R hR => ?_
  simp [g648]
  refine Wc_upM (M := [3, 4, 5, 6, 7, 8, 9, 10, 11, 12, 13, 14, 15, 16, 17, 18, 19, 20, 21]) rfl k (fun i s => i ≤ k ∧ s.σ 4 = .v (vi i) ∧ ∃ v, s.σ 3 = .v v ∧ Out h.length s.h v (bitsOf i m) ∧ Keeps h s.h ∧ h.length ≤ s.h.length) 0
    ⟨by omega, by simp, .nils, by simp, by simpa [bitsOf, upTo] using Out.nil (Nat.le_refl _), Keeps.refl _, Nat.le_refl _⟩ fun i s ⟨gi, g4, v, g3, ho, hk0, hl0⟩ hM J hJ => ?_
  have wu : IntKind.u64.wrap (i : Int) = i := by rw [IntWalk.u64_in]; omega
  have w1 : IntKind.i64.wrap ((i : Int) + 1) = (i + 1 : Nat) := by rw [IntWalk.i64_in] <;> omega
  have e1 := shr_v (k' := .u64) m i (by omega)
  have e2 := and_v (m / 2 ^ i) (by have := Nat.div_le_self m (2 ^ i); omega)
  have e3 := tb_v m i
  have hlo : 0 < m / 2 ^ i → i < k := fun hc => by
    apply Classical.byContradiction; intro hge
    have : m < 2 ^ i := Nat.lt_of_lt_of_le hm (Nat.pow_le_pow_right (by decide) (by omega))
    rw [Nat.div_eq_of_lt this] at hc; omega
  have hhi : m / 2 ^ i = 0 → m < 2 ^ i := fun h3 => by
    rcases Nat.div_eq_zero_iff.1 h3 with h | h
    · have := Nat.pow_pos (n := i) (show 0 < 2 by decide); omega
    · exact h
  generalize m / 2 ^ i = q at *
  by_cases hc : 0 < q
  · have hik := hlo hc
    have hbl := bits_len i m
    cases hb : m.testBit i with
    | true =>
      rw [hb] at e3
      obtain ⟨v', h2, e5, o2, k2, l2⟩ := ho.one (i : Int) (by omega)
      have kk := ho.far hk0 k2 (Nat.le_refl _)
      simp [g648_0, -binV_int, bv_gtr, bv_eql, bv_add, hM, g4, g3, wu, e1, e2, e3, hc, w1, fillL, rdS_last, e5, -Int.natCast_emod, -Int.natCast_add]
      refine hJ _ hik ⟨hik, by simp, v', by simp, ?_, kk, by show h.length ≤ h2.length; omega⟩
      have : bitsOf (i + 1) m = bitsOf i m ++ [(i : Int)] := by rw [bitsOf, upTo_filter]; simp [hb, bitsOf]
      rw [this]; exact o2
    | false =>
      rw [hb] at e3
      simp [g648_0, -binV_int, bv_gtr, bv_eql, bv_add, hM, g4, g3, wu, e1, e2, e3, hc, w1, -Int.natCast_emod, -Int.natCast_add]
      refine hJ _ hik ⟨hik, by simp, v, by simp [g3], ?_, hk0, hl0⟩
      have : bitsOf (i + 1) m = bitsOf i m := by rw [bitsOf, upTo_filter]; simp [hb, bitsOf]
      rw [this]; exact ho
  · have hlt := hhi (by omega)
    simp [g648_0, -binV_int, bv_gtr, bv_eql, bv_add, hM, g4, g3, wu, e1, hc]
    have : bitsOf i m = bitsOf k m := rising_ext (bits_ris _ _) (bits_ris _ _) fun x => by
      rw [mem_bits, mem_bits]
      constructor
      · rintro ⟨h1, h2⟩; exact ⟨by omega, h2⟩
      · rintro ⟨h1, h2⟩
        refine ⟨⟨h1.1, ?_⟩, h2⟩
        apply Classical.byContradiction; intro hge
        rw [Nat.testBit_lt_two_pow (Nat.lt_of_lt_of_le hlt (Nat.pow_le_pow_right (by decide) (by omega)))] at h2; cases h2
    rw [this] at ho
    exact hR _ _ ⟨ho, hk0, hl0⟩

theorem lists_ok {h : Heap} {v : V} {k : Nat} (hs : Sl h v (upTo k)) (hk : k ≤ 10) : ∃ r h', call p 644 [v] h = some (r, h') ∧ ∃ F, SdF h' r (listsL k) F ∧ Fresh h.length h' F ∧ Keeps h h' ∧ h.length ≤ h'.length := by
  have hk2 : 2 ^ k ≤ 2 ^ 10 := Nat.pow_le_pow_right (by decide) hk
  have el := shl_v (k' := .i64) k (by omega)
  refine go (fn := g644) rfl rfl fun R hR => ?_
  have hlen := hs.len
  rw [upTo_len] at hlen
  unfold listsL at hR
  generalize (2 : Nat) ^ k = N at *
  simp [g644, -binV_int, bv_lss, bv_add, hlen, el]
  refine Wc_upM (M := [3, 4, 5, 6, 7, 12, 13, 14, 15, 16, 17, 18, 19, 20, 21, 22, 23, 24, 25, 26, 27, 28, 29, 30, 31, 32, 33, 34, 35, 36, 37]) rfl N (fun m s => m ≤ N ∧ s.σ 12 = .v (vi m) ∧ ∃ v3 G, s.σ 3 = .v v3 ∧ OdF h.length s.h v3 ((List.range m).map (bitsOf k)) G ∧ Keeps h s.h ∧ h.length ≤ s.h.length) 0
    ⟨by omega, by simp, .slice h.length 0 0 (.k 0), [], by simp, by simpa using OdF.empty (Nat.le_refl _) (by simp), Keeps.append _ _, by simp⟩ fun m s ⟨gm, g12, v3, G, g3, ho, hk0, hl0⟩ hM J hJ => ?_
  have w1 : IntKind.i64.wrap ((m : Int) + 1) = (m + 1 : Nat) := by rw [IntWalk.i64_in] <;> omega
  by_cases hmN : m < N
  · simp [g644_1, -binV_int, bv_lss, bv_add, hM, g12, hmN, hlen]
    refine Wc_upM (M := [5, 6, 7, 18, 19, 20, 21, 22, 23, 24, 25, 26, 27, 28, 29, 30, 31, 32]) rfl k (fun i s1 => i ≤ k ∧ s1.σ 18 = .v (vi i) ∧ ∃ v5, s1.σ 5 = .v v5 ∧ Out s.h.length s1.h v5 (bitsOf i m) ∧ Keeps s.h s1.h ∧ s.h.length ≤ s1.h.length) 0
      ⟨by omega, by simp, .slice s.h.length 0 0 (.k 0), by simp, by simpa [bitsOf, upTo] using Out.empty (Nat.le_refl _) (by simp), Keeps.append _ _, by simp⟩ fun i s1 ⟨gi, g18, v5, g5, o5, k5, l5⟩ hM1 J1 hJ1 => ?_
    by_cases hi : i < k
    · have hs1 := (hs.keeps hk0).keeps k5
      have hiu : i < (upTo k).length := by rw [upTo_len]; exact hi
      have ix := hs1.idx 1 .i64 i hiu
      have ld := hs1.loadI i hiu
      have eu : (upTo k)[i] = (i : Int) := by simp [upTo]
      simp only [Nat.mul_one] at ix
      rw [eu] at ld
      have w2 : IntKind.i64.wrap ((i : Int) + 1) = (i + 1 : Nat) := by rw [IntWalk.i64_in] <;> omega
      have e1 := shr_v (k' := .i64) m i (by omega)
      have e2 := and_v (m / 2 ^ i) (by have := Nat.div_le_self m (2 ^ i); omega)
      have e3 := tb_v m i
      generalize m / 2 ^ i = q at *
      have hbl := bits_len i m
      cases hb : m.testBit i with
      | true =>
        rw [hb] at e3
        obtain ⟨v', h2, e5, o2, k2, l2⟩ := o5.one (i : Int) (by omega)
        have kk := o5.far k5 k2 (Nat.le_refl _)
        simp [g644_0, -binV_int, bv_lss, bv_eql, bv_add, hM1, hM, g12, g18, g5, hi, ix, ld, e1, e2, e3, w2, fillL, rdS_last, e5, -Int.natCast_emod, -Int.natCast_add]
        refine hJ1 _ hi ⟨hi, by simp, v', by simp, ?_, kk, by show s.h.length ≤ h2.length; omega⟩
        have : bitsOf (i + 1) m = bitsOf i m ++ [(i : Int)] := by rw [bitsOf, upTo_filter]; simp [hb, bitsOf]
        rw [this]; exact o2
      | false =>
        rw [hb] at e3
        simp [g644_0, -binV_int, bv_lss, bv_eql, bv_add, hM1, hM, g12, g18, g5, hi, ix, ld, e1, e2, e3, w2, -Int.natCast_emod, -Int.natCast_add]
        refine hJ1 _ hi ⟨hi, by simp, v5, by simp [g5], ?_, k5, l5⟩
        have : bitsOf (i + 1) m = bitsOf i m := by rw [bitsOf, upTo_filter]; simp [hb, bitsOf]
        rw [this]; exact o5
    · have : i = k := by omega
      subst this
      obtain ⟨F5, s5, f5⟩ := o5.fr
      obtain ⟨v', h2, e6, o6, kf, l6⟩ := ho.one k5 l5 f5 (x := bitsOf i m) (cs := [v5]) ⟨v5, rfl, s5⟩ (by simp; omega) (k := 1) (bytes := 24) rfl (by decide)
      simp [g644_0, -binV_int, bv_lss, bv_eql, bv_add, hM1, hM, g3, g12, g18, g5, s5.cells, s5.cell, fillL, rdS_last, e6, w1, -Int.natCast_add]
      refine hJ _ hmN ⟨hmN, by simp, v', G ++ F5, by simp, ?_, kf h hk0 (Nat.le_refl _), by show h.length ≤ h2.length; omega⟩
      have : (List.range (m + 1)).map (bitsOf i) = (List.range m).map (bitsOf i) ++ [bitsOf i m] := by rw [List.range_succ, List.map_append]; rfl
      rw [this]; exact o6
  · have : m = N := by omega
    subst this
    simp [g644_1, -binV_int, bv_lss, hM, g12, g3]
    obtain ⟨F, sF, fF⟩ := ho.fresh
    exact hR _ _ ⟨F, sF, fF, hk0, hl0⟩
end GL

namespace GL
open Go

theorem ris_of {lo hi : Int} {xs : List Int} : risB lo hi xs = true ↔ (∀ x ∈ xs, lo ≤ x ∧ x ≤ hi) ∧ xs.Pairwise (· < ·) := by simp only [risB, decide_eq_true_eq]
theorem ris_in {k : Nat} {xs : List Int} (h : risB 0 ((k : Int) - 1) xs = true) : InK k xs ∧ xs.Pairwise (· < ·) := by
  obtain ⟨h1, h2⟩ := ris_of.1 h
  exact ⟨fun x hx => by have := h1 x hx; omega, h2⟩
theorem in_ris {k : Nat} {xs : List Int} (h : InK k xs) (hr : xs.Pairwise (· < ·)) : risB 0 ((k : Int) - 1) xs = true := ris_of.2 ⟨fun x hx => by have := h x hx; omega, hr⟩
theorem okDp_in {k : Nat} {f : Dp} (h : okDp k f = true) : InK k f.l ∧ InK k f.r ∧ f.l.Pairwise (· < ·) ∧ f.r.Pairwise (· < ·) := by
  simp only [okDp, Bool.and_eq_true] at h
  exact ⟨(ris_in h.1).1, (ris_in h.2).1, (ris_in h.1).2, (ris_in h.2).2⟩
theorem okDps_in {k : Nat} {fs : List Dp} (h : okDps k fs = true) : (1 ≤ k ∧ k ≤ 6) ∧ fs.length ≤ 8 ∧ DepsIn k fs := by
  simp only [okDps, Bool.and_eq_true, decide_eq_true_eq, List.all_eq_true] at h
  exact ⟨by omega, h.1.2, fun f hf => okDp_in (h.2 f hf)⟩

noncomputable def impD (k : Nat) (fs : List Dp) (f : Dp) : Bool := f.r.all fun n => decide (n ∈ clos k fs f.l)
theorem implies_ok {h : Heap} {vf x y : V} {k : Nat} {fs : List Dp} {f : Dp} {F : List Nat} (hf : SdF h vf fs F) (hx : Sl h x f.l) (hy : Sl h y f.r) (hd : DepsIn k fs) (hr : f.l.Pairwise (· < ·)) (hin : InK k f.l) (hk : k ≤ 2 ^ 10) :
    ∃ r h', call p 652 [vf, .agg [x, y]] h = some (r, h') ∧ r = .bool (impD k fs f) ∧ Keeps h h' ∧ h.length ≤ h'.length := by
  obtain ⟨r1, h1, e1, G1, s1, k1, l1⟩ := closure_ok hf hx hd hr hin hk
  obtain ⟨_, h2, e2, rfl, k2, l2⟩ := hasAll_ok s1.sl (hy.keeps k1)
  refine go (fn := g652) rfl rfl fun R hR => ?_
  simp [g652, upd, hx.cells, hx.cell, hy.cells, hy.cell, e1]
  rw [show (f.r.all fun n => decide (n ∈ clos k fs f.l)) = impD k fs f from rfl] at e2
  simp [e2]
  exact hR _ _ ⟨rfl, k1.trans k2, by omega⟩
theorem ClosureOf_ok {h : Heap} {vf vx : V} {k : Nat} {fs : List Dp} {xs : List Int} {F : List Nat} (hf : SdF h vf fs F) (hx : Sl h vx xs) (hg : okDps k fs = true) (hr : xs.Pairwise (· < ·)) (hin : InK k xs) :
    ∃ r h', call p 617 [vi k, vf, vx] h = some (r, h') ∧ ∃ o G, r = .tup [o, .bool true] ∧ SdF h' o (clos k fs xs) G ∧ Keeps h h' ∧ h.length ≤ h'.length := by
  obtain ⟨hk, _, hd⟩ := okDps_in hg
  obtain ⟨_, h1, e1, rfl, k1, l1⟩ := GoodDeps_ok hf k
  rw [hg] at e1
  have e2 := areColumns_eq (hx.keeps k1) k (by omega)
  rw [in_ris hin hr] at e2
  obtain ⟨r3, h3, e3, G3, s3, k3, l3⟩ := closure_ok (hf.keep k1) (hx.keeps k1) hd hr hin (by omega)
  refine go (fn := g617) rfl rfl fun R hR => ?_
  simp [g617, e1, e2, e3]
  exact hR _ _ ⟨r3, G3, rfl, s3, k1.trans k3, by omega⟩
theorem Implies_ok {h : Heap} {vf x y : V} {k : Nat} {fs : List Dp} {f : Dp} {F : List Nat} (hf : SdF h vf fs F) (hx : Sl h x f.l) (hy : Sl h y f.r) (hg : okDps k fs = true) (hd : okDp k f = true) :
    ∃ r h', call p 618 [vi k, vf, .agg [x, y]] h = some (r, h') ∧ r = .tup [.bool (impD k fs f), .bool true] ∧ Keeps h h' ∧ h.length ≤ h'.length := by
  obtain ⟨hk, _, hds⟩ := okDps_in hg
  obtain ⟨_, h1, e1, rfl, k1, l1⟩ := GoodDeps_ok hf k
  rw [hg] at e1
  have e2 := isDep_eq (hx.keeps k1) (hy.keeps k1) k (by omega)
  rw [hd] at e2
  obtain ⟨i1, i2, i3, i4⟩ := okDp_in hd
  obtain ⟨_, h3, e3, rfl, k3, l3⟩ := implies_ok (hf.keep k1) (hx.keeps k1) (hy.keeps k1) hds i3 i1 (by omega)
  refine go (fn := g618) rfl rfl fun R hR => ?_
  simp [g618, upd, hx.cells, hx.cell, hy.cells, hy.cell, e1, e2, e3]
  exact hR _ _ ⟨rfl, k1.trans k3, by omega⟩
end GL

namespace GL
open Go

/-! keys: lists that settle all, and no part of which does -/
def Bx (h : Heap) (b : Nat) (x : V) : Prop := ∃ st, st ≠ .dead ∧ h[b]? = some ⟨st, [x]⟩
theorem Bx.rd {h : Heap} {b : Nat} {x : V} (hb : Bx h b x) : rdH h b 0 1 = some [x] := by
  obtain ⟨st, h1, h2⟩ := hb
  rw [rdH_at h2 h1]; rfl
theorem Bx.keeps {h h' : Heap} {b : Nat} {x : V} {P : Nat → Prop} (hb : Bx h b x) (k : KeepsP P h h') (hp : P b) : Bx h' b x := by
  obtain ⟨st, h1, h2⟩ := hb
  exact ⟨st, h1, k _ _ hp h2 h1⟩
theorem Bx.keep {h h' : Heap} {b : Nat} {x : V} (hb : Bx h b x) (k : Keeps h h') : Bx h' b x := hb.keeps (k.p fun _ => True) trivial
theorem Bx.last (h : Heap) (x : V) : Bx (h ++ [⟨.own, [x]⟩]) h.length x := ⟨.own, by simp, get_last _ _⟩
theorem Bx.lt {h : Heap} {b : Nat} {x : V} (hb : Bx h b x) : b < h.length := by obtain ⟨_, _, h2⟩ := hb; exact get_lt h2

noncomputable def keyT (k : Nat) (fs : List Dp) (xs : List Int) : Bool := decide ((clos k fs xs).length = k)
def lessI (xs : List Int) (n : Int) : List Int := xs.filter fun m => !decide (m ∈ [n])
noncomputable def isKeyL (k : Nat) (fs : List Dp) (xs : List Int) : Bool := keyT k fs xs && !(xs.any fun n => keyT k fs (lessI xs n))
noncomputable def keysL (k : Nat) (fs : List Dp) : List (List Int) := (listsL k).filter (isKeyL k fs)

theorem askKey_ok {h : Heap} {b2 b3 b8 : Nat} {vf vl : V} {k : Nat} {fs : List Dp} {xs : List Int} {F : List Nat} (h2 : Bx h b2 (vi k)) (h3 : Bx h b3 vf) (h8 : Bx h b8 vl) (hf : SdF h vf fs F) (hl : Sl h vl xs) (hd : DepsIn k fs) (hr : xs.Pairwise (· < ·)) (hin : InK k xs) (hk : k ≤ 2 ^ 10) (n : Int) :
    ∃ h', call p 646 [vi n, .ptr b3 0, .ptr b8 0, .ptr b2 0] h = some (.bool (keyT k fs (lessI xs n)), h') ∧ Keeps h h' ∧ h.length ≤ h'.length := by
  have k1 : Keeps h (h ++ [⟨.own, [vi n]⟩]) := Keeps.append _ _
  have s1 : Sl (h ++ [⟨.own, [vi n]⟩]) (.slice h.length 0 1 (.k 1)) [n] := Sl.lit [n] 1 rfl [vi n] rfl _ (by simp)
  have hlen := rising_len hr hin
  obtain ⟨r2, h4, e2, F2, c2, f2, k2, l2⟩ := without_ok (hl.keeps k1) s1 (by omega)
  have k12 := k1.trans k2
  obtain ⟨r3, h5, e3, G3, c3, k3, l3⟩ := closure_ok (hf.keep k12) c2.sl hd (hr.filter _) (fun x hx => hin x ((List.mem_filter.1 hx).1)) hk
  have k13 := k12.trans k3
  have : ∃ r h', call p 646 [vi n, .ptr b3 0, .ptr b8 0, .ptr b2 0] h = some (r, h') ∧ r = .bool (keyT k fs (lessI xs n)) ∧ Keeps h h' ∧ h.length ≤ h'.length := by
    refine go (fn := g646) rfl rfl fun R hR => ?_
    have t0 := h2.rd
    have t1 := (h2.keep k1).rd
    have t2 := (h2.keep k12).rd
    have t3 := (h2.keep k13).rd
    have u0 := h3.rd
    have u1 := (h3.keep k1).rd
    have u2 := (h3.keep k12).rd
    have u3 := (h3.keep k13).rd
    have w0 := h8.rd
    have w1 := (h8.keep k1).rd
    have w2 := (h8.keep k12).rd
    have w3 := (h8.keep k13).rd
    have hce : decide (((clos k fs (lessI xs n)).length : Int) = (k : Int)) = keyT k fs (lessI xs n) := by simp only [keyT]; congr 1; simp; omega
    have hcl := c3.len
    rw [show xs.filter (fun m => !decide (m ∈ [n])) = lessI xs n from rfl] at *
    generalize keyT k fs (lessI xs n) = q at *
    simp at l2
    simp [g646, t0, t1, t2, t3, u0, u1, u2, u3, w0, w1, w2, w3, fillL, stable, stab1, e2, e3, hcl, hl.cells, hl.cell, hf.cells, hf.cell, hce]
    exact hR _ _ ⟨rfl, k13, by omega⟩
  obtain ⟨_, h', e, rfl, k', l'⟩ := this
  exact ⟨h', e, k', l'⟩
end GL

namespace GL
open Go

theorem lists_get {k m : Nat} (h : m < (listsL k).length) : (listsL k)[m] = bitsOf k m := by simp [listsL]
theorem lists_len (k : Nat) : (listsL k).length = 2 ^ k := by simp [listsL]
theorem OdF.od {α : Type} [Data α] {lo : Nat} {h : Heap} {v : V} {xs : List α} {G : List Nat} (o : OdF lo h v xs G) : Od lo h v xs G := o.1

theorem KeysFor_ok {h : Heap} {v : V} {k : Nat} {fs : List Dp} {F : List Nat} (hf : SdF h v fs F) :
    ∃ r h', call p 612 [vi k, v] h = some (r, h') ∧ ∃ o F', r = .tup [o, .bool (okDps k fs)] ∧ SdF h' o (if okDps k fs = true then keysL k fs else []) F' ∧ Keeps h h' ∧ h.length ≤ h'.length := by
  have ka : Keeps h (h ++ [⟨.own, [vi k]⟩]) := Keeps.append _ _
  have kb : Keeps h (h ++ [⟨.own, [vi k]⟩] ++ [⟨.own, [v]⟩]) := ka.trans (Keeps.append _ _)
  have hb2 : Bx (h ++ [⟨.own, [vi k]⟩] ++ [⟨.own, [v]⟩]) h.length (vi k) := (Bx.last h _).keep (Keeps.append _ _)
  have hb3 : Bx (h ++ [⟨.own, [vi k]⟩] ++ [⟨.own, [v]⟩]) (h.length + 1) v := by
    have := Bx.last (h ++ [⟨.own, [vi k]⟩]) v
    rwa [show (h ++ [⟨.own, [vi k]⟩] : Heap).length = h.length + 1 by simp] at this
  have lb : (h ++ [⟨.own, [vi k]⟩] ++ [⟨.own, [v]⟩] : Heap).length = h.length + 2 := by simp
  obtain ⟨_, h1, e1, rfl, k1, l1⟩ := GoodDeps_ok (hf.keep kb) k
  refine go (fn := g612) rfl rfl fun R hR => ?_
  have rb2 := hb2.rd
  have rb3 := hb3.rd
  cases hg : okDps k fs with
  | false =>
    rw [hg] at e1 hR
    simp only [List.append_assoc, List.cons_append, List.nil_append] at *
    simp [g612, hf.cells, hf.cell, rb2, rb3, e1]
    exact hR _ _ ⟨.nils, [], rfl, .nil, kb.trans k1, by omega⟩
  | true =>
    rw [hg] at e1 hR
    obtain ⟨hk, h8, hd⟩ := okDps_in hg
    have kk1 := kb.trans k1
    have kc : Keeps h1 (h1 ++ [⟨.own, []⟩]) := Keeps.append _ _
    obtain ⟨r2, h2, e2, o2, k2, l2⟩ := allColumns_ok (h := h1 ++ [⟨.own, []⟩]) k (by omega)
    obtain ⟨r3, h3, e3, F3, s3, f3, k3, l3⟩ := lists_ok o2.sl (by omega : k ≤ 10)
    have kd : Keeps h1 h3 := (kc.trans k2).trans k3
    have hl1 : h.length + 2 ≤ h1.length := by omega
    have hl3 : h1.length + 1 ≤ h3.length := by simp at l2; omega
    have hb2' := (hb2.keep k1)
    have hb2c := (hb2'.keep kc).rd
    have hb3' := (hb3.keep k1)
    have hB2 := hb2'.keep kd
    have hB3 := hb3'.keep kd
    have hF3 := hf.keep (kk1.trans kd)
    have hlen3 := lists_len k
    have hp6 : 2 ^ k ≤ 2 ^ 6 := Nat.pow_le_pow_right (by decide) hk.2
    have hF3ge : ∀ b ∈ F3, b ≠ h1.length := fun b hb => by have := f3.ge b hb; simp at l2; omega
    have hFlt : ∀ b ∈ F, b ≠ h1.length := fun b hb => by
      have := hf.ltF hb; omega
    have hF3lt : ∀ b ∈ F3, b < h3.length := fun b hb => s3.ltF hb
    have kbk := kb
    simp only [List.append_assoc, List.cons_append, List.nil_append] at e1 rb2 rb3 k1
    simp [g612, hf.cells, hf.cell, rb2, rb3, e1, hb2c, e2, e3, s3.len]
    refine Wc_upM (M := [6, 8, 9, 19, 20, 21, 22, 23, 24, 25, 26, 27, 28, 29, 30, 31, 32, 33, 34, 35, 36, 37, 38]) rfl (listsL k).length (fun i s => i ≤ (listsL k).length ∧ s.σ 19 = .v (vi i) ∧ KeepsP (fun b => b ≠ h1.length) h3 s.h ∧ h3.length ≤ s.h.length ∧ ∃ v6 G, s.σ 6 = .v v6 ∧ Od h1.length s.h v6 (((listsL k).take i).filter (isKeyL k fs)) G ∧ ∀ b, vB v6 b → b = h1.length ∨ h3.length ≤ b) 0
      ⟨by omega, by simp, KeepsP.refl _ _, Nat.le_refl _, .slice h1.length 0 0 (.k 0), [], by simp, by simpa using Od.empty (α := List Int) (Nat.le_refl _) (by omega), fun b ⟨_, _, _, e⟩ => by cases e; exact .inl rfl⟩ fun i s ⟨gi, g19, hk0, hl0, v6, G, g6, ho, hv⟩ hM J hJ => ?_
    by_cases hn : i < (listsL k).length
    · have s3s := s3.keeps (hk0.mono hF3ge)
      obtain ⟨x, Fx, ex, hx, hxF⟩ := s3s.loadL i hn
      have ix := s3s.idx 1 .i64 i hn
      simp only [Nat.mul_one] at ix
      have st := s3s.step hn
      have hbi := lists_get hn
      have hr : (listsL k)[i].Pairwise (· < ·) := by rw [hbi]; exact bits_ris k i
      have hin : InK k (listsL k)[i] := by rw [hbi]; exact bits_in k i
      have hxl := rising_len hr hin
      have kx : Keeps s.h (s.h ++ [⟨.own, [x]⟩]) := Keeps.append _ _
      have b2s : Bx s.h h.length (vi k) := hB2.keeps hk0 (by omega)
      have b3s : Bx s.h (h.length + 1) v := hB3.keeps hk0 (by omega)
      have fs' : SdF s.h v fs F := hF3.keeps (hk0.mono hFlt)
      have b8s := Bx.last s.h x
      have w0 : wrH (s.h ++ [⟨.own, [.nils]⟩]) s.h.length 0 [x] = some (s.h ++ [⟨.own, [x]⟩]) := wrH_last rfl
      obtain ⟨r4, h4, e4, G4, c4, k4, l4⟩ := closure_ok (fs'.keep kx) (hx.sl.keeps kx) hd hr hin (by omega)
      have hcl := c4.len
      have hcl5 : (clos k fs (listsL k)[i]).length ≤ k := clos_len
      have t2 := (b2s.keep kx).rd
      have t3 := (b3s.keep kx).rd
      have t8 := b8s.rd
      have t2' := ((b2s.keep kx).keep k4).rd
      have t8' := (b8s.keep k4).rd
      have ht := List.take_succ_eq_append_getElem hn
      have kx4 := kx.trans k4
      obtain ⟨_, h5, e5, rfl, k5, l5⟩ := containsIg_ok (hx.sl.keeps kx4) (f := 646) (capt := [.ptr (h.length + 1) 0, .ptr s.h.length 0, .ptr h.length 0]) (q := fun n => keyT k fs (lessI (listsL k)[i] n)) fun h' kh n _ =>
        askKey_ok (h := h') ((b2s.keep kx4).keep kh) ((b3s.keep kx4).keep kh) ((b8s.keep k4).keep kh) ((fs'.keep kx4).keep kh) ((hx.sl.keeps kx4).keeps kh) hd hr hin (by omega) n
      have hkd : isKeyL k fs (listsL k)[i] = (decide ((clos k fs (listsL k)[i]).length = k) && !((listsL k)[i].any fun n => keyT k fs (lessI (listsL k)[i] n))) := rfl
      have fin : ∀ {h' : Heap}, Keeps s.h h' → s.h.length ≤ h'.length → isKeyL k fs (listsL k)[i] = false → KeepsP (fun b => b ≠ h1.length) h3 h' ∧ h3.length ≤ h'.length ∧ Od h1.length h' v6 (((listsL k).take (i + 1)).filter (isKeyL k fs)) G := fun hh hl he => by
        refine ⟨hk0.trans (hh.p _), by omega, ?_⟩
        rw [ht, List.filter_append]
        simp only [List.filter_cons, he, List.filter_nil, List.append_nil, Bool.false_eq_true, if_false]
        exact ho.keeps (hh.p fun _ => True) (fun _ _ => trivial) (fun _ _ => trivial) hl
      simp at l4
      by_cases hc : (clos k fs (listsL k)[i]).length = k
      · have hc1 : ¬ (((clos k fs (listsL k)[i]).length : Int) < (k : Int)) := by omega
        rw [decide_eq_true hc, Bool.true_and] at hkd
        cases ha : (listsL k)[i].any fun n => keyT k fs (lessI (listsL k)[i] n) with
        | true =>
          rw [ha] at e5 hkd
          obtain ⟨q1, q2, q3⟩ := fin (kx4.trans k5) (by omega) hkd
          simp [g612_0, hM, g19, hn, ix, ex, hx.cells, hx.cell, w0, t2, t3, t8, fillL, stable, stab1, e4, t2', hcl, hc1, t8', e5, st, -Int.natCast_add]
          exact hJ _ hn ⟨hn, by simp, q1, q2, v6, G, by simp [g6], q3, hv⟩
        | false =>
          rw [ha] at e5 hkd
          have kx5 := kx4.trans k5
          have t8'' := ((b8s.keep k4).keep k5).rd
          have kx6 : Keeps h5 (h5 ++ [⟨.own, [x]⟩]) := Keeps.append _ _
          have kx7 := kx5.trans kx6
          have o5 : Od h1.length (h5 ++ [⟨.own, [x]⟩]) v6 (((listsL k).take i).filter (isKeyL k fs)) G := ho.keeps (kx7.p fun _ => True) (fun _ _ => trivial) (fun _ _ => trivial) (by simp; omega)
          have hfl : (((listsL k).take i).filter (isKeyL k fs)).length ≤ 2 ^ 6 := Nat.le_trans (List.length_filter_le ..) (by rw [List.length_take]; omega)
          obtain ⟨v', h7, e7, o7, k7, l7, vb7⟩ := o5.app (zs := [(listsL k)[i]]) (ys := [x]) (G := Fx) (by simp) (.one ⟨x, rfl, hx.keep kx7⟩) (fun b hb hvb => by
            have h1' := hF3lt b (hxF b hb)
            have h2' := hF3ge b (hxF b hb)
            rcases hv b hvb with h | h <;> omega) (bytes := 24) (by decide) (by simp; omega) (k := 1) (n := 1) rfl rfl
          simp [g612_0, hM, g19, g6, hn, ix, ex, hx.cells, hx.cell, w0, t2, t3, t8, fillL, stable, stab1, e4, t2', hcl, hc1, t8', e5, t8'', rdS_last, e7, st, -Int.natCast_add]
          simp at l7
          refine hJ _ hn ⟨hn, by simp, fun b blk hb hbl hst => ?_, by show h3.length ≤ h7.length; omega, v', G ++ Fx, by simp, ?_, fun b hb => .inr ?_⟩
          · have hbl3 := get_lt hbl
            exact k7 b blk (fun hvb => by rcases hv b hvb with h | h <;> omega) (kx7 _ _ (hk0 b blk hb hbl hst) hst) hst
          · rw [ht, List.filter_append]
            simp only [List.filter_cons, hkd, List.filter_nil, if_true]
            exact o7
          · have := vb7 b hb; simp at this; omega
      · have hc1 : (((clos k fs (listsL k)[i]).length : Int) < (k : Int)) := by omega
        rw [decide_eq_false hc, Bool.false_and] at hkd
        obtain ⟨q1, q2, q3⟩ := fin kx4 (by omega) hkd
        simp [g612_0, hM, g19, hn, ix, ex, hx.cells, hx.cell, w0, t2, t3, t8, fillL, stable, stab1, e4, t2', hcl, hc1, st, -Int.natCast_add]
        exact hJ _ hn ⟨hn, by simp, q1, q2, v6, G, by simp [g6], q3, hv⟩
    · rw [List.take_of_length_le (by omega)] at ho
      obtain ⟨F', sF, _⟩ := ho.sd
      simp [g612_0, hM, g19, hn, g6]
      refine hR _ _ ⟨v6, F', rfl, sF, fun b blk hb hst => ?_, by omega⟩
      have := get_lt hb
      exact hk0 b blk (by omega) (kd _ _ (kk1 _ _ hb hst) hst) hst
end GL

namespace GL
open Go

theorem bits64 : ∀ m < 64, ∀ i < 6, Nat.testBit m i = true → 2 ^ i ≤ m ∧ ∀ j < 6, (m - 2 ^ i).testBit j = (m.testBit j && decide (j ≠ i)) := by decide +kernel
theorem less_bits {k m i : Nat} (hk : k ≤ 6) (hm : m < 2 ^ k) (hi : i < k) (hb : m.testBit i = true) : 2 ^ i ≤ m ∧ bitsOf k (m - 2 ^ i) = lessI (bitsOf k m) i := by
  have hp : 2 ^ k ≤ 2 ^ 6 := Nat.pow_le_pow_right (by decide) hk
  obtain ⟨h1, h2⟩ := bits64 m (by omega) i (by omega) hb
  refine ⟨h1, rising_ext (bits_ris _ _) ((bits_ris _ _).filter _) fun x => ?_⟩
  rw [mem_bits, lessI, List.mem_filter, mem_bits]
  constructor
  · rintro ⟨h3, h4⟩
    rw [h2 _ (by omega)] at h4
    simp at h4
    refine ⟨⟨h3, h4.1⟩, ?_⟩
    simp; intro hx; exact h4.2 (by omega)
  · rintro ⟨⟨h3, h4⟩, h5⟩
    refine ⟨h3, ?_⟩
    rw [h2 _ (by omega), h4]
    simp at h5 ⊢
    omega
noncomputable def okAt (k : Nat) (fs : List Dp) (m i : Nat) : Bool := keyT k fs (bitsOf k m) && (List.range i).all fun j => !m.testBit j || !keyT k fs (bitsOf k (m - 2 ^ j))
theorem okAt_succ (k : Nat) (fs : List Dp) (m i : Nat) : okAt k fs m (i + 1) = (okAt k fs m i && (!m.testBit i || !keyT k fs (bitsOf k (m - 2 ^ i)))) := by
  simp [okAt, List.range_succ, List.all_append, Bool.and_assoc]
theorem okAt_key {k m : Nat} {fs : List Dp} (hk : k ≤ 6) (hm : m < 2 ^ k) : okAt k fs m k = isKeyL k fs (bitsOf k m) := by
  unfold okAt isKeyL
  congr 1
  rw [Bool.eq_iff_iff]
  simp only [List.all_eq_true, List.mem_range, Bool.or_eq_true, Bool.not_eq_true', List.any_eq_false]
  constructor
  · intro h x hx
    obtain ⟨h1, h2⟩ := mem_bits.1 hx
    have h3 := h x.toNat (by omega)
    obtain ⟨_, h5⟩ := less_bits hk hm (by omega) h2
    rw [h5, h2] at h3
    have hx' : ((x.toNat : Nat) : Int) = x := by omega
    rw [hx'] at h3
    simpa using h3
  · intro h j hj
    cases hb : m.testBit j with
    | false => exact .inl rfl
    | true =>
      obtain ⟨_, h5⟩ := less_bits hk hm hj hb
      have h6 := h j (mem_bits.2 ⟨by omega, by simpa using hb⟩)
      rw [h5]
      exact .inr (by simpa using h6)

theorem boolsNew {h : Heap} (N : Nat) (hN : N < 2 ^ 20) : SdF (h ++ [⟨.own, (List.replicate N [V.bool false]).flatten⟩]) (.slice h.length 0 N (.k N)) (List.replicate N false) [h.length] := by
  have hr : Reps h (List.replicate N false) ((List.replicate N [V.bool false]).flatten) [] := Reps.flat.2 ⟨by simp [flats, Flat.cells, List.flatMap], rfl⟩
  exact SdF.lit hr N (by simp) (by simp; omega)
end GL

namespace GL
open Go

theorem KeysForS_ok {h : Heap} {v : V} {k : Nat} {fs : List Dp} {F : List Nat} (hf : SdF h v fs F) :
    ∃ r h', call p 613 [vi k, v] h = some (r, h') ∧ ∃ o F', r = .tup [o, .bool (okDps k fs)] ∧ SdF h' o (if okDps k fs = true then keysL k fs else []) F' ∧ Keeps h h' ∧ h.length ≤ h'.length := by
  have e1 := GoodDepsS_eq hf k
  refine go (fn := g613) rfl rfl fun R hR => ?_
  cases hg : okDps k fs with
  | false =>
    rw [hg] at e1 hR
    simp [g613, hf.cells, hf.cell, e1]
    exact hR _ _ ⟨.nils, [], rfl, .nil, Keeps.refl _, Nat.le_refl _⟩
  | true =>
    rw [hg] at e1 hR
    obtain ⟨hk, h8, hd⟩ := okDps_in hg
    have wu : IntKind.u64.wrap (k : Int) = k := by rw [IntWalk.u64_in]; omega
    have el := shl_v (k' := .u64) k (by omega)
    have hp6 : 2 ^ k ≤ 2 ^ 6 := Nat.pow_le_pow_right (by decide) hk.2
    have hN0 : keysL k fs = ((List.range (2 ^ k)).filter fun m => isKeyL k fs (bitsOf k m)).map (bitsOf k) := by
      rw [keysL, listsL, List.filter_map]; rfl
    have hkey : ∀ m : Nat, m < 2 ^ k → okAt k fs m k = isKeyL k fs (bitsOf k m) := fun m hm => okAt_key hk.2 hm
    have hsub : ∀ m : Nat, m < 2 ^ k → ∀ i : Nat, i < k → m.testBit i = true → 2 ^ i ≤ m := fun m hm i hi hb => (less_bits hk.2 hm hi hb).1
    have hbl : ∀ m : Nat, m < 2 ^ k → ∀ h : Heap, ∃ r h', call p 648 [vi m] h = some (r, h') ∧ Out h.length h' r (bitsOf k m) ∧ Keeps h h' ∧ h.length ≤ h'.length := fun m hm h => l5List_ok hm (by omega)
    rw [hN0] at hR
    generalize (2 : Nat) ^ k = N at *
    have sb := boolsNew (h := h) N (by omega)
    have k0 : Keeps h (h ++ [⟨.own, (List.replicate N [V.bool false]).flatten⟩]) := Keeps.append _ _
    have hFlt : ∀ b ∈ F, b ≠ h.length := fun b hb => by have := hf.ltF hb; omega
    have ob0 : OwnB (h ++ [⟨.own, (List.replicate N [V.bool false]).flatten⟩]) h.length := ⟨_, get_last _ _⟩
    have r1 : (N : Int) * 1 ≤ room := by unfold room; omega
    have r2 : (N : Int) ≤ room := by unfold room; omega
    obtain ⟨cs0, hcs0⟩ : ∃ cs0, cs0 = (List.replicate N [V.bool false]).flatten := ⟨_, rfl⟩
    rw [← hcs0] at sb k0 ob0
    simp [g613, -binV_int, bv_lss, bv_add, hf.cells, hf.cell, e1, wu, el, r1, r2, ← hcs0]
    refine Wc_upM (M := [7, 22, 23, 24, 25, 26, 27, 28, 29, 30, 31, 32, 33, 34, 35]) rfl N (fun m s => m ≤ N ∧ s.σ 22 = .v (vi m) ∧ KeepsP (fun b => b ≠ h.length) (h ++ [⟨.own, cs0⟩]) s.h ∧ h.length + 1 ≤ s.h.length ∧ OwnB s.h h.length ∧ ∃ bs : List Bool, bs.length = N ∧ SdF s.h (.slice h.length 0 N (.k N)) bs [h.length] ∧ ∀ j (hj : j < bs.length), j < m → bs[j] = keyT k fs (bitsOf k j)) 0
      ⟨by omega, by simp, KeepsP.refl _ _, by simp, ob0, List.replicate N false, by simp, sb, fun _ _ h => by omega⟩ fun m s ⟨gm, g22, hk0, hl0, hob, bs, hbl1, sbs, hbs⟩ hM J hJ => ?_
    have w1 : IntKind.i64.wrap ((m : Int) + 1) = (m + 1 : Nat) := by rw [IntWalk.i64_in] <;> omega
    have fk : ∀ {g : Heap}, KeepsP (fun b => b ≠ h.length) (h ++ [⟨.own, cs0⟩]) g → SdF g v fs F := fun hg => (hf.keep k0).keeps (hg.mono hFlt)
    by_cases hm : m < N
    · have hmb : m < bs.length := by omega
      obtain ⟨r3, h3, e3, o3, k3, l3⟩ := hbl m hm s.h
      have fs3 := (fk hk0).keep k3
      obtain ⟨r4, h4, e4, G4, c4, k4, l4⟩ := l5Closure_ok fs3 o3.sl hd (bits_ris k m) (bits_in k m) (by omega)
      have hcl := c4.len
      have k34 := k3.trans k4
      have sb4 := sbs.keep k34
      obtain ⟨h5, e5, s5, q2, q3, q4⟩ := sb4.putF (x' := keyT k fs (bitsOf k m)) (o := 0) (ys := [.bool (keyT k fs (bitsOf k m))]) (hob.keep k34) hmb (by simp [Flat.cells, lay])
      have ix : idxV 1 (.slice h.length 0 N (.k N)) (.int .i64 m) = some (.ptr h.length m) := by
        have := sbs.idx 1 .i64 m hmb; simpa [bOf, oOf] using this
      have e5' : wrH h4 h.length m [.bool (keyT k fs (bitsOf k m))] = some h5 := by simpa [bOf, oOf, Flat.sz] using e5
      have hce : decide (((clos k fs (bitsOf k m)).length : Int) = (k : Int)) = keyT k fs (bitsOf k m) := by simp only [keyT]; congr 1; simp; omega
      have cst : ∀ q, (V.bool q).cells = [V.bool q] := fun _ => rfl
      simp [g613_0, -binV_int, bv_lss, bv_add, bv_eql, hM, g22, hm, e3, e4, hcl, hce, ix, e5', w1, -Int.natCast_add]
      refine hJ _ hm ⟨hm, by simp, (hk0.trans (k34.p _)).trans (q2.mono fun b hb => hb), by show h.length + 1 ≤ h5.length; omega, q4 _ (hob.keep k34), _, by simp [hbl1], s5, fun j hj hjm => ?_⟩
      simp only [List.length_set] at hj
      rw [List.getElem_set]
      by_cases e : m = j
      · subst e; simp
      · rw [if_neg e]; exact hbs j hj (by omega)
    · have : m = N := by omega
      subst this
      simp [g613_0, -binV_int, bv_lss, hM, g22]
      have hA := hk0
      refine Wc_upM (M := [8, 9, 10, 11, 38, 39, 40, 41, 42, 43, 44, 45, 46, 47, 48, 49, 50, 51, 52, 53, 54, 55, 56, 57, 58, 59, 60, 61, 62, 63, 64, 65, 66, 67, 68, 69, 70, 71, 72, 73, 74]) rfl m (fun i s' => i ≤ m ∧ s'.σ 38 = .v (vi i) ∧ Keeps s.h s'.h ∧ s.h.length ≤ s'.h.length ∧ ∃ v8 G, s'.σ 8 = .v v8 ∧ OdF s.h.length s'.h v8 (((List.range i).filter fun m => isKeyL k fs (bitsOf k m)).map (bitsOf k)) G) 0
        ⟨by omega, by simp, Keeps.refl _, Nat.le_refl _, .nils, [], by simp, by simpa using OdF.nil (Nat.le_refl _)⟩ fun i s' ⟨gi, g38, hk1, hl1, v8, G, g8, ho⟩ hM' J' hJ' => ?_
      by_cases hi : i < m
      · have hib : i < bs.length := by omega
        have sbs1 := (sbs.keep hk1).sl
        have w2 : IntKind.i64.wrap ((i : Int) + 1) = (i + 1 : Nat) := by rw [IntWalk.i64_in] <;> omega
        have ix : ∀ q (hq : q < m), idxV 1 (.slice h.length 0 m (.k m)) (.int .i64 q) = some (.ptr h.length q) := fun q hq => by
          have := sbs.idx 1 .i64 q (by omega); simpa [bOf, oOf] using this
        have ld : ∀ q (hq : q < m), rdH s'.h h.length q 1 = some [.bool (keyT k fs (bitsOf k q))] := fun q hq => by
          have := sbs1.loadT q (by omega)
          rw [hbs q (by omega) hq] at this
          simpa [bOf, oOf] using this
        have hts : ((List.range (i + 1)).filter fun m => isKeyL k fs (bitsOf k m)).map (bitsOf k) = ((List.range i).filter fun m => isKeyL k fs (bitsOf k m)).map (bitsOf k) ++ (if isKeyL k fs (bitsOf k i) = true then [bitsOf k i] else []) := by
          rw [List.range_succ, List.filter_append, List.map_append]
          congr 1
          cases hq : isKeyL k fs (bitsOf k i) <;> simp [hq]
        simp [g613_2, -binV_int, bv_lss, hM', hM, g38, hi, ix i hi, ld i hi]
        refine Wc_upM (M := [10, 11, 43, 44, 45, 46, 47, 48, 49, 50, 51, 52, 53, 54, 55, 56, 57, 58, 59, 60, 61, 62, 63, 64, 65, 66, 67]) rfl k (fun j t => j ≤ k ∧ t.σ 11 = .v (vi j) ∧ t.h = s'.h ∧ t.σ 10 = .v (.bool (okAt k fs i j))) 0
          ⟨by omega, by simp, rfl, by simp [okAt]⟩ fun j t ⟨gj, g11, gh, g10⟩ hM2 J2 hJ2 => ?_
        by_cases hj : j < k
        · have wj : IntKind.u64.wrap (j : Int) = j := by rw [IntWalk.u64_in]; omega
          have w3 : IntKind.i64.wrap ((j : Int) + 1) = (j + 1 : Nat) := by rw [IntWalk.i64_in] <;> omega
          have f1 := shr_v (k' := .u64) i j (by omega)
          have f2 := and_v (i / 2 ^ j) (by have := Nat.div_le_self i (2 ^ j); omega)
          have f3 : i / 2 ^ j % 2 = if i.testBit j = true then 1 else 0 := by
            rw [← tb_v]; generalize i / 2 ^ j = q
            rcases Nat.mod_two_eq_zero_or_one q with h | h <;> simp [h]
          have f4 := shl_v (k' := .u64) j (by omega)
          have hsc := okAt_succ k fs i j
          have hsj := hsub i hi j hj
          generalize hq : i / 2 ^ j = q at *
          generalize hP : (2 : Nat) ^ j = P at *
          cases h10 : okAt k fs i j with
          | false =>
            rw [h10] at g10 hsc
            simp [g613_1, -binV_int, bv_lss, bv_eql, bv_add, hM2, hM', hM, g11, hj, g10, w3, -Int.natCast_add]
            exact hJ2 _ hj ⟨hj, by simp, by exact gh, by simp [hsc]⟩
          | true =>
            rw [h10] at g10 hsc
            cases hb : i.testBit j with
            | false =>
              rw [hb] at f3 hsc
              rw [f3, if_neg (by simp)] at f2
              simp [g613_1, -binV_int, bv_lss, bv_eql, bv_add, hM2, hM', hM, g11, hj, g10, wj, f1, f2, w3, -Int.natCast_add, -Int.natCast_emod]
              exact hJ2 _ hj ⟨hj, by simp, by exact gh, by simp [hsc]⟩
            | true =>
              rw [hb] at f3 hsc
              rw [f3, if_pos rfl] at f2
              have hle := hsj hb
              have w4 : IntKind.i64.wrap ((i : Int) - (P : Int)) = (i - P : Nat) := by rw [IntWalk.i64_in] <;> omega
              have hlt : i - P < m := by omega
              have ix2 := ix (i - P) hlt
              have ld2 := ld (i - P) hlt
              rw [← gh] at ld2
              generalize keyT k fs (bitsOf k (i - P)) = kt at *
              generalize i - P = z at *
              simp [g613_1, -binV_int, bv_lss, bv_eql, bv_add, bv_sub, hM2, hM', hM, g11, hj, g10, wj, f1, f2, f4, w4, ix2, ld2, w3, -Int.natCast_add, -Int.natCast_emod]
              exact hJ2 _ hj ⟨hj, by simp, by exact gh, by simp [hsc]⟩
        · have : j = k := by omega
          subst this
          have hkk := hkey i hi
          rw [hkk] at g10
          cases hq : isKeyL j fs (bitsOf j i) with
          | false =>
            rw [hq] at g10 hts
            simp [g613_1, -binV_int, bv_lss, bv_add, hM2, hM', hM, g11, g10, g38, g8, w2, -Int.natCast_add]
            refine hJ' _ hi ⟨hi, by simp, by rw [gh]; exact hk1, by rw [gh]; exact hl1, v8, G, by simp [hM2, g8], ?_⟩
            rw [hts]; simp [gh]; exact ho
          | true =>
            rw [hq] at g10 hts
            obtain ⟨r5, h5, e5, o5, k5, l5⟩ := hbl i hi s'.h
            obtain ⟨F5, s5, f5⟩ := o5.fr
            have hrl : (((List.range i).filter fun m => isKeyL j fs (bitsOf j m)).map (bitsOf j)).length ≤ 2 ^ 6 := by
              rw [List.length_map]; exact Nat.le_trans (List.length_filter_le ..) (by simp; omega)
            obtain ⟨v', h6, e6, o6, kf, l6⟩ := ho.one k5 l5 f5 (x := bitsOf j i) (cs := [r5]) ⟨r5, rfl, s5⟩ (by omega) (k := 1) (bytes := 24) rfl (by decide)
            rw [← gh] at e5
            simp [g613_1, -binV_int, bv_lss, bv_add, hM2, hM', hM, g11, g10, g38, g8, e5, s5.cells, s5.cell, fillL, rdS_last, e6, w2, -Int.natCast_add]
            refine hJ' _ hi ⟨hi, by simp, kf s.h hk1 (Nat.le_refl _), by show s.h.length ≤ h6.length; omega, v', G ++ F5, by simp, ?_⟩
            rw [hts]; simp; exact o6
      · have : i = m := by omega
        subst this
        obtain ⟨F', sF, _⟩ := ho.fresh
        simp [g613_2, -binV_int, bv_lss, hM', g38, g8]
        refine hR _ _ ⟨v8, F', rfl, sF, fun b blk hb hst => ?_, by omega⟩
        have := get_lt hb
        exact hk1 _ _ (hk0 _ _ (by omega) (k0 _ _ hb hst) hst) hst
end GL

namespace GL
open Go

/-- a list of dependencies, laid anew (its parts stand) -/
theorem appDp {h : Heap} {v : V} {xs : List Dp} {F : List Nat} (hs : SdF h v xs F) (hl : xs.length ≤ 2 ^ 20) :
    ∃ cs r h', rdS (h ++ [⟨.own, []⟩]) 2 v xs.length = some cs ∧ appH 2 48 (.slice h.length 0 0 (.k 0)) xs.length cs (h ++ [⟨.own, []⟩]) = some (r, h') ∧ (∃ F', SdF h' r xs F') ∧ Keeps h h' ∧ h.length ≤ h'.length ∧
      (0 < xs.length → ∃ b G, r = .slice b 0 xs.length (.o 2) ∧ h'[b]? = some ⟨.own, cs⟩ ∧ Reps h' xs cs G ∧ h.length ≤ b ∧ b ∉ G) := by
  have k0 : Keeps h (h ++ [⟨.own, []⟩]) := Keeps.append _ _
  obtain ⟨cs, G, e0, hr, hG⟩ := (hs.keep k0).rdS
  refine ⟨cs, ?_⟩
  by_cases h0 : 0 < xs.length
  · have ho : Od h.length (h ++ [⟨.own, []⟩]) (.slice h.length 0 0 (.k 0)) ([] : List Dp) [] := Od.empty (Nat.le_refl _) (by simp)
    obtain ⟨v', h', e1, o1, k1, l1, b1⟩ := ho.app h0 hr (fun b hb ⟨_, _, _, e⟩ => by cases e; have := hs.ltF (hG _ hb); omega) (bytes := 48) (by decide) (by simp; omega) (k := 2) rfl rfl
    have kk : Keeps h h' := fun b blk hb hst => by
      have := get_lt hb
      exact k1 b blk (fun ⟨_, _, _, e⟩ => by cases e; omega) (k0 _ _ hb hst) hst
    obtain ⟨q1, q2, ⟨rfl, q3, _⟩ | ⟨b, cs', rfl, hb, hlb, hr', hn'⟩ | ⟨b, _, q3, _⟩⟩ := o1
    · simp at q3; rw [q3] at h0; simp at h0
    · simp only [List.nil_append] at *
      have hbb := b1 b ⟨_, _, _, rfl⟩
      have hcs : cs' = cs := by
        have h1 := appH_first (H := h ++ [⟨.own, []⟩]) (b := h.length) (k := 2) (n := xs.length) (bytes := 48) (ys := cs) h0 hl (by decide)
        rw [h1] at e1
        injection e1 with e1
        injection e1 with e2 e3
        rw [← e3, hbb] at hb
        have h2 : ((h ++ [⟨.own, []⟩]) ++ [⟨.own, cs⟩] : Heap)[(h ++ [⟨.own, []⟩] : Heap).length]? = some ⟨.own, cs⟩ := get_last _ _
        rw [h2] at hb
        cases hb; rfl
      subst hcs
      have hsd : SdF h' (.slice b 0 xs.length (.o 2)) xs (b :: G) := ⟨by omega, .inr ⟨b, 0, _, rfl, rfl, .inr ⟨_, cs', G, rfl, hb, by simp, by
        have := hr'.len
        simp only [cut, Nat.zero_add, List.drop_zero]
        rw [if_pos (by rw [this]; exact Nat.le_refl _), ← this, List.take_length], hr'⟩⟩⟩
      refine ⟨_, h', e0, e1, ⟨_, hsd⟩, kk, by simp at l1; omega, fun _ => ⟨b, G, rfl, hb, hr', hlb, hn'⟩⟩
    · simp at q3; rw [q3] at h0; simp at h0
  · have hx : xs = [] := List.length_eq_zero_iff.1 (by omega)
    subst hx
    have hc := hr.len
    simp at hc
    subst hc
    exact ⟨.slice h.length 0 0 (.k 0), _, e0, by simp [appH, lenV], ⟨[], ⟨by simp, .inr ⟨h.length, 0, .k 0, rfl, Nat.le_refl _, .inl ⟨rfl, rfl⟩⟩⟩⟩, k0, by simp, fun h => by simp at h⟩
theorem cloneDp_ok {h : Heap} {v : V} {xs : List Dp} {F : List Nat} (hs : SdF h v xs F) (hl : xs.length ≤ 2 ^ 20) :
    ∃ r h', call p 650 [v] h = some (r, h') ∧ (∃ F', SdF h' r xs F') ∧ Keeps h h' ∧ h.length ≤ h'.length ∧
      (0 < xs.length → ∃ b cs G, r = .slice b 0 xs.length (.o 2) ∧ h'[b]? = some ⟨.own, cs⟩ ∧ Reps h' xs cs G ∧ h.length ≤ b ∧ b ∉ G) := by
  obtain ⟨cs, r, h', e1, e2, q1, q2, q3, q4⟩ := appDp hs hl
  refine go (fn := g650) rfl rfl fun R hR => ?_
  have hlen := hs.len
  have hs' := hs
  obtain ⟨_, ⟨rfl, rfl, _⟩ | ⟨b, off, cap, rfl, _⟩⟩ := hs'
  · simp [g650]
    exact hR _ _ ⟨⟨[], SdF.nil⟩, Keeps.refl _, Nat.le_refl _, fun h => by simp at h⟩
  · simp [g650, fillL, e1, e2]
    refine hR _ _ ⟨q1, q2, q3, fun h => ?_⟩
    obtain ⟨b, G, w⟩ := q4 h
    exact ⟨b, cs, G, w⟩

def cutAt (xs : List Dp) (i : Nat) : List Dp := xs.take i ++ xs.drop (i + 1)
theorem deleteDp_ok {h : Heap} {b n : Nat} {l : List Dp} {cs : List V} {G : List Nat} (hd : h[b]? = some ⟨.own, cs⟩) (hr : Reps h l cs G) (hbG : b ∉ G) (hln : l.length = n) {i : Nat} (hi : i < n) (hl : n ≤ 2 ^ 20) :
    ∃ r h', call p 651 [.slice b 0 n (.o 2), vi i, vi (i + 1 : Nat)] h = some (r, h') ∧ (∃ F', SdF h' r (cutAt l i) F') ∧ KeepsP (fun c => c ≠ b) h h' ∧ h'.length = h.length := by
  have hcl := hr.len
  rw [show Data.sz Dp = 2 from rfl] at hcl
  obtain ⟨F1, F2, F3, hG, r2, r1, r3⟩ := hr.get i (by omega)
  rw [show Data.sz Dp = 2 from rfl] at r1 r2 r3
  have hblt := get_lt hd
  have hdl : (cs.drop ((i + 1) * 2)).length = (n - (i + 1)) * 2 := by simp; omega
  obtain ⟨ds', hds'⟩ : ∃ x, x = cs.take (i * 2) ++ cs.drop ((i + 1) * 2) ++ cs.drop (i * 2 + (n - (i + 1)) * 2) := ⟨_, rfl⟩
  have hl1 : ds'.length = cs.length := by rw [hds']; simp; omega
  have c13 : slcV 2 (.slice b 0 n (.o 2)) (some i) (some (i + 1)) (some n) = some (.slice b (if n = i then 0 else 0 + i * 2) (i + 1 - i) (.k (n - i))) := by
    simp only [slcV, Option.getD_some]; rw [if_pos ⟨by omega, by omega, Nat.le_refl _⟩]
  have c22 : slcV 2 (.slice b 0 n (.o 2)) none (some i) none = some (.slice b (0 + 0 * 2) (i - 0) (.o 2)) := by
    simp only [slcV, Option.getD_some, Option.getD_none]; rw [if_pos ⟨trivial, by omega, by omega⟩]
  have c25 : slcV 2 (.slice b 0 n (.o 2)) (some (i + 1)) none none = some (.slice b (0 + (i + 1) * 2) (n - (i + 1)) (.o 2)) := by
    simp only [slcV, Option.getD_some, Option.getD_none]; rw [if_pos ⟨trivial, by omega, by omega⟩]
  have hrd : rdS h 2 (.slice b (0 + (i + 1) * 2) (n - (i + 1)) (.o 2)) (n - (i + 1)) = some (cs.drop ((i + 1) * 2)) := by
    simp only [rdS, Nat.le_refl, if_true]
    split
    · rename_i h0
      rw [List.drop_of_length_le (by omega)]
    · simp only [rdH, hd, cut]
      rw [if_neg (by simp), if_pos (by omega), Nat.zero_add, ← hdl, List.take_length]
  obtain ⟨h1, e26, d1, k1, l1⟩ : ∃ h1, appH 2 48 (.slice b (0 + 0 * 2) (i - 0) (.o 2)) (n - (i + 1)) (cs.drop ((i + 1) * 2)) h = some (.slice b 0 (n - 1) (.o 2), h1) ∧ h1[b]? = some ⟨.own, ds'⟩ ∧ KeepsP (fun c => c ≠ b) h h1 ∧ h1.length = h.length := by
    by_cases h0 : n - (i + 1) = 0
    · refine ⟨h, ?_, ?_, KeepsP.refl _ _, rfl⟩
      · rw [h0]; simp [appH, lenV_s]; omega
      · rw [hd, hds', List.drop_of_length_le (i := (i + 1) * 2) (by omega), h0]; simp
    · refine ⟨h.set b ⟨.own, ds'⟩, ?_, by simp [hblt], fun c blk hc hb2 _ => by rw [List.getElem?_set_ne (Ne.symm hc)]; exact hb2, by simp⟩
      simp only [appH, hd]
      rw [if_neg h0, if_pos ⟨trivial, trivial, by decide⟩, if_pos (by omega), wrH_at hd rfl]
      have : lay cs (0 + 0 * 2 + (i - 0) * 2) (cs.drop ((i + 1) * 2)) = some ds' := by
        unfold lay; rw [if_pos (by omega), hdl, hds']; simp
      rw [this]
      simp only [Option.bind_some, Option.some.injEq, Prod.mk.injEq, V.slice.injEq, and_true, true_and]
      omega
  have e31 : rop (.sliceX 2) [.v (.slice b 0 (n - 1) (.o 2)), .v (.int .i64 ((n - 1 : Nat) : Int)), .v (.int .i64 (n : Int))] h1 = some (.slice b (0 + (n - 1) * 2) (n - (n - 1)) (.o 2)) := by
    simp only [rop, natV_i, d1]
    rw [if_pos (by omega), if_pos (by omega)]
    simp only [Option.bind_some, Int.toNat_natCast]
    rw [if_pos ⟨trivial, by omega, trivial, by decide, by omega⟩]
  obtain ⟨ds2, hds2⟩ : ∃ x, x = ds'.take ((n - 1) * 2) ++ [V.nils, V.nils] ++ ds'.drop ((n - 1) * 2 + 2) := ⟨_, rfl⟩
  have h1lt : b < h1.length := by omega
  have e32 : eop (call p) (.clear 2 [.nils, .nils]) [.v (.slice b (0 + (n - 1) * 2) (n - (n - 1)) (.o 2))] h1 = some (.tup [], h1.set b ⟨.own, ds2⟩) := by
    rw [eop_clear, if_neg (by omega), show n - (n - 1) = 1 by omega]
    simp only [List.replicate, List.flatten_cons, List.flatten_nil, List.append_nil]
    rw [wrH_at d1 rfl]
    have : lay ds' (0 + (n - 1) * 2) [V.nils, V.nils] = some ds2 := by
      unfold lay; rw [if_pos (by simp; omega), hds2]; simp
    rw [this]; rfl
  have hl2 : ds2.length = cs.length := by rw [hds2]; simp; omega
  have htk : ds2.take ((n - 1) * 2) = cs.take (i * 2) ++ cs.drop ((i + 1) * 2) := by
    rw [hds2, List.append_assoc, List.take_append_of_le_length (by simp; omega), List.take_take, Nat.min_self, hds', List.take_append_of_le_length (by simp; omega), List.take_of_length_le (by simp; omega)]
  have kk : KeepsP (fun c => c ≠ b) h (h1.set b ⟨.own, ds2⟩) := k1.trans fun c blk hc hb2 _ => by rw [List.getElem?_set_ne (Ne.symm hc)]; exact hb2
  simp only [Nat.zero_mul, Nat.add_zero, Nat.zero_add, Nat.sub_zero] at c13 c22 c25 hrd e26 e31 e32
  have w1 : ¬ (i : Int) = ((i + 1 : Nat) : Int) := by omega
  refine go (fn := g651) rfl rfl fun R hR => ?_
  simp [g651, bounds, takeB, c13, c22, c25, w1, hrd, e26, e31, e32, -Int.natCast_add]
  have hsub : ∀ c ∈ F1 ++ F3, c ∈ G := fun c hc => by rw [hG]; simp at hc ⊢; rcases hc with h | h <;> simp [h]
  have hkG : KeepsP (fun c => c ∈ F1 ++ F3) h (h1.set b ⟨.own, ds2⟩) := kk.mono fun c hc e => hbG (by rw [← e]; exact hsub c hc)
  have hlc : (cutAt l i).length = n - 1 := by simp [cutAt]; omega
  refine hR _ _ ⟨⟨b :: (F1 ++ F3), ⟨by omega, .inr ⟨b, 0, .o 2, by rw [hlc], rfl, .inr ⟨⟨.own, ds2⟩, cs.take (i * 2) ++ cs.drop ((i + 1) * 2), F1 ++ F3, rfl, by simp [h1lt], by simp, ?_, (r1.append r3).keeps hkG⟩⟩⟩⟩, kk, by simp; omega⟩
  rw [hlc, show Data.sz Dp = 2 from rfl]
  unfold cut
  rw [if_pos (by show 0 + (n - 1) * 2 ≤ ds2.length; omega)]
  show some ((ds2.drop 0).take ((n - 1) * 2)) = _
  rw [List.drop_zero, htk]
end GL

namespace GL
open Go

noncomputable def covF (k : Nat) : Nat → List Dp → Nat → List Dp
  | 0, cur, _ => cur
  | m + 1, cur, i => match cur[i]? with
    | none => cur
    | some f => if impD k (cutAt cur i) f = true then covF k m (cutAt cur i) i else covF k m cur (i + 1)
noncomputable def covL (k : Nat) (fs : List Dp) : List Dp := covF k fs.length fs 0
theorem cutAt_len {xs : List Dp} {i : Nat} (hi : i < xs.length) : (cutAt xs i).length = xs.length - 1 := by simp [cutAt]; omega
theorem cutAt_sub {xs : List Dp} {i : Nat} : ∀ f ∈ cutAt xs i, f ∈ xs := fun f hf => by
  rcases List.mem_append.1 hf with h | h
  · exact List.mem_of_mem_take h
  · exact List.mem_of_mem_drop h
theorem cutAt_mem {xs : List Dp} {i : Nat} (hi : i < xs.length) {f : Dp} (hf : f ∈ xs) : f ∈ cutAt xs i ∨ f = xs[i] := by
  have : xs = xs.take i ++ xs[i] :: xs.drop (i + 1) := by rw [← List.drop_eq_getElem_cons hi, List.take_append_drop]
  rw [this] at hf
  rcases List.mem_append.1 hf with h | h
  · exact .inl (List.mem_append_left _ h)
  · rcases List.mem_cons.1 h with h | h
    · exact .inr h
    · exact .inl (List.mem_append_right _ h)
theorem DepsIn.sub {k : Nat} {fs gs : List Dp} (h : DepsIn k fs) (hs : ∀ f ∈ gs, f ∈ fs) : DepsIn k gs := fun f hf => h f (hs f hf)
theorem covF_len (k : Nat) : ∀ (m : Nat) (cur : List Dp) (i : Nat), (covF k m cur i).length ≤ cur.length
  | 0, _, _ => Nat.le_refl _
  | m + 1, cur, i => by
    rw [covF]
    split
    · exact Nat.le_refl _
    · rename_i f hf
      have hi : i < cur.length := (List.getElem?_eq_some_iff.1 hf).1
      split
      · have := covF_len k m (cutAt cur i) i
        rw [cutAt_len hi] at this; omega
      · exact covF_len k m cur (i + 1)
theorem covF_sub (k : Nat) : ∀ (m : Nat) (cur : List Dp) (i : Nat), ∀ f ∈ covF k m cur i, f ∈ cur
  | 0, _, _, f, hf => hf
  | m + 1, cur, i, f, hf => by
    rw [covF] at hf
    split at hf
    · exact hf
    · split at hf
      · exact cutAt_sub _ (covF_sub k m _ _ _ hf)
      · exact covF_sub k m _ _ _ hf
theorem covF_cld {k : Nat} : ∀ (m : Nat) (cur : List Dp) (i : Nat) (s : List Int), Cld (covF k m cur i) s → Cld cur s
  | 0, _, _, s, h => h
  | m + 1, cur, i, s, h => by
    rw [covF] at h
    split at h
    · exact h
    · rename_i f hf
      split at h
      · rename_i hi
        have h2 := covF_cld m _ _ s h
        obtain ⟨hlt, rfl⟩ := List.getElem?_eq_some_iff.1 hf
        intro g hg
        rcases cutAt_mem hlt hg with h3 | rfl
        · exact h2 g h3
        · intro hl x hx
          have := List.all_eq_true.1 hi x hx
          exact clos_min (of_decide_eq_true this) hl h2
      · exact covF_cld m _ _ s h
theorem covL_imp {k : Nat} {fs : List Dp} (hd : DepsIn k fs) {f : Dp} (hf : f ∈ fs) : impD k (covL k fs) f = true := by
  refine List.all_eq_true.2 fun x hx => decide_eq_true ?_
  have h1 : Cld (covL k fs) (clos k (covL k fs) f.l) := clos_cld (hd.sub (covF_sub k _ _ _))
  exact covF_cld _ _ _ _ h1 f hf (clos_sub (hd f hf).1) x hx
theorem okDps_sub {k : Int} {fs gs : List Dp} (h : okDps k fs = true) (hs : ∀ f ∈ gs, f ∈ fs) (hl : gs.length ≤ fs.length) : okDps k gs = true := by
  simp only [okDps, Bool.and_eq_true, decide_eq_true_eq, List.all_eq_true] at h ⊢
  exact ⟨⟨h.1.1, by omega⟩, fun f hf => h.2 f (hs f hf)⟩

theorem CoverOf_ok {h : Heap} {v : V} {k : Nat} {fs : List Dp} {F : List Nat} (hf : SdF h v fs F) :
    ∃ r h', call p 614 [vi k, v] h = some (r, h') ∧ ∃ o F', r = .tup [o, .bool (okDps k fs)] ∧ SdF h' o (if okDps k fs = true then covL k fs else []) F' ∧ Keeps h h' ∧ h.length ≤ h'.length := by
  obtain ⟨_, h1, e1, rfl, k1, l1⟩ := GoodDeps_ok hf k
  refine go (fn := g614) rfl rfl fun R hR => ?_
  cases hg : okDps k fs with
  | false =>
    rw [hg] at e1 hR
    simp [g614, hf.cells, hf.cell, e1]
    exact hR _ _ ⟨.nils, [], rfl, .nil, k1, l1⟩
  | true =>
    rw [hg] at e1 hR
    obtain ⟨hk, h8, hd⟩ := okDps_in hg
    obtain ⟨r2, h2, e2, ⟨F2, s2⟩, k2, l2, _⟩ := cloneDp_ok (hf.keep k1) (by omega)
    have k12 := k1.trans k2
    simp [g614, hf.cells, hf.cell, e1, e2]
    refine Wc_dnM (M := [6, 7, 8, 18, 19, 20, 21, 22, 23, 24, 25, 26, 27, 28, 29, 30, 31, 32, 33, 34, 35, 36]) rfl (fun m s => ∃ (cur : List Dp) (i : Nat) (v6 : V) (G : List Nat), s.σ 6 = .v v6 ∧ s.σ 7 = .v (vi i) ∧ SdF s.h v6 cur G ∧ (∀ f ∈ cur, f ∈ fs) ∧ cur.length ≤ fs.length ∧ i ≤ cur.length ∧ m = cur.length - i ∧ covF k m cur i = covL k fs ∧ Keeps h s.h ∧ h.length ≤ s.h.length) fs.length
      ⟨fs, 0, r2, F2, by simp, by simp, s2, fun _ h => h, Nat.le_refl _, by omega, by omega, rfl, k12, by show h.length ≤ h2.length; omega⟩ fun m s hI hM J hJ => ?_
    obtain ⟨cur, i, v6, G, g6, g7, sc, hsub, hcl, hi0, hm, hcov, hk0, hl0⟩ := hI
    have w1 : IntKind.i64.wrap ((i : Int) + 1) = (i + 1 : Nat) := by rw [IntWalk.i64_in] <;> omega
    by_cases hi : i < cur.length
    · obtain ⟨m', rfl⟩ : ∃ m', m = m' + 1 := ⟨m - 1, by omega⟩
      rw [covF, List.getElem?_eq_getElem hi] at hcov
      obtain ⟨r3, h3, e3, _, k3, l3, q3⟩ := cloneDp_ok sc (by omega)
      obtain ⟨b, cs, Gb, rfl, hb, hr, hlb, hbn⟩ := q3 (by omega)
      obtain ⟨r4, h4, e4, ⟨F4, s4⟩, k4, l4⟩ := deleteDp_ok hb hr hbn rfl hi (by omega)
      have k34 : Keeps s.h h4 := fun c blk hc hst => by
        have := get_lt hc
        exact k4 c blk (by omega) (k3 _ _ hc hst) hst
      have sc4 := sc.keep k34
      obtain ⟨x, y, F5, F6, ld, sx, sy, _⟩ := sc4.loadDp i hi
      have ix := sc4.idx 2 .i64 i hi
      have hmem := List.getElem_mem hi
      have hdi := hd _ (hsub _ hmem)
      obtain ⟨_, h5, e5, rfl, k5, l5⟩ := implies_ok s4 sx.sl sy.sl ((hd.sub hsub).sub cutAt_sub) hdi.2.2.1 hdi.1 (by omega : k ≤ 2 ^ 10)
      have k35 := k34.trans k5
      have hcl2 := cutAt_len hi
      have a1 : (cutAt cur i).length ≤ fs.length := by clear hJ hM hR q3; omega
      have a2 : i ≤ (cutAt cur i).length := by clear hJ hM hR q3; omega
      have a3 : m' = (cutAt cur i).length - i := by clear hJ hM hR q3; omega
      have a4 : m' = cur.length - (i + 1) := by clear hJ hM hR q3; omega
      cases hq : impD k (cutAt cur i) cur[i] with
      | true =>
        rw [hq] at e5
        simp only [hq, if_true] at hcov
        simp [g614_0, hM, g6, g7, sc.len, hi, e3, w1, e4, ix, ld, sx.cells, sx.cell, sy.cells, sy.cell, e5, -Int.natCast_add]
        exact hJ m' _ (by omega) ⟨cutAt cur i, i, r4, F4, by simp, by simp [g7], s4.keep k5, fun f hf => hsub f (cutAt_sub f hf), a1, a2, a3, hcov, hk0.trans k35, by show h.length ≤ h5.length; omega⟩
      | false =>
        rw [hq] at e5
        simp only [hq, Bool.false_eq_true, if_false] at hcov
        simp [g614_0, hM, g6, g7, sc.len, hi, e3, w1, e4, ix, ld, sx.cells, sx.cell, sy.cells, sy.cell, e5, -Int.natCast_add]
        exact hJ m' _ (by omega) ⟨cur, i + 1, v6, G, by simp [g6], by simp, sc.keep k35, hsub, hcl, hi, a4, hcov, hk0.trans k35, by show h.length ≤ h5.length; omega⟩
    · have : m = 0 := by omega
      subst this
      rw [covF] at hcov
      subst hcov
      generalize covL k fs = cur at *
      have hlc : cur.length ≤ 8 := by omega
      simp [g614_0, hM, g6, g7, sc.len, hi]
      refine Wc_upM (M := [9, 11, 40, 41, 42, 43, 44, 45, 46, 47, 48, 49, 50, 51, 52, 53, 54]) rfl cur.length (fun j t => j ≤ cur.length ∧ t.σ 40 = .v (vi j) ∧ Keeps s.h t.h ∧ s.h.length ≤ t.h.length ∧ ∃ v9 G, t.σ 9 = .v v9 ∧ OdF s.h.length t.h v9 (cur.take j) G) 0
        ⟨by omega, by simp, Keeps.append _ _, by simp, .slice s.h.length 0 0 (.k 0), [], by simp, by simpa using OdF.empty (Nat.le_refl _) (by simp)⟩ fun j t ⟨gj, g40, hk1, hl1, v9, G9, g9, ho⟩ hM' J' hJ' => ?_
      by_cases hj : j < cur.length
      · have sct := sc.keep hk1
        obtain ⟨x, y, F5, F6, ld, sx, sy, _⟩ := sct.loadDp j hj
        have ix := sct.idx 2 .i64 j hj
        have st := sct.step hj
        have hmem := List.getElem_mem hj
        have hdi := hd _ (hsub _ hmem)
        have lx := rising_len hdi.2.2.1 hdi.1
        have ly := rising_len hdi.2.2.2 hdi.2.1
        obtain ⟨a, ha, ea, Fa, ca, fa, ka, la⟩ := cloneI_ok sx.sl (by omega)
        obtain ⟨c, hc, ec, Fc, cc, fc, kc, lc⟩ := cloneI_ok (sy.keep ka).sl (by omega)
        have ht := List.take_succ_eq_append_getElem hj
        obtain ⟨v', h6, e6, o6, kf, l6⟩ := ho.one (ka.trans kc) (by omega) (fa.app fc kc la) (x := cur[j]) (cs := [a, c]) ⟨a, c, Fa, Fc, rfl, rfl, ca.keep kc, cc⟩ (by simp; omega) (k := 2) (bytes := 48) rfl (by decide)
        simp [g614_1, hM', g40, g9, hj, ix, ld, upd, sx.cells, sx.cell, sy.cells, sy.cell, ea, ec, ca.cells, ca.cell, cc.cells, cc.cell, fillL, rdS_last, e6, st]
        refine hJ' _ hj ⟨hj, by simp, kf s.h hk1 (Nat.le_refl _), by show s.h.length ≤ h6.length; omega, v', G9 ++ (Fa ++ Fc), by simp, ?_⟩
        rw [ht]; exact o6
      · have : j = cur.length := by omega
        subst this
        rw [List.take_length] at ho
        obtain ⟨F', sF, _⟩ := ho.fresh
        simp [g614_1, hM', g40, g9]
        exact hR _ _ ⟨v9, F', rfl, sF, hk0.trans hk1, by omega⟩
end GL

namespace GL
open Go

theorem Od.appD {lo : Nat} {h : Heap} {v w : V} {xs zs : List Dp} {F G : List Nat} (ho : Od lo h v xs F) (hs : SdF h w zs G) (hG : ∀ b ∈ G, ¬ vB v b) (hl : xs.length + zs.length ≤ 2 ^ 20) :
    ∃ ys v' h' F', rdS h 2 w zs.length = some ys ∧ appH 2 48 v zs.length ys h = some (v', h') ∧ Od lo h' v' (xs ++ zs) F' ∧ KeepsP (fun i => ¬ vB v i) h h' ∧ h.length ≤ h'.length ∧ (∀ i, vB v' i → vB v i ∨ h.length ≤ i) := by
  obtain ⟨ys, G', e0, hr, hG'⟩ := hs.rdS
  by_cases h0 : 0 < zs.length
  · obtain ⟨v', h', e1, o1, k1, l1, b1⟩ := ho.app h0 hr (fun b hb => hG b (hG' b hb)) (bytes := 48) (by decide) (by omega) (k := 2) rfl rfl
    exact ⟨ys, v', h', _, e0, e1, o1, k1, by omega, fun i hi => .inr (by rw [b1 i hi]; exact Nat.le_refl _)⟩
  · have hz : zs = [] := List.length_eq_zero_iff.1 (by omega)
    subst hz
    obtain ⟨F', sF, _⟩ := ho.sd
    have := sF.len
    exact ⟨ys, v, h, F, e0, by simp [appH, this], by simpa using ho, KeepsP.refl _ _, Nat.le_refl _, fun i hi => .inl hi⟩

theorem app_any {α : Type} [Flat α] {H : Heap} {b k bytes : Nat} {ys : List α} (hk : k = Flat.sz α) (hl : ys.length ≤ 2 ^ 20) (hb : bytes ≤ 2 ^ 8) :
    ∃ v E F, appH k bytes (.slice b 0 0 (.k 0)) ys.length (flats ys) H = some (v, H ++ E) ∧ F.Nodup ∧ (∀ i ∈ F, i = H.length) ∧ (∀ i ∈ F, ∃ blk, E = [blk]) ∧ (∀ H2 : Heap, (∀ i ∈ F, H2[i]? = (H ++ E)[i]?) → SdF H2 v ys F ∧ ∀ i ∈ F, OwnB H2 i) := by
  subst hk
  by_cases h0 : 0 < ys.length
  · refine ⟨_, [⟨.own, flats ys⟩], [H.length], appH_first h0 hl hb, by simp, by simp, fun _ _ => ⟨_, rfl⟩, fun H2 h2 => ?_⟩
    have e := h2 H.length (by simp)
    rw [get_last] at e
    exact ⟨sdF_new e (by omega) rfl, fun i hi => by simp at hi; subst hi; exact ⟨_, e⟩⟩
  · have hz : ys = [] := List.length_eq_zero_iff.1 (by omega)
    subst hz
    refine ⟨.slice b 0 0 (.k 0), [], [], by simp [appH, lenV], by simp, by simp, by simp, fun H2 _ => ⟨⟨by simp, .inr ⟨b, 0, .k 0, rfl, Nat.le_refl _, .inl ⟨rfl, rfl⟩⟩⟩, by simp⟩⟩
end GL

namespace GL
open Go

theorem CoverOfS_ok {h : Heap} {v : V} {k : Nat} {fs : List Dp} {F : List Nat} (hf : SdF h v fs F) :
    ∃ r h', call p 615 [vi k, v] h = some (r, h') ∧ ∃ o F', r = .tup [o, .bool (okDps k fs)] ∧ SdF h' o (if okDps k fs = true then covL k fs else []) F' ∧ Keeps h h' ∧ h.length ≤ h'.length := by
  have e1 := GoodDepsS_eq hf k
  refine go (fn := g615) rfl rfl fun R hR => ?_
  cases hg : okDps k fs with
  | false =>
    rw [hg] at e1 hR
    simp [g615, hf.cells, hf.cell, e1]
    exact hR _ _ ⟨.nils, [], rfl, .nil, Keeps.refl _, Nat.le_refl _⟩
  | true =>
    rw [hg] at e1 hR
    obtain ⟨hk, h8, hd⟩ := okDps_in hg
    obtain ⟨cs2, r2, h2, e0, e2, ⟨F2, s2⟩, k2, l2, _⟩ := appDp hf (by omega)
    simp [g615, hf.cells, hf.cell, hf.len, e1, e0, e2]
    refine Wc_dnM (M := [6, 7, 8, 19, 20, 21, 22, 23, 24, 25, 26, 27, 28, 29, 30, 31, 32, 33, 34, 35, 36, 37, 38, 39, 40, 41, 42, 43, 44, 45, 46, 47, 48]) rfl (fun m s => ∃ (cur : List Dp) (i : Nat) (v6 : V) (G : List Nat), s.σ 6 = .v v6 ∧ s.σ 7 = .v (vi i) ∧ SdF s.h v6 cur G ∧ (∀ f ∈ cur, f ∈ fs) ∧ cur.length ≤ fs.length ∧ i ≤ cur.length ∧ m = cur.length - i ∧ covF k m cur i = covL k fs ∧ Keeps h s.h ∧ h.length ≤ s.h.length) fs.length
      ⟨fs, 0, r2, F2, by simp, by simp, s2, fun _ h => h, Nat.le_refl _, by omega, by omega, rfl, k2, l2⟩ fun m s hI hM J hJ => ?_
    obtain ⟨cur, i, v6, G, g6, g7, sc, hsub, hcl, hi0, hm, hcov, hk0, hl0⟩ := hI
    have w1 : IntKind.i64.wrap ((i : Int) + 1) = (i + 1 : Nat) := by rw [IntWalk.i64_in] <;> omega
    by_cases hi : i < cur.length
    · obtain ⟨m', rfl⟩ : ∃ m', m = m' + 1 := ⟨m - 1, by omega⟩
      rw [covF, List.getElem?_eq_getElem hi] at hcov
      have hcl2 := cutAt_len hi
      have a1 : (cutAt cur i).length ≤ fs.length := by clear hJ hM hR; omega
      have a2 : i ≤ (cutAt cur i).length := by clear hJ hM hR; omega
      have a3 : m' = (cutAt cur i).length - i := by clear hJ hM hR; omega
      have a4 : m' = cur.length - (i + 1) := by clear hJ hM hR; omega
      have kn : Keeps s.h (s.h ++ [⟨.own, []⟩]) := Keeps.append _ _
      have ltl : (cur.take i).length = i := by rw [List.length_take]; omega
      have ldl : (cur.drop (i + 1)).length = cur.length - (i + 1) := by rw [List.length_drop]
      obtain ⟨u1, G1, c1, s1, b1, _⟩ := sc.sub (lo := none) (hi := some i) (i := 0) (j := i) rfl rfl (by omega) (by omega) (k := 2) rfl
      obtain ⟨u2, G2, c2, s2, b2, _⟩ := sc.sub (lo := some (i + 1)) (hi := none) (i := i + 1) (j := cur.length) rfl rfl (by omega) (by omega) (k := 2) rfl
      rw [List.drop_zero] at s1
      rw [List.take_length] at s2
      have o0 : Od s.h.length (s.h ++ [⟨.own, []⟩]) (.slice s.h.length 0 0 (.k 0)) ([] : List Dp) [] := Od.empty (Nat.le_refl _) (by simp)
      obtain ⟨y1, v7, h7, F7, er1, e7, o7, k7, l7, b7⟩ := o0.appD (s1.keep kn) (fun b hb ⟨_, _, _, e⟩ => by cases e; have := s1.ltF hb; omega) (by simp; omega)
      have kn7 : Keeps s.h h7 := fun b blk hb hst => by
        have := get_lt hb
        exact k7 b blk (fun ⟨_, _, _, e⟩ => by cases e; omega) (kn _ _ hb hst) hst
      have hv7 : ∀ b, vB v7 b → s.h.length ≤ b := fun b hb => by
        rcases b7 b hb with ⟨_, _, _, e⟩ | h
        · cases e; exact Nat.le_refl _
        · simp at h; omega
      obtain ⟨y2, v8, h8', F8, er2, e8, o8, k8, l8, _⟩ := o7.appD (s2.keep kn7) (fun b hb hvb => by have := hv7 b hvb; have := s2.ltF hb; omega) (by simp; omega)
      have kn8 : Keeps s.h h8' := fun b blk hb hst => by
        have := get_lt hb
        exact k8 b blk (fun hvb => by have := hv7 b hvb; omega) (kn7 _ _ hb hst) hst
      have sl1 := s1.len
      have sl2 := s2.len
      rw [ltl] at sl1 er1 e7
      rw [ldl] at sl2 er2 e8
      rw [List.nil_append] at o8
      obtain ⟨F9, s9, _⟩ := o8.sd
      have s9' : SdF h8' v8 (cutAt cur i) F9 := s9
      have sc8 := sc.keep kn8
      obtain ⟨x, y, F5, F6, ld, sx, sy, _⟩ := sc8.loadDp i hi
      have ix := sc8.idx 2 .i64 i hi
      have hmem := List.getElem_mem hi
      have hdi := hd _ (hsub _ hmem)
      have ldx : rdH h8' (bOf v6) (oOf v6 + i * 2) 1 = some [x] := by simpa using rdH_sub ld 0 1 (by decide)
      have ldy : rdH h8' (bOf v6) (oOf v6 + i * 2 + 1) 1 = some [y] := by simpa using rdH_sub ld 1 1 (by decide)
      obtain ⟨r9, h9, e9, G9, c9, k9, l9⟩ := l5Closure_ok s9' sx.sl ((hd.sub hsub).sub cutAt_sub) hdi.2.2.1 hdi.1 (by omega : k ≤ 2 ^ 10)
      have ldy9 : rdH h9 (bOf v6) (oOf v6 + i * 2 + 1) 1 = some [y] := by
        obtain ⟨x2, y2, _, _, ld2, _⟩ := (sc8.keep k9).loadDp i hi
        have hh := sc8.keep k9
        obtain ⟨blk, hb1, hb2⟩ := sc8.lt (sc8.bIn hi)
        have hb3 := k9 _ _ hb1 hb2
        rw [rdH_at hb1 hb2] at ldy
        rw [rdH_at hb3 hb2]; exact ldy
      have e10 := l5Sub_eq (sy.keep k9).sl c9.sl
      rw [show (cur[i].r.all fun n => decide (n ∈ clos k (cutAt cur i) cur[i].l)) = impD k (cutAt cur i) cur[i] from rfl] at e10
      have k35 := kn8.trans k9
      have hl9 : h.length ≤ h9.length := by
        simp at l7; clear hJ hM hR; omega
      cases hq : impD k (cutAt cur i) cur[i] with
      | true =>
        rw [hq] at e10
        simp only [hq, if_true] at hcov
        simp [g615_0, hM, g6, g7, sc.len, hi, bounds, takeB, c1, c2, sl1, sl2, er1, e7, w1, er2, e8, ix, ldx, ldy, ldy9, stable, stab1, e9, e10, -Int.natCast_add]
        exact hJ m' _ (by omega) ⟨cutAt cur i, i, v8, F9, by simp, by simp [g7], s9'.keep k9, fun f hf => hsub f (cutAt_sub f hf), a1, a2, a3, hcov, hk0.trans k35, hl9⟩
      | false =>
        rw [hq] at e10
        simp only [hq, Bool.false_eq_true, if_false] at hcov
        simp [g615_0, hM, g6, g7, sc.len, hi, bounds, takeB, c1, c2, sl1, sl2, er1, e7, w1, er2, e8, ix, ldx, ldy, ldy9, stable, stab1, e9, e10, -Int.natCast_add]
        exact hJ m' _ (by omega) ⟨cur, i + 1, v6, G, by simp [g6], by simp, sc.keep k35, hsub, hcl, hi, a4, hcov, hk0.trans k35, hl9⟩
    · have : m = 0 := by omega
      subst this
      rw [covF] at hcov
      subst hcov
      generalize covL k fs = cur at *
      have hlc : cur.length ≤ 8 := by omega
      simp [g615_0, hM, g6, g7, sc.len, hi]
      refine Wc_upM (M := [9, 11, 51, 52, 53, 54, 55, 56, 57, 58, 59, 60, 61, 62, 63, 64, 65, 66, 67]) rfl cur.length (fun j t => j ≤ cur.length ∧ t.σ 51 = .v (vi j) ∧ Keeps s.h t.h ∧ s.h.length ≤ t.h.length ∧ ∃ v9 G, t.σ 9 = .v v9 ∧ OdF s.h.length t.h v9 (cur.take j) G) 0
        ⟨by omega, by simp, Keeps.refl _, Nat.le_refl _, .nils, [], by simp, by simpa using OdF.nil (Nat.le_refl _)⟩ fun j t ⟨gj, g51, hk1, hl1, v9, G9, g9, ho⟩ hM' J' hJ' => ?_
      by_cases hj : j < cur.length
      · have sct := sc.keep hk1
        obtain ⟨x, y, F5, F6, ld, sx, sy, _⟩ := sct.loadDp j hj
        have ix := sct.idx 2 .i64 j hj
        have st := sct.step hj
        have hmem := List.getElem_mem hj
        have hdi := hd _ (hsub _ hmem)
        have lx := rising_len hdi.2.2.1 hdi.1
        have ly := rising_len hdi.2.2.2 hdi.2.1
        have ht := List.take_succ_eq_append_getElem hj
        have sxl := sx.len
        have syl := sy.len
        have cx := sx.cells
        have cx' := sx.cell
        have cy := sy.cells
        have cy' := sy.cell
        obtain ⟨v1, E1, Fa, ea, nd1, f1, g1, q1⟩ := app_any (H := t.h ++ [⟨.own, []⟩, deadBlk]) (b := t.h.length) (k := 1) (bytes := 8) (ys := cur[j].l) rfl (by omega) (by decide)
        obtain ⟨v2, E2, Fc, ec, nd2, f2, g2, q2⟩ := app_any (H := t.h ++ ⟨.own, []⟩ :: ⟨.own, []⟩ :: E1) (b := t.h.length + 1) (k := 1) (bytes := 8) (ys := cur[j].r) rfl (by omega) (by decide)
        have rd1 : rdS (t.h ++ [⟨.own, []⟩, deadBlk]) 1 x cur[j].l.length = some (flats cur[j].l) := by
          have := (sx.keep (Keeps.append t.h [⟨.own, []⟩, deadBlk])).sl.rdS _ (Nat.le_refl _)
          rw [List.take_length] at this; exact this
        have rd2 : rdS (t.h ++ ⟨.own, []⟩ :: ⟨.own, []⟩ :: E1) 1 y cur[j].r.length = some (flats cur[j].r) := by
          have := (sy.keep (Keeps.append t.h (⟨.own, []⟩ :: ⟨.own, []⟩ :: E1))).sl.rdS _ (Nat.le_refl _)
          rw [List.take_length] at this; exact this
        have hl1' : (t.h ++ [⟨.own, []⟩, deadBlk] : Heap).length = t.h.length + 2 := by simp
        have hl2' : (t.h ++ ⟨.own, []⟩ :: ⟨.own, []⟩ :: E1 : Heap).length = t.h.length + 2 + E1.length := by simp; omega
        rw [hl1'] at f1
        rw [hl2'] at f2
        have hfin : t.h ++ ⟨.own, []⟩ :: ⟨.own, []⟩ :: E1 ++ E2 = t.h ++ ⟨.own, []⟩ :: ⟨.own, []⟩ :: (E1 ++ E2) := by simp
        obtain ⟨sa, oa⟩ := q1 (t.h ++ ⟨.own, []⟩ :: ⟨.own, []⟩ :: (E1 ++ E2)) fun i hi => by
          obtain ⟨blk, rfl⟩ := g1 i hi
          rw [f1 i hi]; simp [List.getElem?_append_right]
        obtain ⟨sb, ob⟩ := q2 (t.h ++ ⟨.own, []⟩ :: ⟨.own, []⟩ :: (E1 ++ E2)) fun i hi => by rw [hfin]
        rw [hfin] at ec
        rw [List.append_assoc] at ea
        simp only [List.cons_append, List.nil_append] at ea
        have kk : Keeps t.h (t.h ++ ⟨.own, []⟩ :: ⟨.own, []⟩ :: (E1 ++ E2)) := Keeps.append _ _
        have fr : Fresh t.h.length (t.h ++ ⟨.own, []⟩ :: ⟨.own, []⟩ :: (E1 ++ E2)) (Fa ++ Fc) := by
          refine ⟨List.nodup_append.2 ⟨nd1, nd2, fun a ha b hb => ?_⟩, fun b hb => ?_, fun b hb => ?_⟩
          · have h1 := f1 a ha
            have h2 := f2 b hb
            obtain ⟨blk, rfl⟩ := g1 a ha
            simp at h2; omega
          · rcases List.mem_append.1 hb with h | h
            · have := f1 b h; omega
            · have := f2 b h; omega
          · rcases List.mem_append.1 hb with h | h
            · exact oa b h
            · exact ob b h
        obtain ⟨v', h6, e6, o6, kf, l6⟩ := ho.one kk (by simp) fr (x := cur[j]) (cs := [v1, v2]) ⟨v1, v2, Fa, Fc, rfl, rfl, sa, sb⟩ (by simp; omega) (k := 2) (bytes := 48) rfl (by decide)
        have iD : isDead (⟨.own, []⟩ :: deadBlk :: E1) 1 = true := rfl
        have iD0 : isDead [deadBlk, deadBlk] 0 = true := rfl
        have a0 := isDeadA t.h [deadBlk, deadBlk] 0
        have s0 := setA t.h [deadBlk, deadBlk] 0 ⟨.own, []⟩
        have a1 := isDeadA t.h (⟨.own, []⟩ :: deadBlk :: E1) 1
        have s1 := setA t.h (⟨.own, []⟩ :: deadBlk :: E1) 1 ⟨.own, []⟩
        simp only [Nat.add_zero, List.set_cons_zero, List.set_cons_succ] at a0 s0 a1 s1
        have c1' := sa.cells
        have c1'' := sa.cell
        have c2' := sb.cells
        have c2'' := sb.cell
        simp only [List.append_assoc, List.cons_append, List.nil_append] at e6
        have rl : rdS (t.h ++ ⟨.own, []⟩ :: ⟨.own, []⟩ :: (E1 ++ (E2 ++ [⟨.own, [v1, v2]⟩]))) 2 (.slice (t.h ++ ⟨.own, []⟩ :: ⟨.own, []⟩ :: (E1 ++ E2)).length 0 1 (.k 1)) 1 = some [v1, v2] := by
          have := rdS_last (h := t.h ++ ⟨.own, []⟩ :: ⟨.own, []⟩ :: (E1 ++ E2)) (cs := [v1, v2]) (k := 2) (n := 1) (cap := .k 1) rfl
          simpa using this
        simp only [List.length_append, List.length_cons] at rl
        simp [g615_1, hM', g51, g9, hj, ix, ld, upd, begin_two, xop_m, a0, s0, a1, s1, iD, iD0, cx, cx', cy, cy', sxl, syl, rd1, ea, rd2, ec, c1', c1'', c2', c2'', fillL, rl, e6, st]
        refine ⟨by simp only [allDead, List.all_cons, List.all_nil, isDeadA]; rfl, ?_⟩
        refine hJ' _ hj ⟨hj, by simp, kf s.h hk1 (Nat.le_refl _), by show s.h.length ≤ h6.length; simp at l6; omega, v', G9 ++ (Fa ++ Fc), by simp, ?_⟩
        rw [ht]; exact o6
      · have : j = cur.length := by omega
        subst this
        rw [List.take_length] at ho
        obtain ⟨F', sF, _⟩ := ho.fresh
        simp [g615_1, hM', g51, g9]
        exact hR _ _ ⟨v9, F', rfl, sF, hk0.trans hk1, by omega⟩
end GL

namespace GL
open Go

theorem DC.someCols {h0 h : Heap} {N : Nat} (d : DC h0 h N) (hN : N < 2 ^ 57) (n : Nat) (hn : n ≤ 30) : ∃ v h', call p 658 [.ptr h0.length 0, vi n] h = some (v, h') ∧ ∃ (xs : List Int), Out h.length h' v xs ∧ xs.length ≤ 31 ∧ DC h0 h' (N + 70) ∧ KeepsBut h0.length h h' ∧ h.length ≤ h'.length := by
  have hlt := d.lt
  refine go (fn := g658) rfl rfl fun R hR => ?_
  simp [g658]
  refine Wc_upM (M := [5, 6, 7, 8, 9, 10, 11, 12, 13, 14, 15, 16, 17]) rfl n (fun i s => i ≤ n ∧ s.σ 6 = .v (vi i) ∧ ∃ (xs : List Int) (v : V), s.σ 5 = .v v ∧ Out h.length s.h v xs ∧ xs.length ≤ i ∧ DC h0 s.h (N + i * 2) ∧ KeepsBut h0.length h s.h ∧ h.length ≤ s.h.length) 0
    ⟨by omega, by simp, [], .nils, by simp, Out.nil (Nat.le_refl _), by simp, by simpa using d, KeepsBut.refl _ _, by simp⟩ fun i s ⟨gi, g6, xs, v, g5, ho, hx, d, kb, hl⟩ hM J hJ => ?_
  by_cases hi : i < n
  · have w1 : IntKind.i64.wrap ((i : Int) + 1) = (i + 1 : Nat) := by rw [IntWalk.i64_in] <;> omega
    obtain ⟨b, h1, e1, d1, k1, l1⟩ := d.one (by omega) 3 (by decide)
    have o1 := k1.out ho (by omega) (by omega)
    cases b
    · simp [g658_0, hM, g6, hi, e1, w1, -Int.natCast_add]
      exact hJ _ hi ⟨hi, by simp, xs, v, by simp [g5], o1, by omega, d1.mono (by omega), kb.trans k1, by show h.length ≤ h1.length; omega⟩
    · obtain ⟨v', h2, e2, o2, d2, k2, l2⟩ := Out.draw (k := 1) (bytes := 8) d1 (kb.trans k1) o1 (Nat.le_refl _) hlt (i : Int) (by omega) rfl (by decide) rfl
      simp [Flat.cells] at e2
      simp [g658_0, hM, g6, g5, hi, e1, fillL, rdS_last, e2, w1, -Int.natCast_add]
      exact hJ _ hi ⟨hi, by simp, _, v', by simp, o2, by simp; omega, d2.mono (by omega), k2, by show h.length ≤ h2.length; omega⟩
  · obtain ⟨b, h1, e1, d1, k1, l1⟩ := d.one (by omega) 40 (by decide)
    have o1 := k1.out ho (by omega) (by omega)
    cases b
    · simp [g658_0, hM, g6, g5, hi, e1]
      exact hR _ _ ⟨xs, o1, by omega, d1.mono (by omega), kb.trans k1, by omega⟩
    · obtain ⟨v', h2, e2, o2, d2, k2, l2⟩ := Out.draw (k := 1) (bytes := 8) d1 (kb.trans k1) o1 (Nat.le_refl _) hlt (n : Int) (by omega) rfl (by decide) rfl
      simp [Flat.cells] at e2
      simp [g658_0, hM, g6, g5, hi, e1, fillL, rdS_last, e2]
      exact hR _ _ ⟨_, o2, by simp; omega, d2.mono (by omega), k2, by omega⟩

theorem DC.cols {h0 h : Heap} {N : Nat} (d : DC h0 h N) (hN : N < 2 ^ 57) : ∃ v h', call p 670 [.ptr h0.length 0] h = some (v, h') ∧ ∃ (n : Nat), v = vi n ∧ n ≤ 7 ∧ DC h0 h' (N + 2) ∧ KeepsBut h0.length h h' ∧ h.length ≤ h'.length := by
  obtain ⟨x, h1, e1, hx, d1, k1, l1⟩ := d.amongL (by omega) [0, 1, 3, 4, 4, 5, 6, 7] 8 rfl [vi 0, vi 1, vi 3, vi 4, vi 4, vi 5, vi 6, vi 7] rfl (.k 8) (by decide) (by decide)
  refine go (fn := g670) rfl rfl fun R hR => ?_
  simp [g670, fillL, e1]
  have hx' : 0 ≤ x ∧ x ≤ 7 := by simp at hx; omega
  exact hR _ _ ⟨x.toNat, by congr 1; omega, by omega, d1, k1, l1⟩

theorem two_fresh {h h5 h4 : Heap} {c : Nat} {F1 F2 : List Nat} {n : Nat} (hc : c < n) (f1 : Fresh n h4 F1) (f2 : Fresh h4.length h5 F2) (k5 : KeepsBut c h4 h5) (hn : n ≤ h4.length) : Fresh n h5 (F1 ++ F2) := by
  have n1 : ∀ b ∈ F1, b ≠ c := fun b hb => by have := f1.ge b hb; omega
  have f1' := f1.keeps (k5.P.mono n1)
  exact ⟨List.nodup_append.2 ⟨f1.nodup, f2.nodup, fun a ha b hb e => by have := (f1.own a ha).lt; have := f2.ge b hb; omega⟩, fun b hb => by
    rcases List.mem_append.1 hb with hb | hb
    · exact f1.ge b hb
    · have := f2.ge b hb; omega, fun b hb => by
    rcases List.mem_append.1 hb with hb | hb
    · exact f1'.own b hb
    · exact f2.own b hb⟩

theorem DC.deps {h0 h : Heap} {N : Nat} (d : DC h0 h N) (hN : N < 2 ^ 56) (n : Nat) (hn : n ≤ 30) : ∃ v h', call p 671 [.ptr h0.length 0, vi n] h = some (v, h') ∧ ∃ (xs : List Dp) (F : List Nat), SdF h' v xs F ∧ (∀ b ∈ F, h.length ≤ b) ∧ DC h0 h' (N + 2000) ∧ KeepsBut h0.length h h' ∧ h.length ≤ h'.length := by
  have hlt := d.lt
  refine go (fn := g671) rfl rfl fun R hR => ?_
  obtain ⟨a, h1, e1, ha, d1, k1, l1⟩ := d.pick (by omega) 6 (by decide)
  obtain ⟨one, h2, e2, d2, k2, l2⟩ := d1.one (by omega) 20 (by decide)
  have loop : ∀ (k : Nat) (s0 : S) (K : Ex → S → Prop), k ≤ 9 → s0.σ 0 = .v (.ptr h0.length 0) → s0.σ 1 = .v (vi n) → s0.σ 5 = .v .nils → s0.σ 6 = .v (vi k) → DC h0 s0.h (N + 6) → KeepsBut h0.length h s0.h → h.length ≤ s0.h.length →
      (∀ s v (xs : List Dp) F, s.σ 5 = .v v → OdF h.length s.h v xs F → DC h0 s.h (N + 2000) → KeepsBut h0.length h s.h → h.length ≤ s.h.length → K (.exit 0) s) → Wc p (.loop g671_0) s0 K := by
    intro k s0 K hk g0 g1 g5 g6 dc kb hl hK
    refine Wc_dnM (M := [5, 6, 14, 15, 16, 17, 18, 19, 20, 21, 22, 23, 24, 25, 26, 27]) rfl (fun k s => k ≤ 9 ∧ s.σ 6 = .v (vi k) ∧ ∃ (xs : List Dp) (v : V) (G : List Nat), xs.length + k ≤ 9 ∧ s.σ 5 = .v v ∧ OdF h.length s.h v xs G ∧ DC h0 s.h (N + 6 + 140 * xs.length) ∧ KeepsBut h0.length h s.h ∧ h.length ≤ s.h.length) k
      ⟨hk, g6, [], .nils, [], by simpa using hk, g5, OdF.nil hl, by simpa using dc, kb, hl⟩ fun k s ⟨hk, g6, xs, v, G, hx, g5, ho, dc, kb, hl⟩ hM J hJ => ?_
    by_cases hk0 : 0 < k
    · have hk0' : (0 : Int) < k := by omega
      have w2 : IntKind.i64.wrap ((k : Int) - 1) = (k - 1 : Nat) := by rw [IntWalk.i64_in] <;> omega
      obtain ⟨x, h4, e4, as, o4, _, d4, k4, l4⟩ := dc.someCols (by omega) n hn
      obtain ⟨y, h5, e5, bs, o5, _, d5, k5, l5⟩ := d4.someCols (by omega) n hn
      obtain ⟨F1, s1, f1⟩ := o4.fr
      obtain ⟨F2, s2, f2⟩ := o5.fr
      have n1 : ∀ b ∈ F1, b ≠ h0.length := fun b hb => by have := f1.ge b hb; omega
      have s1' := s1.keeps (k5.P.mono n1)
      have f12 := two_fresh (h := h) (by omega) f1 f2 k5 l4
      have hr : Data.rep h5 (⟨as, bs⟩ : Dp) [x, y] (F1 ++ F2) := ⟨x, y, F1, F2, rfl, rfl, s1', s2⟩
      have kk := k4.trans k5
      obtain ⟨v', h6, e6, o6, d6, k6, l6⟩ := OdF.draw d5 (kb.trans kk) ho kk (by omega) (Nat.le_refl _) (by omega) f12 hr (by omega) (k := 2) rfl (bytes := 48) (by decide)
      have z1 := s1'.cells
      have z2 := s1'.cell
      have z3 := s2.cells
      have z4 := s2.cell
      simp [g671_0, hM, g0, g1, g6, g5, hk0, hk0', e4, e5, z1, z2, z3, z4, rdS_last, e6, fillL, w2, -Int.natCast_add]
      exact hJ (k - 1) _ (by omega) ⟨by omega, by simp, xs ++ [⟨as, bs⟩], v', G ++ (F1 ++ F2), by simp; omega, by simp, o6, d6.mono (by simp; omega), k6, by show h.length ≤ h6.length; omega⟩
    · have : k = 0 := by omega
      subst this
      simp [g671_0, hM, g6]
      exact hK _ v xs G (by simp [g5]) ho (dc.mono (by omega)) kb hl
  have fin : ∀ s v (xs : List Dp) F, OdF h.length s v xs F → DC h0 s (N + 2000) → KeepsBut h0.length h s → h.length ≤ s.length → R v s := fun s v xs F ho d2 k2 l2 => by
    obtain ⟨F', hs, fr⟩ := ho.fresh
    exact hR _ _ ⟨xs, F', hs, fr.ge, d2, k2, l2⟩
  cases one with
  | false =>
    simp [g671, e1, e2]
    refine loop a _ _ (by omega) (by simp) (by simp) (by simp) (by simp) (d2.mono (by omega)) (k1.trans k2) (by show h.length ≤ h2.length; omega) fun s v xs F g5 ho dd kk ll => ?_
    simp [g5]
    exact fin _ _ _ _ ho dd kk ll
  | true =>
    obtain ⟨b, h3, e3, hb, d3, k3, l3⟩ := d2.pick (by omega) 2 (by decide)
    have w1 : IntKind.i64.wrap (8 + (b : Int)) = (8 + b : Nat) := by rw [IntWalk.i64_in] <;> omega
    simp [g671, e1, e2, e3, w1, -Int.natCast_add]
    refine loop (8 + b) _ _ (by omega) (by simp) (by simp) (by simp) (by simp) (d3.mono (by omega)) ((k1.trans k2).trans k3) (by show h.length ≤ h3.length; omega) fun s v xs F g5 ho dd kk ll => ?_
    simp [g5]
    exact fin _ _ _ _ ho dd kk ll

theorem drawKeys_ok {h : Heap} {v : V} {bs : List Byte} (hs : Sl h v bs) : ∃ r h', call p 611 [v] h = some (r, h') ∧ ∃ (k : Nat) (o : V) (fs : List Dp) (F : List Nat), r = .tup [vi k, o] ∧ SdF h' o fs F ∧ Keeps h h' ∧ h.length ≤ h'.length := by
  have d0 := DC.start hs
  obtain ⟨_, h1, e1, k, rfl, hk, d1, k1, l1⟩ := d0.cols (by decide)
  obtain ⟨o, h2, e2, fs, F, s2, f2, d2, k2, l2⟩ := d1.deps (by decide) k (by omega)
  have e3 : ∃ r h', call p 643 [v] h = some (r, h') ∧ r = .tup [vi k, o] ∧ h' = h2 := by
    refine go (fn := g643) rfl rfl fun R hR => ?_
    simp [g643, hs.cells, hs.cell, fillL, e1, e2]
    exact hR _ _ ⟨rfl, rfl⟩
  obtain ⟨_, _, e3, rfl, rfl⟩ := e3
  refine go (fn := g611) rfl rfl fun R hR => ?_
  simp [g611, hs.cells, hs.cell, e3]
  simp at l1
  exact hR _ _ ⟨k, o, fs, F, rfl, s2, d2.keep, by omega⟩
end GL

namespace GL
open Go

/-! relations: columns and rows -/
structure Rl where
  c : List Int
  rows : List (List Int)
def RlV (h : Heap) (v : V) (r : Rl) : Prop := ∃ x y F1 F2, v = .agg [x, y] ∧ SdF h x r.c F1 ∧ SdF h y r.rows F2
theorem RlV.keep {h h' : Heap} {v : V} {r : Rl} (hr : RlV h v r) (k : Keeps h h') : RlV h' v r := by
  obtain ⟨x, y, F1, F2, rfl, h1, h2⟩ := hr
  exact ⟨x, y, F1, F2, rfl, h1.keep k, h2.keep k⟩

def ltL : List Int → List Int → Bool
  | [], _ => false
  | _ :: _, [] => false
  | x :: xs, y :: ys => if x = y then ltL xs ys else decide (x < y)

theorem cmpI_eq (x y : Int) (h : Heap) : call p 159 [vi x, vi y] h = some (vi (if x < y then -1 else if y < x then 1 else 0), h) := by
  refine go_eq (fn := g159) rfl rfl fun R hR => ?_
  by_cases h1 : x < y
  · rw [if_pos h1] at hR
    simp [g159, isNaN_eq, h1]; exact hR
  · rw [if_neg h1] at hR
    by_cases h2 : y < x
    · rw [if_pos h2] at hR
      simp [g159, isNaN_eq, h1, h2]; exact hR
    · rw [if_neg h2] at hR
      simp [g159, isNaN_eq, h1, h2]; exact hR
theorem ltL_drop {a b : List Int} {i : Nat} (ha : i < a.length) (hb : i < b.length) : ltL (a.drop i) (b.drop i) = if a[i] = b[i] then ltL (a.drop (i + 1)) (b.drop (i + 1)) else decide (a[i] < b[i]) := by
  rw [List.drop_eq_getElem_cons ha, List.drop_eq_getElem_cons hb, ltL]

theorem l3Less_eq {h : Heap} {v w : V} {a b : List Int} (ha : Sl h v a) (hb : Sl h w b) (hl : a.length = b.length) : call p 678 [v, w] h = some (.bool (ltL a b), h) := by
  refine go_eq (fn := g678) rfl rfl fun R hR => ?_
  simp [g678, ha.len]
  refine Wc_upM (M := [4, 5, 8, 9, 10, 11, 12, 13, 14, 15, 16, 17, 18, 19, 20, 21, 22, 23, 24, 25, 26, 27, 28, 29]) rfl a.length (fun i s => s.σ 8 = .v (vi i) ∧ s.h = h ∧ ltL a b = ltL (a.drop i) (b.drop i)) 0 (by simp) fun i s ⟨g8, gh, he⟩ hM J hJ => ?_
  by_cases hi : i < a.length
  · have hib : i < b.length := by omega
    have ix := ha.idx 1 .i64 i hi
    have iy := hb.idx 1 .i64 i hib
    have ld := ha.loadI i hi
    have le := hb.loadI i hib
    simp only [Nat.mul_one] at ix iy
    have st := ha.step hi
    rw [ltL_drop hi hib] at he
    generalize a[i] = p at *
    generalize b[i] = q at *
    by_cases hpq : p = q
    · rw [if_pos hpq] at he
      simp [g678_0, hM, g8, gh, hi, ix, iy, ld, le, hpq, st]
      exact hJ _ hi ⟨by simp, rfl, he⟩
    · rw [if_neg hpq] at he
      rw [he] at hR
      simp [g678_0, hM, g8, gh, hi, ix, iy, ld, le, hpq, st]
      exact hR
  · rw [List.drop_of_length_le (by omega)] at he
    rw [he] at hR
    simp [g678_0, hM, g8, gh, hi]
    exact hR
theorem CompareI_eq {h : Heap} {v w : V} {a b : List Int} (ha : Sl h v a) (hb : Sl h w b) (hl : a.length = b.length) : ∃ k : Int, call p 677 [v, w] h = some (vi k, h) ∧ decide (0 ≤ k) = !ltL a b := by
  have : ∃ r h', call p 677 [v, w] h = some (r, h') ∧ ∃ k : Int, r = vi k ∧ h' = h ∧ decide (0 ≤ k) = !ltL a b := by
    refine go (fn := g677) rfl rfl fun R hR => ?_
    simp [g677, ha.len]
    refine Wc_upM (M := [4, 5, 6, 7, 8, 11, 12, 13, 14, 15, 16, 17, 18, 19, 20, 21, 22, 23, 24, 25, 26, 27, 28, 29, 30]) rfl a.length (fun i s => s.σ 11 = .v (vi i) ∧ s.h = h ∧ ltL a b = ltL (a.drop i) (b.drop i)) 0 (by simp) fun i s ⟨g8, gh, he⟩ hM J hJ => ?_
    by_cases hi : i < a.length
    · have hib : i < b.length := by omega
      have hib' : ¬ b.length ≤ i := by omega
      have ix := ha.idx 1 .i64 i hi
      have iy := hb.idx 1 .i64 i hib
      have ld := ha.loadI i hi
      have le := hb.loadI i hib
      simp only [Nat.mul_one] at ix iy
      have st := ha.step hi
      rw [ltL_drop hi hib] at he
      have hbl := hb.len
      have ec := cmpI_eq a[i] b[i] h
      generalize a[i] = p at *
      generalize b[i] = q at *
      by_cases hpq : p = q
      · rw [if_pos hpq] at he
        subst hpq
        rw [if_neg (by omega), if_neg (by omega)] at ec
        simp [g677_0, hM, g8, gh, hi, ix, iy, ld, le, hbl, hib', ec, st]
        exact hJ _ hi ⟨by simp, rfl, he⟩
      · rw [if_neg hpq] at he
        by_cases hlt : p < q
        · rw [if_pos hlt] at ec
          rw [decide_eq_true hlt] at he
          simp [g677_0, hM, g8, gh, hi, ix, iy, ld, le, hbl, hib', ec, st]
          exact hR _ _ ⟨-1, rfl, rfl, by simp [he]⟩
        · rw [if_neg hlt, if_pos (by omega)] at ec
          rw [decide_eq_false hlt] at he
          simp [g677_0, hM, g8, gh, hi, ix, iy, ld, le, hbl, hib', ec, st]
          exact hR _ _ ⟨1, rfl, rfl, by simp [he]⟩
    · rw [List.drop_of_length_le (by omega)] at he
      have hbl : lenV w = some a.length := by rw [hl]; exact hb.len
      simp [g677_0, hM, g8, gh, hi, ha.len, hbl]
      exact hR _ _ ⟨0, rfl, rfl, by simp [he, ltL]⟩
  obtain ⟨_, _, e, k, rfl, rfl, hk⟩ := this
  exact ⟨k, e, hk⟩

/-- a part of the columns, rising -/
def partB (c xs : List Int) : Bool := (xs.all fun x => decide (x ∈ c)) && decide (xs.Pairwise (· < ·))
end GL

namespace GL
open Go

def smallQ (n : Int) : Bool := decide (-1000 ≤ n ∧ n ≤ 1000)
def rowQ2 (n : Nat) (rows : List (List Int)) (j : Nat) : Bool := decide ((rows.getD j []).length = n) && (rows.getD j []).all smallQ && (decide (j = 0) || ltL (rows.getD (j - 1) []) (rows.getD j []))
def rowsP2 (n : Nat) (rows : List (List Int)) (i : Nat) : Bool := (List.range i).all (rowQ2 n rows)
def goodRl (r : Rl) : Bool := decide (r.c.length ≤ 6) && risB 0 20 r.c && decide (r.rows.length ≤ 60) && rowsP2 r.c.length r.rows r.rows.length
theorem rowsP2_succ (n : Nat) (rows : List (List Int)) (i : Nat) : rowsP2 n rows (i + 1) = (rowsP2 n rows i && rowQ2 n rows i) := by
  simp [rowsP2, List.range_succ]
theorem rowsP2_false {n : Nat} {rows : List (List Int)} {i : Nat} (hi : i < rows.length) (h : rowQ2 n rows i = false) : rowsP2 n rows rows.length = false := by
  rw [rowsP2, List.all_eq_false]; exact ⟨i, List.mem_range.2 hi, by simp [h]⟩
theorem rowsP2_at {n : Nat} {rows : List (List Int)} {i j : Nat} (h : rowsP2 n rows i = true) (hj : j < i) : rowQ2 n rows j = true := List.all_eq_true.1 h j (List.mem_range.2 hj)
theorem notSmall_eq (n : Int) (h : Heap) : call p 676 [vi n] h = some (.bool (!smallQ n), h) := by
  refine go_eq (fn := g676) rfl rfl fun R hR => ?_
  unfold smallQ at hR
  simp [g676, -Bool.decide_and]; exact hR

theorem GoodRelation_eq {h : Heap} {v : V} {r : Rl} (hv : RlV h v r) : call p 659 [v] h = some (.bool (goodRl r), h) := by
  obtain ⟨x, y, F1, F2, rfl, hx, hy⟩ := hv
  have hxs := hx.sl
  have er := isRising_eq hxs 0 20
  refine go_eq (fn := g659) rfl rfl fun R hR => ?_
  by_cases h6 : r.c.length ≤ 6
  · have h6' : ¬ (6 : Int) < r.c.length := by omega
    cases hr : risB 0 20 r.c with
    | false =>
      rw [hr] at er
      rw [goodRl, hr, Bool.and_false] at hR
      simp [g659, upd, hx.cells, hx.cell, hy.cells, hy.cell, hx.len, h6', er]
      exact hR
    | true =>
      rw [hr] at er
      by_cases h60 : r.rows.length ≤ 60
      · have h60' : ¬ (60 : Int) < r.rows.length := by omega
        simp [g659, upd, hx.cells, hx.cell, hy.cells, hy.cell, hx.len, h6', er, hy.len, h60']
        refine Wc_upM (M := [2, 3, 4, 24, 25, 26, 27, 28, 29, 30, 31, 32, 33, 34, 35, 36, 37, 38, 39, 40, 41, 42, 43, 44, 45, 46, 47, 48, 49, 50, 51, 52]) rfl r.rows.length (fun i s => i ≤ r.rows.length ∧ s.σ 24 = .v (vi i) ∧ s.h = h ∧ s.L 1 = (1, [x, y]) ∧ rowsP2 r.c.length r.rows i = true) 0 ⟨by omega, by simp, rfl, by simp [upd], rfl⟩ fun i s ⟨gi, g24, gh, gL, hp⟩ hM J hJ => ?_
        by_cases hi : i < r.rows.length
        · obtain ⟨z, F3, ez, hz, _⟩ := hy.loadL i hi
          have ix := hy.idx 1 .i64 i hi
          simp only [Nat.mul_one] at ix
          have st := hy.step hi
          have bad : rowQ2 r.c.length r.rows i = false → R (.bool false) h := fun hb => by
            rw [goodRl, rowsP2_false hi hb, Bool.and_false] at hR; exact hR
          have gd : r.rows.getD i [] = r.rows[i] := getD_in hi _
          have hS := rowsP2_succ r.c.length r.rows i
          rw [hp, Bool.true_and] at hS
          by_cases hl : r.rows[i].length = r.c.length
          · have ec := containsFh_eq hz.sl 676 [] (fun n => !smallQ n) fun n => notSmall_eq n h
            have ea : (r.rows[i].any fun n => !smallQ n) = !(r.rows[i].all smallQ) := by rw [List.not_all_eq_any_not]
            rw [ea] at ec
            cases hs : r.rows[i].all smallQ with
            | false =>
              rw [hs] at ec
              have hzl := hz.len
              rw [hl] at hzl
              simp [g659_0, hM, g24, gh, gL, hi, ix, ez, upd, hzl, hx.len, ec]
              exact bad (by rw [rowQ2, gd, hs]; simp)
            | true =>
              rw [hs] at ec
              have hzl := hz.len
              rw [hl] at hzl
              by_cases h0 : 0 < i
              · have w : IntKind.i64.wrap ((i : Int) - 1) = (i - 1 : Nat) := by rw [IntWalk.i64_in] <;> omega
                have hi1 : i - 1 < r.rows.length := by omega
                obtain ⟨z2, F4, ez2, hz2, _⟩ := hy.loadL (i - 1) hi1
                have ix2 := hy.idx 1 .i64 (i - 1) hi1
                simp only [Nat.mul_one] at ix2
                have gd2 : r.rows.getD (i - 1) [] = r.rows[i - 1] := getD_in hi1 _
                have hl2 : r.rows[i - 1].length = r.c.length := by
                  have := rowsP2_at hp (show i - 1 < i by omega)
                  rw [rowQ2, gd2] at this
                  simp at this; exact this.1.1
                obtain ⟨k, ek, hk⟩ := CompareI_eq hz2.sl hz.sl (by omega)
                have hq : rowQ2 r.c.length r.rows i = ltL r.rows[i - 1] r.rows[i] := by
                  rw [rowQ2, gd, gd2, hs, decide_eq_true hl, decide_eq_false (by omega : ¬ i = 0)]; rfl
                cases hlt : ltL r.rows[i - 1] r.rows[i] with
                | true =>
                  rw [hlt] at hk hq
                  have hk' : ¬ 0 ≤ k := of_decide_eq_false hk
                  simp [g659_0, hM, g24, gh, gL, hi, ix, ez, upd, hzl, hx.len, ec, h0, w, ix2, ez2, ek, hk', st, -Int.natCast_add]
                  exact hJ _ hi ⟨hi, by simp, by simp, by simp [gL], by rw [hS, hq]⟩
                | false =>
                  rw [hlt] at hk hq
                  have hk' : 0 ≤ k := of_decide_eq_true hk
                  simp [g659_0, hM, g24, gh, gL, hi, ix, ez, upd, hzl, hx.len, ec, h0, w, ix2, ez2, ek, hk']
                  exact bad hq
              · have h0i : i = 0 := by omega
                subst h0i
                have hq : rowQ2 r.c.length r.rows 0 = true := by rw [rowQ2, gd, hs, decide_eq_true hl]; rfl
                simp at g24
                simp at ix ez
                simp at st
                simp [g659_0, hM, g24, gh, gL, hi, ix, ez, upd, hzl, hx.len, ec, st]
                exact hJ _ hi ⟨hi, by simp, by simp, by simp [gL], by rw [hS, hq]⟩
          · have hne : ¬ (r.rows[i].length : Int) = r.c.length := by omega
            simp [g659_0, hM, g24, gh, gL, hi, ix, ez, upd, hz.len, hx.len, hl, hne]
            exact bad (by rw [rowQ2, gd, decide_eq_false hl]; rfl)
        · have : i = r.rows.length := by omega
          subst this
          rw [goodRl, hp, hr, decide_eq_true h6, decide_eq_true h60] at hR
          simp [g659_0, hM, g24, gh]
          exact hR
      · have h60' : (60 : Int) < r.rows.length := by omega
        rw [goodRl, decide_eq_false h60, Bool.and_false] at hR
        simp [g659, upd, hx.cells, hx.cell, hy.cells, hy.cell, hx.len, h6', er, hy.len, h60']
        exact hR
  · have h6' : (6 : Int) < r.c.length := by omega
    rw [goodRl, decide_eq_false h6] at hR
    simp [g659, upd, hx.cells, hx.cell, hy.cells, hy.cell, hx.len, h6']
    exact hR
end GL

namespace GL
open Go

theorem GoodRelationS_eq {h : Heap} {v : V} {r : Rl} (hv : RlV h v r) : call p 662 [v] h = some (.bool (goodRl r), h) := by
  obtain ⟨x, y, F1, F2, rfl, hx, hy⟩ := hv
  have hxs := hx.sl
  have er := l1Rising_eq hxs 0 20
  refine go_eq (fn := g662) rfl rfl fun R hR => ?_
  by_cases h6 : r.c.length ≤ 6
  · have h6' : ¬ (6 : Int) < r.c.length := by omega
    cases hr : risB 0 20 r.c with
    | false =>
      rw [hr] at er
      rw [goodRl, hr, Bool.and_false] at hR
      simp [g662, upd, hx.cells, hx.cell, hy.cells, hy.cell, hx.len, h6', er]
      exact hR
    | true =>
      rw [hr] at er
      by_cases h60 : r.rows.length ≤ 60
      · have h60' : ¬ (60 : Int) < r.rows.length := by omega
        simp [g662, upd, hx.cells, hx.cell, hy.cells, hy.cell, hx.len, h6', er, hy.len, h60']
        refine Wc_upM (M := [2, 3, 4, 24, 25, 26, 27, 28, 29, 30, 31, 32, 33, 34, 35, 36, 37, 38, 39, 40, 41, 42, 43, 44, 45, 46, 47, 48, 49, 50, 51, 52, 53, 54, 55]) rfl r.rows.length (fun i s => i ≤ r.rows.length ∧ s.σ 24 = .v (vi i) ∧ s.h = h ∧ s.L 1 = (1, [x, y]) ∧ rowsP2 r.c.length r.rows i = true) 0 ⟨by omega, by simp, rfl, by simp [upd], rfl⟩ fun i s ⟨gi, g24, gh, gL, hp⟩ hM J hJ => ?_
        by_cases hi : i < r.rows.length
        · obtain ⟨z, F3, ez, hz, _⟩ := hy.loadL i hi
          have ix := hy.idx 1 .i64 i hi
          simp only [Nat.mul_one] at ix
          have st := hy.step hi
          have bad : rowQ2 r.c.length r.rows i = false → R (.bool false) h := fun hb => by
            rw [goodRl, rowsP2_false hi hb, Bool.and_false] at hR; exact hR
          have gd : r.rows.getD i [] = r.rows[i] := getD_in hi _
          have hS := rowsP2_succ r.c.length r.rows i
          rw [hp, Bool.true_and] at hS
          by_cases hl : r.rows[i].length = r.c.length
          · have ec := l1All_eq hz.sl (-1000) 1000
            rw [show (r.rows[i].all fun n => decide (-1000 ≤ n ∧ n ≤ 1000)) = r.rows[i].all smallQ from rfl] at ec
            cases hs : r.rows[i].all smallQ with
            | false =>
              rw [hs] at ec
              have hzl := hz.len
              rw [hl] at hzl
              simp [g662_0, hM, g24, gh, gL, hi, ix, ez, upd, hzl, hx.len, ec]
              exact bad (by rw [rowQ2, gd, hs]; simp)
            | true =>
              rw [hs] at ec
              have hzl := hz.len
              rw [hl] at hzl
              by_cases h0 : 0 < i
              · have w : IntKind.i64.wrap ((i : Int) - 1) = (i - 1 : Nat) := by rw [IntWalk.i64_in] <;> omega
                have hi1 : i - 1 < r.rows.length := by omega
                obtain ⟨z2, F4, ez2, hz2, _⟩ := hy.loadL (i - 1) hi1
                have ix2 := hy.idx 1 .i64 (i - 1) hi1
                simp only [Nat.mul_one] at ix2
                have gd2 : r.rows.getD (i - 1) [] = r.rows[i - 1] := getD_in hi1 _
                have hl2 : r.rows[i - 1].length = r.c.length := by
                  have := rowsP2_at hp (show i - 1 < i by omega)
                  rw [rowQ2, gd2] at this
                  simp at this; exact this.1.1
                have ek := l3Less_eq hz2.sl hz.sl (by omega)
                have hq : rowQ2 r.c.length r.rows i = ltL r.rows[i - 1] r.rows[i] := by
                  rw [rowQ2, gd, gd2, hs, decide_eq_true hl, decide_eq_false (by omega : ¬ i = 0)]; rfl
                cases hlt : ltL r.rows[i - 1] r.rows[i] with
                | true =>
                  rw [hlt] at ek hq
                  simp [g662_0, hM, g24, gh, gL, hi, ix, ez, upd, hzl, hx.len, ec, h0, w, ix2, ez2, ek, st, -Int.natCast_add]
                  exact hJ _ hi ⟨hi, by simp, by simp, by simp [gL], by rw [hS, hq]⟩
                | false =>
                  rw [hlt] at ek hq
                  simp [g662_0, hM, g24, gh, gL, hi, ix, ez, upd, hzl, hx.len, ec, h0, w, ix2, ez2, ek]
                  exact bad hq
              · have h0i : i = 0 := by omega
                subst h0i
                have hq : rowQ2 r.c.length r.rows 0 = true := by rw [rowQ2, gd, hs, decide_eq_true hl]; rfl
                simp at g24
                simp at ix ez
                simp at st
                simp [g662_0, hM, g24, gh, gL, hi, ix, ez, upd, hzl, hx.len, ec, st]
                exact hJ _ hi ⟨hi, by simp, by simp, by simp [gL], by rw [hS, hq]⟩
          · have hne : ¬ (r.rows[i].length : Int) = r.c.length := by omega
            simp [g662_0, hM, g24, gh, gL, hi, ix, ez, upd, hz.len, hx.len, hl, hne]
            exact bad (by rw [rowQ2, gd, decide_eq_false hl]; rfl)
        · have : i = r.rows.length := by omega
          subst this
          rw [goodRl, hp, hr, decide_eq_true h6, decide_eq_true h60] at hR
          simp [g662_0, hM, g24, gh]
          exact hR
      · have h60' : (60 : Int) < r.rows.length := by omega
        rw [goodRl, decide_eq_false h60, Bool.and_false] at hR
        simp [g662, upd, hx.cells, hx.cell, hy.cells, hy.cell, hx.len, h6', er, hy.len, h60']
        exact hR
  · have h6' : (6 : Int) < r.c.length := by omega
    rw [goodRl, decide_eq_false h6] at hR
    simp [g662, upd, hx.cells, hx.cell, hy.cells, hy.cell, hx.len, h6']
    exact hR
end GL

namespace GL
open Go

theorem isPart_eq {h : Heap} {v w : V} {xs c : List Int} (hs : Sl h v xs) (hc : Sl h w c) : call p 660 [v, w] h = some (.bool (partB c xs), h) := by
  refine go_eq (fn := g660) rfl rfl fun R hR => ?_
  simp [g660, hs.len]
  refine Wc_upM (M := [4, 5, 6, 9, 10, 11, 12, 13, 14, 15, 16, 17, 18, 19, 20, 21, 22, 23, 24, 25, 26, 27, 28, 29, 30, 31]) rfl xs.length (fun i s => i ≤ xs.length ∧ s.σ 9 = .v (vi i) ∧ s.h = h ∧ (∀ x ∈ xs.take i, x ∈ c) ∧ (xs.take i).Pairwise (· < ·)) 0 ⟨by omega, by simp, rfl, by simp, by simp⟩ fun i s ⟨gi, g9, gh, q1, q2⟩ hM J hJ => ?_
  by_cases hn : i < xs.length
  · have ht := List.take_succ_eq_append_getElem hn
    have bad : ¬ ((∀ x ∈ xs, x ∈ c) ∧ xs.Pairwise (· < ·)) → R (.bool false) h := fun hb => by
      have : partB c xs = false := by
        rw [Bool.eq_false_iff]; intro h; simp only [partB, Bool.and_eq_true, List.all_eq_true, decide_eq_true_eq] at h; exact hb h
      rw [this] at hR; exact hR
    have ix := hs.idx 1 .i64 i hn
    have ld := hs.loadI i hn
    have st := hs.step hn
    simp only [Nat.mul_one] at ix
    have ec := containsI_eq hc xs[i]
    by_cases h1 : xs[i] ∈ c
    · rw [decide_eq_true h1] at ec
      by_cases h0 : 0 < i
      · have w : IntKind.i64.wrap ((i : Int) - 1) = (i - 1 : Nat) := by have := hs.bd; rw [IntWalk.i64_in] <;> omega
        have hi1 : i - 1 < xs.length := by omega
        have ix2 := hs.idx 1 .i64 (i - 1) hi1
        have ld2 := hs.loadI (i - 1) hi1
        simp only [Nat.mul_one] at ix2
        by_cases h2 : xs[i - 1] < xs[i]
        · have h2' : ¬ xs[i] ≤ xs[i - 1] := by omega
          simp [g660_0, hM, g9, gh, hn, ix, ld, ec, h0, w, ix2, ld2, h2', st]
          refine hJ _ hn ⟨hn, by simp, rfl, (all_take_succ hn).2 ⟨q1, h1⟩, ?_⟩
          rw [ht]
          refine ris_snoc q2 fun hp => ?_
          simp at hp
          have e : (xs.take i).length - 1 = i - 1 := by simp; omega
          simp only [e, List.getElem_take]; exact h2
        · have h2' : xs[i] ≤ xs[i - 1] := by omega
          simp [g660_0, hM, g9, gh, hn, ix, ld, ec, h0, w, ix2, ld2, h2']
          exact bad fun ⟨_, b⟩ => h2 ((List.pairwise_iff_getElem.1 b) (i - 1) i hi1 hn (by omega))
      · simp [g660_0, hM, g9, gh, hn, ix, ld, ec, h0, st]
        refine hJ _ hn ⟨hn, by simp, rfl, (all_take_succ hn).2 ⟨q1, h1⟩, ?_⟩
        rw [ht]
        refine ris_snoc q2 fun hp => ?_
        simp at hp; omega
    · rw [decide_eq_false h1] at ec
      simp [g660_0, hM, g9, gh, hn, ix, ld, ec]
      exact bad fun ⟨a, _⟩ => h1 (a _ (List.getElem_mem hn))
  · rw [List.take_of_length_le (by omega)] at q1 q2
    simp [g660_0, hM, g9, gh, hn]
    have : partB c xs = true := by simp only [partB, Bool.and_eq_true, List.all_eq_true, decide_eq_true_eq]; exact ⟨q1, q2⟩
    rw [this] at hR; exact hR
theorem place_neg {c : List Int} {n : Int} : placeL c n < 0 ↔ n ∉ c := by
  rw [placeL]; split
  · rename_i h; constructor
    · intro h2; omega
    · exact fun h2 => absurd h h2
  · rename_i h; exact ⟨fun _ => h, fun _ => by decide⟩
theorem l3Sub_eq {h : Heap} {v w : V} {xs c : List Int} (hc : Sl h v c) (hs : Sl h w xs) (hin : ∀ x ∈ c, 0 ≤ x ∧ x ≤ 20) : call p 663 [v, w] h = some (.bool (partB c xs), h) := by
  have er := l1Rising_eq hs 0 20
  refine go_eq (fn := g663) rfl rfl fun R hR => ?_
  simp [g663, hs.len]
  refine Wc_upM (M := [4, 6, 9, 10, 11, 12, 13, 14, 15, 16, 17]) rfl xs.length (fun i s => s.σ 9 = .v (vi i) ∧ s.h = h ∧ (∀ x ∈ xs.take i, x ∈ c)) 0 ⟨by simp, rfl, by simp⟩ fun i s ⟨g9, gh, q1⟩ hM J hJ => ?_
  by_cases hn : i < xs.length
  · have ix := hs.idx 1 .i64 i hn
    have ld := hs.loadI i hn
    have st := hs.step hn
    simp only [Nat.mul_one] at ix
    have ec := l3At_eq hc xs[i]
    by_cases h1 : xs[i] ∈ c
    · have h2 : ¬ placeL c xs[i] < 0 := fun h => place_neg.1 h h1
      simp [g663_0, hM, g9, gh, hn, ix, ld, ec, h2, st]
      exact hJ _ hn ⟨by simp, rfl, (all_take_succ hn).2 ⟨q1, h1⟩⟩
    · have h2 : placeL c xs[i] < 0 := place_neg.2 h1
      have : partB c xs = false := by
        rw [partB, all_false hn (decide_eq_false h1)]; rfl
      rw [this] at hR
      simp [g663_0, hM, g9, gh, hn, ix, ld, ec, h2]
      exact hR
  · rw [List.take_of_length_le (by omega)] at q1
    have e : risB 0 20 xs = partB c xs := by
      rw [partB, List.all_eq_true.2 fun x hx => decide_eq_true (q1 x hx), Bool.true_and, risB]
      congr 1
      simp only [eq_iff_iff, and_iff_right_iff_imp]
      exact fun _ x hx => hin x (q1 x hx)
    rw [e] at er
    simp [g663_0, hM, g9, gh, hn, er]
    exact hR

def pickL (c row xs : List Int) : List Int := xs.map fun x => row.getD (placeL c x).toNat 0
theorem place_in {c : List Int} {n : Int} (h : n ∈ c) : 0 ≤ placeL c n ∧ placeL c n < c.length := by
  rw [placeL, if_pos h]
  have := List.idxOf_lt_length_iff.2 h
  omega
theorem under_ok {h : Heap} {v w u : V} {c row xs : List Int} (hc : Sl h v c) (hr : Sl h w row) (hs : Sl h u xs) (hl : row.length = c.length) (hin : ∀ x ∈ xs, x ∈ c) (hx : xs.length ≤ 2 ^ 20) (hcl : c.length ≤ 2 ^ 20) :
    ∃ r h', call p 661 [v, w, u] h = some (r, h') ∧ Out h.length h' r (pickL c row xs) ∧ Keeps h h' ∧ h.length ≤ h'.length := by
  refine go (fn := g661) rfl rfl fun R hR => ?_
  simp [g661, hs.len]
  refine Wc_upM (M := [7, 9, 13, 14, 15, 16, 17, 18, 19, 20, 21, 22, 23, 24, 25, 26]) rfl xs.length (fun i s => i ≤ xs.length ∧ s.σ 13 = .v (vi i) ∧ ∃ v7, s.σ 7 = .v v7 ∧ Out h.length s.h v7 (pickL c row (xs.take i)) ∧ Keeps h s.h ∧ h.length ≤ s.h.length) 0
    ⟨by omega, by simp, .slice h.length 0 0 (.k 0), by simp, by simpa [pickL] using Out.empty (Nat.le_refl _) (by simp), Keeps.append _ _, by simp⟩ fun i s ⟨gi, g13, v7, g7, ho, hk, hl0⟩ hM J hJ => ?_
  by_cases hn : i < xs.length
  · have ix := hs.idx 1 .i64 i hn
    have ld := (hs.keeps hk).loadI i hn
    have st := hs.step hn
    simp only [Nat.mul_one] at ix
    have hm := hin _ (List.getElem_mem hn)
    have ec := indexPl_eq (hc.keeps hk) xs[i]
    have pin := place_in hm
    have hrk := hr.keeps hk
    obtain ⟨q, hq⟩ : ∃ q : Nat, placeL c xs[i] = q := ⟨(placeL c xs[i]).toNat, by omega⟩
    have hqr : q < row.length := by omega
    have iy := hrk.idx 1 .i64 q hqr
    have ly := hrk.loadI q hqr
    simp only [Nat.mul_one] at iy
    rw [hq] at ec
    have ht : pickL c row (xs.take (i + 1)) = pickL c row (xs.take i) ++ [row[q]] := by
      rw [List.take_succ_eq_append_getElem hn, pickL, List.map_append, pickL]
      simp [hq, hqr]
    obtain ⟨v', h2, e2, o2, k2, l2⟩ := ho.one row[q] (by simp [pickL]; omega)
    have kk := ho.far hk k2 (Nat.le_refl _)
    generalize row[q] = z at *
    simp [g661_0, hM, g13, g7, hn, ix, ld, ec, iy, ly, fillL, rdS_last, e2, st]
    refine hJ _ hn ⟨hn, by simp, v', by simp, by rw [ht]; exact o2, kk, by show h.length ≤ h2.length; omega⟩
  · have : i = xs.length := by omega
    subst this
    rw [List.take_length] at ho
    simp [g661_0, hM, g13, g7]
    exact hR _ _ ⟨ho, hk, hl0⟩
theorem l3Pick_ok {h : Heap} {v w u : V} {c row xs : List Int} (hc : Sl h v c) (hr : Sl h w row) (hs : Sl h u xs) (hl : row.length = c.length) (hin : ∀ x ∈ xs, x ∈ c) (hx : xs.length ≤ 2 ^ 20) (hcl : c.length ≤ 2 ^ 20) :
    ∃ r h', call p 679 [v, w, u] h = some (r, h') ∧ Out h.length h' r (pickL c row xs) ∧ Keeps h h' ∧ h.length ≤ h'.length := by
  refine go (fn := g679) rfl rfl fun R hR => ?_
  simp [g679, hs.len]
  refine Wc_upM (M := [7, 9, 12, 13, 14, 15, 16, 17, 18, 19, 20, 21, 22, 23, 24, 25]) rfl xs.length (fun i s => i ≤ xs.length ∧ s.σ 12 = .v (vi i) ∧ ∃ v7, s.σ 7 = .v v7 ∧ Out h.length s.h v7 (pickL c row (xs.take i)) ∧ Keeps h s.h ∧ h.length ≤ s.h.length) 0
    ⟨by omega, by simp, .nils, by simp, by simpa [pickL] using Out.nil (Nat.le_refl _), Keeps.refl _, Nat.le_refl _⟩ fun i s ⟨gi, g13, v7, g7, ho, hk, hl0⟩ hM J hJ => ?_
  by_cases hn : i < xs.length
  · have ix := hs.idx 1 .i64 i hn
    have ld := (hs.keeps hk).loadI i hn
    have st := hs.step hn
    simp only [Nat.mul_one] at ix
    have hm := hin _ (List.getElem_mem hn)
    have ec := l3At_eq (hc.keeps hk) xs[i]
    have pin := place_in hm
    have hrk := hr.keeps hk
    obtain ⟨q, hq⟩ : ∃ q : Nat, placeL c xs[i] = q := ⟨(placeL c xs[i]).toNat, by omega⟩
    have hqr : q < row.length := by omega
    have iy := hrk.idx 1 .i64 q hqr
    have ly := hrk.loadI q hqr
    simp only [Nat.mul_one] at iy
    rw [hq] at ec
    have ht : pickL c row (xs.take (i + 1)) = pickL c row (xs.take i) ++ [row[q]] := by
      rw [List.take_succ_eq_append_getElem hn, pickL, List.map_append, pickL]
      simp [hq, hqr]
    obtain ⟨v', h2, e2, o2, k2, l2⟩ := ho.one row[q] (by simp [pickL]; omega)
    have kk := ho.far hk k2 (Nat.le_refl _)
    generalize row[q] = z at *
    simp [g679_0, hM, g13, g7, hn, ix, ld, ec, iy, ly, fillL, rdS_last, e2, st]
    refine hJ _ hn ⟨hn, by simp, v', by simp, by rw [ht]; exact o2, kk, by show h.length ≤ h2.length; omega⟩
  · have : i = xs.length := by omega
    subst this
    rw [List.take_length] at ho
    simp [g679_0, hM, g13, g7]
    exact hR _ _ ⟨ho, hk, hl0⟩
end GL

namespace GL
open Go

def DpV (h : Heap) (v : V) (f : Dp) : Prop := ∃ x y F1 F2, v = .agg [x, y] ∧ SdF h x f.l F1 ∧ SdF h y f.r F2
theorem DpV.keep {h h' : Heap} {v : V} {f : Dp} (hr : DpV h v f) (k : Keeps h h') : DpV h' v f := by
  obtain ⟨x, y, F1, F2, rfl, h1, h2⟩ := hr
  exact ⟨x, y, F1, F2, rfl, h1.keep k, h2.keep k⟩
def holdsP (r : Rl) (f : Dp) (i j : Nat) : Bool := !(decide (pickL r.c (r.rows.getD i []) f.l = pickL r.c (r.rows.getD j []) f.l) && !decide (pickL r.c (r.rows.getD i []) f.r = pickL r.c (r.rows.getD j []) f.r))
def holdsB (r : Rl) (f : Dp) : Bool := (List.range r.rows.length).all fun i => (List.range i).all (holdsP r f i)
theorem goodRl_facts {r : Rl} (h : goodRl r = true) : r.c.length ≤ 6 ∧ (∀ x ∈ r.c, 0 ≤ x ∧ x ≤ 20) ∧ r.rows.length ≤ 60 ∧ ∀ i (hi : i < r.rows.length), r.rows[i].length = r.c.length := by
  simp only [goodRl, Bool.and_eq_true, decide_eq_true_eq] at h
  refine ⟨h.1.1.1, (ris_of.1 h.1.1.2).1, h.1.2, fun i hi => ?_⟩
  have := rowsP2_at h.2 hi
  simp only [rowQ2, Bool.and_eq_true, decide_eq_true_eq] at this
  rw [getD_in hi] at this
  exact this.1.1
theorem part_facts {c xs : List Int} (h : partB c xs = true) : (∀ x ∈ xs, x ∈ c) ∧ xs.length ≤ c.length := by
  simp only [partB, Bool.and_eq_true, decide_eq_true_eq, List.all_eq_true] at h
  exact ⟨h.1, sub_len (h.2.imp fun q => Int.ne_of_lt q) h.1⟩

theorem holds_loop {h : Heap} {v w : V} {r : Rl} {f : Dp} (hv : RlV h v r) (hw : DpV h w f) (hg : goodRl r = true) (hp1 : partB r.c f.l = true) (hp2 : partB r.c f.r = true) (s0 : S) (K : Ex → S → Prop) {x y a b : V} (ev : v = .agg [x, y]) (ew : w = .agg [a, b]) (gh : s0.h = h) (gL2 : s0.L 2 = (1, [x, y])) (gL3 : s0.L 3 = (1, [a, b])) (g2 : s0.σ 2 = .lp 2 1 0) (g3 : s0.σ 3 = .lp 3 1 0) (gi0 : s0.σ 30 = .v y) (gi1 : s0.σ 31 = .v (vi r.rows.length)) (gi2 : s0.σ 32 = .v (vi 0))
    (hK1 : ∀ s, Keeps h s.h → h.length ≤ s.h.length → holdsB r f = true → K (.exit 0) s)
    (hK2 : ∀ s, Keeps h s.h → h.length ≤ s.h.length → holdsB r f = false → s.σ 4 = .v (.bool false) → s.σ 5 = .v (.bool true) → K .ret s) : Wc p (.loop g620_1) s0 K := by
  obtain ⟨x', y', F1, F2, ev', hx, hy⟩ := hv
  obtain ⟨a', b', F3, F4, ew', ha, hb⟩ := hw
  rw [ev] at ev'; cases ev'
  rw [ew] at ew'; cases ew'
  obtain ⟨hc6, hc20, h60, hrow⟩ := goodRl_facts hg
  obtain ⟨p1, p1'⟩ := part_facts hp1
  obtain ⟨p2, p2'⟩ := part_facts hp2
  refine Wc_upM (M := [4, 5, 6, 7, 9, 32, 33, 34, 35, 36, 37, 38, 39, 40, 41, 42, 43, 44, 45, 46, 47, 48, 49, 50, 51, 52, 53, 54, 55, 56, 57, 58, 59, 60, 61, 62, 63, 64, 65, 66, 67, 68, 69, 70, 71, 72, 73, 74, 75, 76]) rfl r.rows.length (fun i s => i ≤ r.rows.length ∧ s.σ 32 = .v (vi i) ∧ Keeps h s.h ∧ h.length ≤ s.h.length ∧ s.L 2 = (1, [x, y]) ∧ s.L 3 = (1, [a, b]) ∧ ((List.range i).all fun i => (List.range i).all (holdsP r f i)) = true) 0 ⟨by omega, gi2, by rw [gh]; exact Keeps.refl _, by rw [gh]; exact Nat.le_refl _, gL2, gL3, rfl⟩ fun i s ⟨hi0, gI, hk, hl, qL2, qL3, hall⟩ hM J hJ => ?_
  by_cases hi : i < r.rows.length
  · have hys := hy.keep hk
    obtain ⟨z, Fz, ez, hz, _⟩ := hys.loadL i hi
    have ix := hys.idx 1 .i64 i hi
    simp only [Nat.mul_one] at ix
    have st := hys.step hi
    obtain ⟨u, Fu, eu, su, _, _⟩ := hys.sub (lo := none) (hi := some i) (i := 0) (j := i) rfl rfl (by omega) (by omega) (k := 1) rfl
    rw [List.drop_zero] at su
    have sul := su.len
    have hti : (r.rows.take i).length = i := by rw [List.length_take]; omega
    rw [hti] at sul
    have hzl : r.rows[i].length = r.c.length := hrow i hi
    simp [g620_1, hM, gI, gi0, gi1, hi, ix, ez, qL2, qL3, g2, g3, bounds, takeB, eu, sul]
    refine Wc_upM (M := [4, 5, 9, 42, 43, 44, 45, 46, 47, 48, 49, 50, 51, 52, 53, 54, 55, 56, 57, 58, 59, 60, 61, 62, 63, 64, 65, 66, 67, 68, 69, 70, 71, 72, 73, 74, 75]) rfl i (fun j t => j ≤ i ∧ t.σ 42 = .v (vi j) ∧ Keeps s.h t.h ∧ s.h.length ≤ t.h.length ∧ t.L 2 = (1, [x, y]) ∧ t.L 3 = (1, [a, b]) ∧ ((List.range j).all (holdsP r f i)) = true) 0 ⟨by omega, by simp, Keeps.refl _, Nat.le_refl _, by simpa using qL2, by simpa using qL3, rfl⟩ fun j t ⟨hj0, gJ, hk1, hl1, tL2, tL3, hall1⟩ hM1 J1 hJ1 => ?_
    by_cases hj : j < i
    · have hju : j < (r.rows.take i).length := by omega
      have sut := su.keep hk1
      obtain ⟨z2, Fz2, ez2, hz2, _⟩ := sut.loadL j hju
      have ix2 := sut.idx 1 .i64 j hju
      simp only [Nat.mul_one] at ix2
      have st2 := sut.step hju
      have hjr : j < r.rows.length := by omega
      have ej : (r.rows.take i)[j] = r.rows[j] := by simp
      rw [ej] at hz2
      have hz2l : r.rows[j].length = r.c.length := hrow j hjr
      have kt := hk.trans hk1
      have fl6 : f.l.length ≤ 2 ^ 20 := by omega
      have fr6 : f.r.length ≤ 2 ^ 20 := by omega
      obtain ⟨r1, h1, e1, o1, k1, l1⟩ := under_ok (hx.sl.keeps kt) (hz.sl.keeps hk1) (ha.sl.keeps kt) hzl p1 fl6 (by omega)
      obtain ⟨r2, h2, e2, o2, k2, l2⟩ := under_ok ((hx.sl.keeps kt).keeps k1) (hz2.sl.keeps k1) ((ha.sl.keeps kt).keeps k1) hz2l p1 fl6 (by omega)
      have k12 := k1.trans k2
      have e3 := Equal_eq (o1.sl.keeps k2) o2.sl
      have hS : ((List.range (j + 1)).all (holdsP r f i)) = holdsP r f i j := by rw [List.range_succ, List.all_append, hall1]; simp
      have hPdef : holdsP r f i j = !(decide (pickL r.c r.rows[i] f.l = pickL r.c r.rows[j] f.l) && !decide (pickL r.c r.rows[i] f.r = pickL r.c r.rows[j] f.r)) := by
        simp only [holdsP]; rw [getD_in hi, getD_in hjr]
      by_cases q1 : pickL r.c r.rows[i] f.l = pickL r.c r.rows[j] f.l
      · rw [decide_eq_true q1] at e3
        obtain ⟨r4, h4, e4, o4, k4, l4⟩ := under_ok ((hx.sl.keeps kt).keeps k12) ((hz.sl.keeps hk1).keeps k12) ((hb.sl.keeps kt).keeps k12) hzl p2 fr6 (by omega)
        obtain ⟨r5, h5, e5, o5, k5, l5⟩ := under_ok (((hx.sl.keeps kt).keeps k12).keeps k4) ((hz2.sl.keeps k12).keeps k4) (((hb.sl.keeps kt).keeps k12).keeps k4) hz2l p2 fr6 (by omega)
        have e6 := Equal_eq (o4.sl.keeps k5) o5.sl
        have k15 := (k12.trans k4).trans k5
        have hl5 : s.h.length ≤ h5.length := by omega
        by_cases q2 : pickL r.c r.rows[i] f.r = pickL r.c r.rows[j] f.r
        · rw [decide_eq_true q2] at e6
          simp [g620_0, hM1, hM, gJ, hj, ix2, ez2, tL2, tL3, g2, g3, e1, e2, e3, e4, e5, e6, st2, hx.cells, hx.cell, ha.cells, ha.cell, hb.cells, hb.cell]
          exact hJ1 _ hj ⟨hj, by simp, hk1.trans k15, hl5, by simpa using tL2, by simpa using tL3, by rw [hS, hPdef, decide_eq_true q1, decide_eq_true q2]; rfl⟩
        · rw [decide_eq_false q2] at e6
          simp [g620_0, hM1, hM, gJ, hj, ix2, ez2, tL2, tL3, g2, g3, e1, e2, e3, e4, e5, e6, hx.cells, hx.cell, ha.cells, ha.cell, hb.cells, hb.cell]
          refine hK2 _ (kt.trans k15) (by show h.length ≤ h5.length; omega) ?_ (by simp) (by simp)
          rw [holdsB, List.all_eq_false]
          refine ⟨i, List.mem_range.2 hi, ?_⟩
          rw [Bool.not_eq_true, List.all_eq_false]
          exact ⟨j, List.mem_range.2 hj, by rw [hPdef, decide_eq_true q1, decide_eq_false q2]; simp⟩
      · rw [decide_eq_false q1] at e3
        simp [g620_0, hM1, hM, gJ, hj, ix2, ez2, tL2, tL3, g2, g3, e1, e2, e3, st2, hx.cells, hx.cell, ha.cells, ha.cell]
        exact hJ1 _ hj ⟨hj, by simp, hk1.trans k12, by show s.h.length ≤ h2.length; omega, by simpa using tL2, by simpa using tL3, by rw [hS, hPdef, decide_eq_false q1]; rfl⟩
    · have : j = i := by omega
      subst this
      simp [g620_0, hM1, hM, gJ, gI, st]
      refine hJ _ hi ⟨hi, by simp, hk.trans hk1, by show h.length ≤ t.h.length; omega, by simpa using tL2, by simpa using tL3, ?_⟩
      rw [List.range_succ, List.all_append, hall]; simpa using hall1
  · have : i = r.rows.length := by omega
    subst this
    simp [g620_1, hM, gI, gi1]
    exact hK1 _ hk hl hall

theorem holds_loopS {h : Heap} {v w : V} {r : Rl} {f : Dp} (hv : RlV h v r) (hw : DpV h w f) (hg : goodRl r = true) (hp1 : partB r.c f.l = true) (hp2 : partB r.c f.r = true) (s0 : S) (K : Ex → S → Prop) {x y a b : V} (ev : v = .agg [x, y]) (ew : w = .agg [a, b]) (gh : s0.h = h) (gL2 : s0.L 2 = (1, [x, y])) (gL3 : s0.L 3 = (1, [a, b])) (g2 : s0.σ 2 = .lp 2 1 0) (g3 : s0.σ 3 = .lp 3 1 0) (gi0 : s0.σ 10 = .v y) (gi1 : s0.σ 11 = .v (vi r.rows.length)) (gi2 : s0.σ 12 = .v (vi 0))
    (hK1 : ∀ s, Keeps h s.h → h.length ≤ s.h.length → holdsB r f = true → K (.exit 0) s)
    (hK2 : ∀ s, Keeps h s.h → h.length ≤ s.h.length → holdsB r f = false → s.σ 4 = .v (.bool false) → K .ret s) : Wc p (.loop g664_1) s0 K := by
  obtain ⟨x', y', F1, F2, ev', hx, hy⟩ := hv
  obtain ⟨a', b', F3, F4, ew', ha, hb⟩ := hw
  rw [ev] at ev'; cases ev'
  rw [ew] at ew'; cases ew'
  obtain ⟨hc6, hc20, h60, hrow⟩ := goodRl_facts hg
  obtain ⟨p1, p1'⟩ := part_facts hp1
  obtain ⟨p2, p2'⟩ := part_facts hp2
  refine Wc_upM (M := [4, 5, 6, 8, 12, 13, 14, 15, 16, 17, 18, 19, 20, 21, 22, 23, 24, 25, 26, 27, 28, 29, 30, 31, 32, 33, 34, 35, 36, 37, 38, 39, 40, 41, 42, 43, 44, 45, 46, 47, 48, 49, 50, 51, 52, 53, 54, 55, 56]) rfl r.rows.length (fun i s => i ≤ r.rows.length ∧ s.σ 12 = .v (vi i) ∧ Keeps h s.h ∧ h.length ≤ s.h.length ∧ s.L 2 = (1, [x, y]) ∧ s.L 3 = (1, [a, b]) ∧ ((List.range i).all fun i => (List.range i).all (holdsP r f i)) = true) 0 ⟨by omega, gi2, by rw [gh]; exact Keeps.refl _, by rw [gh]; exact Nat.le_refl _, gL2, gL3, rfl⟩ fun i s ⟨hi0, gI, hk, hl, qL2, qL3, hall⟩ hM J hJ => ?_
  by_cases hi : i < r.rows.length
  · have hys := hy.keep hk
    obtain ⟨z, Fz, ez, hz, _⟩ := hys.loadL i hi
    have ix := hys.idx 1 .i64 i hi
    simp only [Nat.mul_one] at ix
    have st := hys.step hi
    obtain ⟨u, Fu, eu, su, _, _⟩ := hys.sub (lo := none) (hi := some i) (i := 0) (j := i) rfl rfl (by omega) (by omega) (k := 1) rfl
    rw [List.drop_zero] at su
    have sul := su.len
    have hti : (r.rows.take i).length = i := by rw [List.length_take]; omega
    rw [hti] at sul
    have hzl : r.rows[i].length = r.c.length := hrow i hi
    simp [g664_1, hM, gI, gi0, gi1, hi, ix, ez, qL2, qL3, g2, g3, bounds, takeB, eu, sul]
    refine Wc_upM (M := [4, 8, 22, 23, 24, 25, 26, 27, 28, 29, 30, 31, 32, 33, 34, 35, 36, 37, 38, 39, 40, 41, 42, 43, 44, 45, 46, 47, 48, 49, 50, 51, 52, 53, 54, 55]) rfl i (fun j t => j ≤ i ∧ t.σ 22 = .v (vi j) ∧ Keeps s.h t.h ∧ s.h.length ≤ t.h.length ∧ t.L 2 = (1, [x, y]) ∧ t.L 3 = (1, [a, b]) ∧ ((List.range j).all (holdsP r f i)) = true) 0 ⟨by omega, by simp, Keeps.refl _, Nat.le_refl _, by simpa using qL2, by simpa using qL3, rfl⟩ fun j t ⟨hj0, gJ, hk1, hl1, tL2, tL3, hall1⟩ hM1 J1 hJ1 => ?_
    by_cases hj : j < i
    · have hju : j < (r.rows.take i).length := by omega
      have sut := su.keep hk1
      obtain ⟨z2, Fz2, ez2, hz2, _⟩ := sut.loadL j hju
      have ix2 := sut.idx 1 .i64 j hju
      simp only [Nat.mul_one] at ix2
      have st2 := sut.step hju
      have hjr : j < r.rows.length := by omega
      have ej : (r.rows.take i)[j] = r.rows[j] := by simp
      rw [ej] at hz2
      have hz2l : r.rows[j].length = r.c.length := hrow j hjr
      have kt := hk.trans hk1
      have fl6 : f.l.length ≤ 2 ^ 20 := by omega
      have fr6 : f.r.length ≤ 2 ^ 20 := by omega
      obtain ⟨r1, h1, e1, o1, k1, l1⟩ := l3Pick_ok (hx.sl.keeps kt) (hz.sl.keeps hk1) (ha.sl.keeps kt) hzl p1 fl6 (by omega)
      obtain ⟨r2, h2, e2, o2, k2, l2⟩ := l3Pick_ok ((hx.sl.keeps kt).keeps k1) (hz2.sl.keeps k1) ((ha.sl.keeps kt).keeps k1) hz2l p1 fl6 (by omega)
      have k12 := k1.trans k2
      have e3 := l1Same_eq (o1.sl.keeps k2) o2.sl
      have hS : ((List.range (j + 1)).all (holdsP r f i)) = holdsP r f i j := by rw [List.range_succ, List.all_append, hall1]; simp
      have hPdef : holdsP r f i j = !(decide (pickL r.c r.rows[i] f.l = pickL r.c r.rows[j] f.l) && !decide (pickL r.c r.rows[i] f.r = pickL r.c r.rows[j] f.r)) := by
        simp only [holdsP]; rw [getD_in hi, getD_in hjr]
      by_cases q1 : pickL r.c r.rows[i] f.l = pickL r.c r.rows[j] f.l
      · rw [decide_eq_true q1] at e3
        obtain ⟨r4, h4, e4, o4, k4, l4⟩ := l3Pick_ok ((hx.sl.keeps kt).keeps k12) ((hz.sl.keeps hk1).keeps k12) ((hb.sl.keeps kt).keeps k12) hzl p2 fr6 (by omega)
        obtain ⟨r5, h5, e5, o5, k5, l5⟩ := l3Pick_ok (((hx.sl.keeps kt).keeps k12).keeps k4) ((hz2.sl.keeps k12).keeps k4) (((hb.sl.keeps kt).keeps k12).keeps k4) hz2l p2 fr6 (by omega)
        have e6 := l1Same_eq (o4.sl.keeps k5) o5.sl
        have k15 := (k12.trans k4).trans k5
        have hl5 : s.h.length ≤ h5.length := by omega
        by_cases q2 : pickL r.c r.rows[i] f.r = pickL r.c r.rows[j] f.r
        · rw [decide_eq_true q2] at e6
          simp [g664_0, hM1, hM, gJ, hj, ix2, ez2, tL2, tL3, g2, g3, e1, e2, e3, e4, e5, e6, st2, hx.cells, hx.cell, ha.cells, ha.cell, hb.cells, hb.cell]
          exact hJ1 _ hj ⟨hj, by simp, hk1.trans k15, hl5, by simpa using tL2, by simpa using tL3, by rw [hS, hPdef, decide_eq_true q1, decide_eq_true q2]; rfl⟩
        · rw [decide_eq_false q2] at e6
          simp [g664_0, hM1, hM, gJ, hj, ix2, ez2, tL2, tL3, g2, g3, e1, e2, e3, e4, e5, e6, hx.cells, hx.cell, ha.cells, ha.cell, hb.cells, hb.cell]
          refine hK2 _ (kt.trans k15) (by show h.length ≤ h5.length; omega) ?_ (by simp)
          rw [holdsB, List.all_eq_false]
          refine ⟨i, List.mem_range.2 hi, ?_⟩
          rw [Bool.not_eq_true, List.all_eq_false]
          exact ⟨j, List.mem_range.2 hj, by rw [hPdef, decide_eq_true q1, decide_eq_false q2]; simp⟩
      · rw [decide_eq_false q1] at e3
        simp [g664_0, hM1, hM, gJ, hj, ix2, ez2, tL2, tL3, g2, g3, e1, e2, e3, st2, hx.cells, hx.cell, ha.cells, ha.cell]
        exact hJ1 _ hj ⟨hj, by simp, hk1.trans k12, by show s.h.length ≤ h2.length; omega, by simpa using tL2, by simpa using tL3, by rw [hS, hPdef, decide_eq_false q1]; rfl⟩
    · have : j = i := by omega
      subst this
      simp [g664_0, hM1, hM, gJ, gI, st]
      refine hJ _ hi ⟨hi, by simp, hk.trans hk1, by show h.length ≤ t.h.length; omega, by simpa using tL2, by simpa using tL3, ?_⟩
      rw [List.range_succ, List.all_append, hall]; simpa using hall1
  · have : i = r.rows.length := by omega
    subst this
    simp [g664_1, hM, gI, gi1]
    exact hK1 _ hk hl hall
end GL

namespace GL
open Go

def okHold (r : Rl) (f : Dp) : Bool := goodRl r && partB r.c f.l && partB r.c f.r
def holdsR (r : Rl) (f : Dp) : V := if okHold r f = true then .tup [.bool (holdsB r f), .bool true] else .tup [.bool false, .bool false]

theorem HoldsIn_ok {h : Heap} {v w : V} {r : Rl} {f : Dp} (hv : RlV h v r) (hw : DpV h w f) : ∃ o h', call p 620 [v, w] h = some (o, h') ∧ o = holdsR r f ∧ Keeps h h' ∧ h.length ≤ h'.length := by
  have e1 := GoodRelation_eq hv
  refine go (fn := g620) rfl rfl fun R hR => ?_
  have hv' := hv
  have hw' := hw
  obtain ⟨x, y, F1, F2, rfl, hx, hy⟩ := hv
  obtain ⟨a, b, F3, F4, rfl, ha, hb⟩ := hw
  have e2 := isPart_eq ha.sl hx.sl
  have e3 := isPart_eq hb.sl hx.sl
  have bad : okHold r f = false → R (.tup [.bool false, .bool false]) h := fun hq => hR _ _ ⟨by rw [holdsR, hq]; rfl, Keeps.refl _, Nat.le_refl _⟩
  cases hg : goodRl r with
  | false =>
    rw [hg] at e1
    simp [g620, upd, hx.cells, hx.cell, hy.cells, hy.cell, ha.cells, ha.cell, hb.cells, hb.cell, e1]
    exact bad (by rw [okHold, hg]; rfl)
  | true =>
    rw [hg] at e1
    cases h1 : partB r.c f.l with
    | false =>
      rw [h1] at e2
      simp [g620, upd, hx.cells, hx.cell, hy.cells, hy.cell, ha.cells, ha.cell, hb.cells, hb.cell, e1, e2]
      exact bad (by rw [okHold, h1, Bool.and_false]; rfl)
    | true =>
      rw [h1] at e2
      cases h2 : partB r.c f.r with
      | false =>
        rw [h2] at e3
        simp [g620, upd, hx.cells, hx.cell, hy.cells, hy.cell, ha.cells, ha.cell, hb.cells, hb.cell, e1, e2, e3]
        exact bad (by rw [okHold, h2, Bool.and_false])
      | true =>
        rw [h2] at e3
        have hok : okHold r f = true := by rw [okHold, hg, h1, h2]; rfl
        simp [g620, upd, hx.cells, hx.cell, hy.cells, hy.cell, ha.cells, ha.cell, hb.cells, hb.cell, e1, e2, e3, hy.len]
        refine holds_loop hv' hw' hg h1 h2 _ _ rfl rfl rfl (by simp [upd]) (by simp [upd]) (by simp) (by simp) (by simp) (by simp) (by simp) (fun s hk hl hb => ?_) (fun s hk hl hb g4 g5 => ?_)
        · simp
          exact hR _ _ ⟨by rw [holdsR, if_pos hok, hb], hk, hl⟩
        · simp [g4, g5]
          exact hR _ _ ⟨by rw [holdsR, if_pos hok, hb], hk, hl⟩
theorem l5Holds_ok {h : Heap} {v w : V} {r : Rl} {f : Dp} (hv : RlV h v r) (hw : DpV h w f) (hg : goodRl r = true) (h1 : partB r.c f.l = true) (h2 : partB r.c f.r = true) : ∃ o h', call p 664 [v, w] h = some (o, h') ∧ o = .bool (holdsB r f) ∧ Keeps h h' ∧ h.length ≤ h'.length := by
  refine go (fn := g664) rfl rfl fun R hR => ?_
  have hv' := hv
  have hw' := hw
  obtain ⟨x, y, F1, F2, rfl, hx, hy⟩ := hv
  obtain ⟨a, b, F3, F4, rfl, ha, hb⟩ := hw
  simp [g664, upd, hx.cells, hx.cell, hy.cells, hy.cell, ha.cells, ha.cell, hb.cells, hb.cell, hy.len]
  refine holds_loopS hv' hw' hg h1 h2 _ _ rfl rfl rfl (by simp [upd]) (by simp [upd]) (by simp) (by simp) (by simp) (by simp) (by simp) (fun s hk hl hb => ?_) (fun s hk hl hb g4 => ?_)
  · simp
    exact hR _ _ ⟨by rw [hb], hk, hl⟩
  · simp [g4]
    exact hR _ _ ⟨by rw [hb], hk, hl⟩
theorem HoldsInS_ok {h : Heap} {v w : V} {r : Rl} {f : Dp} (hv : RlV h v r) (hw : DpV h w f) : ∃ o h', call p 621 [v, w] h = some (o, h') ∧ o = holdsR r f ∧ Keeps h h' ∧ h.length ≤ h'.length := by
  have e1 := GoodRelationS_eq hv
  refine go (fn := g621) rfl rfl fun R hR => ?_
  have hv' := hv
  have hw' := hw
  obtain ⟨x, y, F1, F2, rfl, hx, hy⟩ := hv
  obtain ⟨a, b, F3, F4, rfl, ha, hb⟩ := hw
  have bad : okHold r f = false → R (.tup [.bool false, .bool false]) h := fun hq => hR _ _ ⟨by rw [holdsR, hq]; rfl, Keeps.refl _, Nat.le_refl _⟩
  cases hg : goodRl r with
  | false =>
    rw [hg] at e1
    simp [g621, upd, hx.cells, hx.cell, hy.cells, hy.cell, ha.cells, ha.cell, hb.cells, hb.cell, e1]
    exact bad (by rw [okHold, hg]; rfl)
  | true =>
    rw [hg] at e1
    obtain ⟨_, hc20, _⟩ := goodRl_facts hg
    have e2 := l3Sub_eq hx.sl ha.sl hc20
    have e3 := l3Sub_eq hx.sl hb.sl hc20
    cases h1 : partB r.c f.l with
    | false =>
      rw [h1] at e2
      simp [g621, upd, hx.cells, hx.cell, hy.cells, hy.cell, ha.cells, ha.cell, hb.cells, hb.cell, e1, e2]
      exact bad (by rw [okHold, h1, Bool.and_false]; rfl)
    | true =>
      rw [h1] at e2
      cases h2 : partB r.c f.r with
      | false =>
        rw [h2] at e3
        simp [g621, upd, hx.cells, hx.cell, hy.cells, hy.cell, ha.cells, ha.cell, hb.cells, hb.cell, e1, e2, e3]
        exact bad (by rw [okHold, h2, Bool.and_false])
      | true =>
        rw [h2] at e3
        have hok : okHold r f = true := by rw [okHold, hg, h1, h2]; rfl
        obtain ⟨_, h5, e5, rfl, k5, l5⟩ := l5Holds_ok hv' hw' hg h1 h2
        simp [g621, upd, hx.cells, hx.cell, hy.cells, hy.cell, ha.cells, ha.cell, hb.cells, hb.cell, e1, e2, e3, e5]
        exact hR _ _ ⟨by rw [holdsR, if_pos hok], k5, l5⟩
end GL

namespace GL
open Go

theorem Od.appG {α : Type} [Data α] {lo : Nat} {h : Heap} {v w : V} {xs zs : List α} {F G : List Nat} (ho : Od lo h v xs F) (hs : SdF h w zs G) (hG : ∀ b ∈ G, ¬ vB v b) (hl : xs.length + zs.length ≤ 2 ^ 20) {k bytes n : Nat} (hk : k = Data.sz α) (hb : bytes ≤ 2 ^ 8) (hn : n = zs.length) :
    ∃ ys v' h' F', rdS h k w n = some ys ∧ appH k bytes v n ys h = some (v', h') ∧ Od lo h' v' (xs ++ zs) F' ∧ KeepsP (fun i => ¬ vB v i) h h' ∧ h.length ≤ h'.length ∧ (∀ i, vB v' i → vB v i ∨ h.length ≤ i) ∧ (∀ b ∈ F', b ∈ F ∨ b ∈ G) := by
  subst hk; subst hn
  obtain ⟨ys, G', e0, hr, hG'⟩ := hs.rdS
  by_cases h0 : 0 < zs.length
  · obtain ⟨v', h', e1, o1, k1, l1, b1⟩ := ho.app h0 hr (fun b hb => hG b (hG' b hb)) hb (by omega) rfl rfl
    exact ⟨ys, v', h', _, e0, e1, o1, k1, by omega, fun i hi => .inr (by rw [b1 i hi]; exact Nat.le_refl _), fun b hb => by
      rcases List.mem_append.1 hb with h | h
      · exact .inl h
      · exact .inr (hG' b h)⟩
  · have hz : zs = [] := List.length_eq_zero_iff.1 (by omega)
    subst hz
    obtain ⟨F', sF, _⟩ := ho.sd
    have := sF.len
    exact ⟨ys, v, h, F, e0, by simp [appH, this], by simpa using ho, KeepsP.refl _ _, Nat.le_refl _, fun i hi => .inl hi, fun b hb => .inl hb⟩

/-- a row, put to its place, once -/
def addRow : List (List Int) → List Int → List (List Int)
  | [], row => [row]
  | r :: rs, row => if ltL r row = true then r :: addRow rs row else if r = row then r :: rs else row :: r :: rs
theorem addRow_at {row : List Int} : ∀ {rows : List (List Int)} {i : Nat}, i ≤ rows.length → (∀ x ∈ rows.take i, ltL x row = true) → (∀ h : i < rows.length, ltL rows[i] row = false) →
    addRow rows row = if rows[i]? = some row then rows else rows.take i ++ [row] ++ rows.drop i
  | [], i, _, _, _ => by simp [addRow]
  | r :: rs, 0, _, _, h2 => by
    have := h2 (by simp)
    simp at this
    simp [addRow, this]
  | r :: rs, i + 1, hi, h1, h2 => by
    have hr := h1 r (by simp)
    have ih := addRow_at (rows := rs) (i := i) (by simpa using hi) (fun x hx => h1 x (by simp [hx])) (fun h => by have := h2 (by simp; omega); rw [List.getElem_cons_succ] at this; exact this)
    rw [addRow, if_pos hr, ih]
    simp only [List.getElem?_cons_succ, List.take_succ_cons, List.drop_succ_cons, List.cons_append]
    split <;> rfl
theorem addRow_len (rows : List (List Int)) (row : List Int) : (addRow rows row).length ≤ rows.length + 1 := by
  induction rows with
  | nil => simp [addRow]
  | cons r rs ih => rw [addRow]; split
                    · simp; omega
                    · split <;> simp
theorem addRow_mem {rows : List (List Int)} {row x : List Int} : x ∈ addRow rows row ↔ x ∈ rows ∨ x = row := by
  induction rows with
  | nil => simp [addRow]
  | cons r rs ih =>
    rw [addRow]; split
    · simp only [List.mem_cons, ih]
      constructor
      · rintro (h | h | h)
        · exact .inl (.inl h)
        · exact .inl (.inr h)
        · exact .inr h
      · rintro ((h | h) | h)
        · exact .inl h
        · exact .inr (.inl h)
        · exact .inr (.inr h)
    · split
      · rename_i h; subst h
        simp only [List.mem_cons]
        constructor
        · exact .inl
        · rintro (h | h)
          · exact h
          · exact .inl h
      · simp only [List.mem_cons]
        constructor
        · rintro (h | h)
          · exact .inr h
          · exact .inl h
        · rintro (h | h)
          · exact .inr h
          · exact .inl h

theorem l3Add_ok {h : Heap} {v w : V} {rows : List (List Int)} {row : List Int} {F : List Nat} (hs : SdF h v rows F) (hw : Sl h w row) (hl : ∀ r ∈ rows, r.length = row.length) (hrl : rows.length ≤ 2 ^ 10) (hwl : row.length ≤ 2 ^ 10) :
    ∃ r h', call p 687 [v, w] h = some (r, h') ∧ ((r = v ∧ h' = h ∧ addRow rows row = rows) ∨ ∃ F', Od h.length h' r (addRow rows row) F' ∧ ∀ b ∈ F', b ∈ F ∨ h.length ≤ b) ∧ Keeps h h' ∧ h.length ≤ h'.length := by
  refine go (fn := g687) rfl rfl fun R hR => ?_
  simp [g687]
  refine Wc_upM (M := [5, 7, 8, 9, 10, 11, 12, 13, 14, 15, 16, 17, 18, 19, 20]) rfl rows.length (fun i s => i ≤ rows.length ∧ s.σ 5 = .v (vi i) ∧ s.h = h ∧ ∀ x ∈ rows.take i, ltL x row = true) 0 ⟨by omega, by simp, rfl, by simp⟩ fun i s ⟨gi, g5, gh, hall⟩ hM J hJ => ?_
  have w1 : IntKind.i64.wrap ((i : Int) + 1) = (i + 1 : Nat) := by rw [IntWalk.i64_in] <;> omega
  have rest : (∀ hi : i < rows.length, ltL rows[i] row = false ∧ rows[i] ≠ row) → ∀ ys0 : Unit, ∃ u1 u2 y1 v7 h7 y2 v8 h8 y3 v9 h9 y4 v10 h10, slcV 1 v none (some i) none = some u1 ∧ lenV u1 = some i ∧ rdS (h ++ [⟨.own, []⟩]) 1 u1 i = some y1 ∧ appH 1 24 (.slice h.length 0 0 (.k 0)) i y1 (h ++ [⟨.own, []⟩]) = some (v7, h7) ∧
      rdS (h7 ++ [⟨.own, []⟩]) 1 w row.length = some y2 ∧ appH 1 8 (.slice h7.length 0 0 (.k 0)) row.length y2 (h7 ++ [⟨.own, []⟩]) = some (v8, h8) ∧ v8.cells = [v8] ∧ v8.cell = true ∧ y3 = [v8] ∧ appH 1 24 v7 1 y3 (h8 ++ [⟨.own, y3⟩]) = some (v9, h9) ∧
      slcV 1 v (some i) none none = some u2 ∧ lenV u2 = some (rows.length - i) ∧ rdS h9 1 u2 (rows.length - i) = some y4 ∧ appH 1 24 v9 (rows.length - i) y4 h9 = some (v10, h10) ∧ R v10 h10 := fun hne _ => by
    have ltl : (rows.take i).length = i := by rw [List.length_take]; omega
    have ldl : (rows.drop i).length = rows.length - i := by rw [List.length_drop]
    obtain ⟨u1, G1, c1, s1, bs1, _⟩ := hs.sub (lo := none) (hi := some i) (i := 0) (j := i) rfl rfl (by omega) gi (k := 1) rfl
    obtain ⟨u2, G2, c2, s2, bs2, _⟩ := hs.sub (lo := some i) (hi := none) (i := i) (j := rows.length) rfl rfl gi (Nat.le_refl _) (k := 1) rfl
    rw [List.drop_zero] at s1
    rw [List.take_length] at s2
    have kn : Keeps h (h ++ [⟨.own, []⟩]) := Keeps.append _ _
    have o0 : Od h.length (h ++ [⟨.own, []⟩]) (.slice h.length 0 0 (.k 0)) ([] : List (List Int)) [] := Od.empty (Nat.le_refl _) (by simp)
    obtain ⟨y1, v7, h7, F7, er1, e7, o7, k7, l7, b7, fs7⟩ := o0.appG (s1.keep kn) (fun b hb ⟨_, _, _, e⟩ => by cases e; have := s1.ltF hb; omega) (by simp; omega) (k := 1) (bytes := 24) (n := i) rfl (by decide) ltl.symm
    have kn7 : Keeps h h7 := fun b blk hb hst => by
      have := get_lt hb
      exact k7 b blk (fun ⟨_, _, _, e⟩ => by cases e; omega) (kn _ _ hb hst) hst
    have hv7 : ∀ b, vB v7 b → h.length ≤ b := fun b hb => by
      rcases b7 b hb with ⟨_, _, _, e⟩ | h
      · cases e; exact Nat.le_refl _
      · simp at h; omega
    rw [List.nil_append] at o7
    obtain ⟨er2, v8, h8, e8, F8, s8, f8, k8, l8⟩ := appNew (hw.keeps kn7) (by omega : row.length ≤ 2 ^ 20) (k := 1) (bytes := 8) rfl (by decide)
    have k8n : Keeps h8 (h8 ++ [⟨.own, [v8]⟩]) := Keeps.append _ _
    have o8 := o7.keeps ((k8.trans k8n).p fun _ => True) (fun _ _ => trivial) (fun _ _ => trivial) (by simp; omega)
    obtain ⟨v9, h9, e9, o9, k9, l9, b9⟩ := o8.app (zs := [row]) (ys := [v8]) (G := F8) (by simp) (.one ⟨v8, rfl, s8.keep k8n⟩) (fun b hb hvb => by
      have h1 := f8.ge b hb
      have h2 := (o7.ge hvb).2
      omega) (bytes := 24) (by decide) (by simp; omega) (k := 1) (n := 1) rfl rfl
    have kn9 : Keeps h h9 := fun b blk hb hst => by
      have := get_lt hb
      exact k9 b blk (fun hvb => by have := hv7 b hvb; omega) (k8n _ _ (k8 _ _ (kn7 _ _ hb hst) hst) hst) hst
    have hv9 : ∀ b, vB v9 b → h.length ≤ b := fun b hb => by
      have := b9 b hb; simp at this l7; omega
    obtain ⟨y4, v10, h10, F10, er4, e10, o10, k10, l10, _, fs10⟩ := o9.appG (s2.keep kn9) (fun b hb hvb => by have := hv9 b hvb; have := s2.ltF hb; omega) (by simp; omega) (k := 1) (bytes := 24) (n := rows.length - i) rfl (by decide) ldl.symm
    have kn10 : Keeps h h10 := fun b blk hb hst => by
      have := get_lt hb
      exact k10 b blk (fun hvb => by have := hv9 b hvb; omega) (kn9 _ _ hb hst) hst
    have sl1 := s1.len
    have sl2 := s2.len
    rw [ltl] at sl1
    rw [ldl] at sl2
    have ha := addRow_at gi hall (fun hi => (hne hi).1)
    have hif : ¬ rows[i]? = some row := fun he => by
      obtain ⟨hi, e⟩ := List.getElem?_eq_some_iff.1 he
      exact (hne hi).2 e
    rw [if_neg hif] at ha
    rw [← ha] at o10
    have o11 := o10
    simp at l7 l9
    exact ⟨u1, u2, y1, v7, h7, _, v8, h8, _, v9, h9, y4, v10, h10, c1, sl1, er1, e7, er2, e8, s8.cells, s8.cell, rfl, e9, c2, sl2, er4, e10, hR _ _ ⟨.inr ⟨F10, o11, fun b hb => by
      rcases fs10 b hb with h1 | h1
      · rcases List.mem_append.1 h1 with h2 | h2
        · rcases fs7 b h2 with h3 | h3
          · cases h3
          · exact .inl (bs1 b h3)
        · have := f8.ge b h2; exact .inr (by omega)
      · exact .inl (bs2 b h1)⟩, kn10, by omega⟩⟩
  by_cases hi : i < rows.length
  · obtain ⟨z, Fz, ez, hz, _⟩ := hs.loadL i hi
    have ix := hs.idx 1 .i64 i hi
    simp only [Nat.mul_one] at ix
    have e1 := l3Less_eq hz.sl hw (hl _ (List.getElem_mem hi))
    cases hlt : ltL rows[i] row with
    | true =>
      rw [hlt] at e1
      simp [g687_0, hM, g5, gh, hs.len, hi, ix, ez, e1, w1, -Int.natCast_add]
      exact hJ _ hi ⟨hi, by simp, rfl, (all_take_succ hi).2 ⟨hall, hlt⟩⟩
    | false =>
      rw [hlt] at e1
      have e2 := l1Same_eq hz.sl hw
      by_cases hq : rows[i] = row
      · rw [decide_eq_true hq] at e2
        have ha := addRow_at gi hall (fun _ => hlt)
        rw [if_pos (by rw [List.getElem?_eq_getElem hi, hq])] at ha
        simp [g687_0, hM, g5, gh, hs.len, hi, ix, ez, e1, e2]
        exact hR _ _ ⟨.inl ⟨rfl, rfl, ha⟩, Keeps.refl _, Nat.le_refl _⟩
      · rw [decide_eq_false hq] at e2
        obtain ⟨u1, u2, y1, v7, h7, y2, v8, h8, y3, v9, h9, y4, v10, h10, q1, q2, q3, q4, q5, q6, q7, q8, rfl, q10, q11, q12, q13, q14, q15⟩ := rest (fun _ => ⟨hlt, hq⟩) ()
        simp [g687_0, hM, g5, gh, hs.len, hi, ix, ez, e1, e2, bounds, takeB, q1, q2, q3, q4, hw.len, q5, q6, q7, q8, fillL, rdS_last, q10, q11, q12, q13, q14]
        exact q15
  · obtain ⟨u1, u2, y1, v7, h7, y2, v8, h8, y3, v9, h9, y4, v10, h10, q1, q2, q3, q4, q5, q6, q7, q8, rfl, q10, q11, q12, q13, q14, q15⟩ := rest (fun h => absurd h hi) ()
    simp [g687_0, hM, g5, gh, hs.len, hi, bounds, takeB, q1, q2, q3, q4, hw.len, q5, q6, q7, q8, fillL, rdS_last, q10, q11, q12, q13, q14]
    exact q15
end GL

namespace GL
open Go

def addAll (rows : List (List Int)) : List (List Int) := rows.foldl addRow []
def tellR (c : List Int) (rows : List (List Int)) : Rl := ⟨c, addAll rows⟩
theorem addAll_mem {n : Nat} {rows : List (List Int)} (h : ∀ r ∈ rows, r.length = n) : ∀ (acc : List (List Int)), (∀ r ∈ acc, r.length = n) → ∀ r ∈ rows.foldl addRow acc, r.length = n := by
  induction rows with
  | nil => exact fun acc ha r hr => ha r hr
  | cons x xs ih =>
    intro acc ha
    exact ih (fun r hr => h r (by simp [hr])) _ fun r hr => by
      rcases addRow_mem.1 hr with h1 | h1
      · exact ha r h1
      · exact h1 ▸ h x (by simp)
theorem addAll_len (rows : List (List Int)) : ∀ (acc : List (List Int)), (rows.foldl addRow acc).length ≤ acc.length + rows.length := by
  induction rows with
  | nil => intro acc; simp
  | cons x xs ih =>
    intro acc
    have h1 := ih (addRow acc x)
    have h2 := addRow_len acc x
    simp only [List.foldl_cons, List.length_cons]; omega

theorem Od.less {α : Type} [Data α] {lo lo' : Nat} {h : Heap} {v : V} {xs : List α} {F : List Nat} (o : Od lo h v xs F) (hl : lo' ≤ lo) : Od lo' h v xs F := by
  obtain ⟨h1, h2, ⟨rfl, rfl, rfl⟩ | ⟨b, cs, rfl, hb, h3, hr, hn⟩ | ⟨b, rfl, rfl, rfl, h3, h4⟩⟩ := o
  · exact ⟨h1, by omega, .inl ⟨rfl, rfl, rfl⟩⟩
  · exact ⟨h1, by omega, .inr (.inl ⟨b, cs, rfl, hb, by omega, hr, hn⟩)⟩
  · exact ⟨h1, by omega, .inr (.inr ⟨b, rfl, rfl, rfl, by omega, h4⟩)⟩
theorem Od.loadL {lo : Nat} {h : Heap} {v : V} {xs : List (List Int)} {F : List Nat} (o : Od lo h v xs F) {i : Nat} (hi : i < xs.length) :
    ∃ z Fz, idxV 1 v (.int .i64 i) = some (.ptr (bOf v) (oOf v + i)) ∧ rdH h (bOf v) (oOf v + i) 1 = some [z] ∧ SdF h z xs[i] Fz ∧ (∀ b ∈ Fz, ¬ vB v b) ∧ ∀ b ∈ Fz, b ∈ F := by
  obtain ⟨F', sF, hF⟩ := o.sd
  have ix := sF.idx 1 .i64 i hi
  simp only [Nat.mul_one] at ix
  obtain ⟨cs, G1, G2, G3, e, ⟨z, rfl, hz⟩, rfl⟩ := sF.load i hi
  have e' : rdH h (bOf v) (oOf v + i) 1 = some [z] := by
    rw [show Data.sz (List Int) = 1 from rfl, Nat.mul_one] at e; exact e
  have key : bOf v ∉ F ∧ ∀ b ∈ G2, b ∈ F := by
    rcases hF with hF | ⟨hF, _, hn, _⟩
    · exfalso
      obtain ⟨_, _, ⟨e1, e2, _⟩ | ⟨b2, cs2, e1, hb2, _, hr, hn⟩ | ⟨b2, e1, e2, _⟩⟩ := o
      · subst e2; simp at hi
      · rw [e1] at hF; apply hn; rw [← hF]; simp [bOf]
      · subst e2; simp at hi
    · injection hF with _ hF
      exact ⟨hn, fun b hb => by rw [← hF]; simp [hb]⟩
  refine ⟨z, G2, ix, e', hz, fun b hb ⟨b1, o1, c1, hv⟩ => ?_, key.2⟩
  have h2 := key.2 b hb
  have h1 := key.1
  rw [hv] at h1
  exact h1 h2

theorem l3Tell_ok {h : Heap} {v w : V} {c : List Int} {rows : List (List Int)} {F : List Nat} (hc : Sl h v c) (hs : SdF h w rows F) (hl : ∀ r ∈ rows, r.length = c.length) (hcl : c.length ≤ 2 ^ 10) (hrl : rows.length ≤ 2 ^ 10) :
    ∃ r h', call p 674 [v, w] h = some (r, h') ∧ ∃ x y Fx Fy, r = .tup [.agg [x, y], .bool (goodRl (tellR c rows))] ∧ SdF h' x (if goodRl (tellR c rows) = true then c else []) Fx ∧ Fresh h.length h' Fx ∧ Od h.length h' y (if goodRl (tellR c rows) = true then addAll rows else []) Fy ∧ (∀ b ∈ Fy, h.length ≤ b) ∧ (∀ b ∈ Fx, ¬ vB y b) ∧ Keeps h h' ∧ h.length ≤ h'.length := by
  obtain ⟨er, a, h1, e1, Fa, sa, fa, k1, l1⟩ := appNew hc (by omega : c.length ≤ 2 ^ 20) (k := 1) (bytes := 8) rfl (by decide)
  refine go (fn := g674) rfl rfl fun R hR => ?_
  simp [g674, upd, hc.len, er, e1, sa.cells, sa.cell, fillL, hs.len]
  refine Wc_upM (M := [8, 15, 16, 17, 18, 19, 20, 21, 22, 23, 24]) rfl rows.length (fun i s => i ≤ rows.length ∧ s.σ 15 = .v (vi i) ∧ Keeps h1 s.h ∧ h1.length ≤ s.h.length ∧ s.L 4 = (1, [.nils, .nils]) ∧ ∃ y G, s.L 6 = (1, [a, y]) ∧ Od h1.length s.h y (addAll (rows.take i)) G ∧ ∀ b ∈ G, h.length ≤ b) 0
    ⟨by omega, by simp, Keeps.refl _, Nat.le_refl _, by simp [upd], .nils, [], by simp [upd], by simpa [addAll] using Od.nil (Nat.le_refl _), by simp⟩ fun i s ⟨gi, g15, hk, hl0, gL4, y, G, gL6, sy, hG⟩ hM J hJ => ?_
  by_cases hi : i < rows.length
  · have hss := (hs.keep k1).keep hk
    obtain ⟨z, Fz, ez, hz, _⟩ := hss.loadL i hi
    have ix := hss.idx 1 .i64 i hi
    simp only [Nat.mul_one] at ix
    have st := hss.step hi
    have hzl := hl _ (List.getElem_mem hi)
    have hm : ∀ r ∈ addAll (rows.take i), r.length = c.length := addAll_mem (fun r hr => hl r (List.mem_of_mem_take hr)) [] (by simp)
    have hm2 : (addAll (rows.take i)).length ≤ i := by
      have := addAll_len (rows.take i) []
      rw [List.length_take] at this
      simp only [List.length_nil] at this
      unfold addAll; omega
    obtain ⟨F4, sy4, hF4⟩ := sy.sd
    obtain ⟨r5, h5, e5, hr5, k5, l5⟩ := l3Add_ok sy4 hz.sl (fun r hr => by rw [hm r hr, hzl]) (by omega) (by omega)
    have ht : addAll (rows.take (i + 1)) = addRow (addAll (rows.take i)) rows[i] := by
      rw [List.take_succ_eq_append_getElem hi, addAll, List.foldl_append]; rfl
    have hge4 : ∀ b ∈ F4, h.length ≤ b := fun b hb => by
      rcases hF4 with e | ⟨e, hv, _⟩
      · rw [e] at hb; exact hG b hb
      · rw [e] at hb
        rcases List.mem_cons.1 hb with h1 | h1
        · rw [h1]; have := (sy.ge hv).1; omega
        · exact hG b h1
    obtain ⟨F5, o5, hG5⟩ : ∃ F5, Od h1.length h5 r5 (addAll (rows.take (i + 1))) F5 ∧ ∀ b ∈ F5, h.length ≤ b := by
      rcases hr5 with ⟨rfl, rfl, q⟩ | ⟨F5, o5, hf5⟩
      · rw [ht, q]; exact ⟨G, sy, hG⟩
      · rw [ht]; exact ⟨F5, o5.less (by omega), fun b hb => by
          rcases hf5 b hb with h1 | h1
          · exact hge4 b h1
          · omega⟩
    obtain ⟨_, s5, _⟩ := o5.sd
    simp [g674_0, hM, g15, hi, ix, ez, gL6, upd, e5, s5.cells, s5.cell, st]
    refine hJ _ hi ⟨hi, by simp, hk.trans k5, by show h1.length ≤ h5.length; omega, by simp [gL4], r5, F5, by simp, o5, hG5⟩
  · have : i = rows.length := by omega
    subst this
    rw [List.take_length] at sy
    obtain ⟨F9, sy9, _⟩ := sy.sd
    have hv : RlV s.h (.agg [a, y]) (tellR c rows) := ⟨a, y, Fa, F9, rfl, sa.keep hk, sy9⟩
    have eg := GoodRelationS_eq hv
    have hlen : h.length ≤ s.h.length := by omega
    cases hg : goodRl (tellR c rows) with
    | false =>
      rw [hg] at eg hR
      simp [g674_0, hM, g15, gL6, upd, eg, gL4, fillL, resV, mkV]
      exact hR _ _ ⟨.nils, .nils, [], [], rfl, .nil, Fresh.nil, Od.nil hlen, by simp, by simp, k1.trans hk, hlen⟩
    | true =>
      rw [hg] at eg hR
      simp [g674_0, hM, g15, gL6, upd, eg, gL4, sa.cells, sa.cell, sy9.cells, sy9.cell, fillL, resV, mkV]
      exact hR _ _ ⟨a, y, Fa, G, rfl, sa.keep hk, fa.keeps (hk.p _), sy.less l1, hG, fun b hb hv => by have := (sy.ge hv).1; have := sa.ltF hb; omega, k1.trans hk, hlen⟩
end GL

namespace GL
open Go

theorem DC.relation {h0 h : Heap} {N : Nat} (d : DC h0 h N) (hN : N < 2 ^ 55) {vc : V} {c : List Int} (hc : Sl h vc c) (hcb : bOf vc ≠ h0.length) (hcl : c.length ≤ 10) :
    ∃ v h', call p 657 [.ptr h0.length 0, vc] h = some (v, h') ∧ ∃ (x y : V) (r : Rl) (F1 F2 : List Nat), v = .agg [x, y] ∧ SdF h' x r.c F1 ∧ SdF h' y r.rows F2 ∧ (∀ b ∈ F1, h.length ≤ b) ∧ (∀ b ∈ F2, h.length ≤ b) ∧ DC h0 h' (N + 1000) ∧ KeepsBut h0.length h h' ∧ h.length ≤ h'.length := by
  have hlt := d.lt
  have hcB : ∀ {h' : Heap}, KeepsBut h0.length h h' → Sl h' vc c := fun k => hc.but (.inr hcb) k
  refine go (fn := g657) rfl rfl fun R hR => ?_
  obtain ⟨a, h1, e1, ha, d1, k1, l1⟩ := d.pick (by omega) 8 (by decide)
  have loop : ∀ (k : Nat) (s0 : S) (K : Ex → S → Prop), k ≤ 8 → s0.σ 0 = .v (.ptr h0.length 0) → s0.σ 1 = .v vc → s0.σ 5 = .v .nils → s0.σ 6 = .v (vi k) → DC h0 s0.h (N + 2) → KeepsBut h0.length h s0.h → h.length ≤ s0.h.length →
      (∀ s v (xs : List (List Int)) F, (∀ q, q ∉ [5, 6, 7, 12, 13, 14, 15, 16, 17, 18, 19, 20, 21, 22, 23, 24, 25, 26, 27, 28, 29] → s.σ q = s0.σ q) → s.L = s0.L → s.σ 5 = .v v → OdF h.length s.h v xs F → xs.length ≤ 8 → (∀ r ∈ xs, r.length = c.length) → DC h0 s.h (N + 300) → KeepsBut h0.length h s.h → h.length ≤ s.h.length → K (.exit 0) s) → Wc p (.loop g657_1) s0 K := by
    intro k s0 K hk g0 g1 g5 g6 dc kb hl hK
    refine Wc_dnM (M := [5, 6, 7, 12, 13, 14, 15, 16, 17, 18, 19, 20, 21, 22, 23, 24, 25, 26, 27, 28, 29]) rfl (fun k s => k ≤ 8 ∧ s.L = s0.L ∧ s.σ 6 = .v (vi k) ∧ ∃ (xs : List (List Int)) (v : V) (G : List Nat), xs.length + k ≤ 8 ∧ s.σ 5 = .v v ∧ OdF h.length s.h v xs G ∧ (∀ r ∈ xs, r.length = c.length) ∧ DC h0 s.h (N + 2 + 20 * xs.length) ∧ KeepsBut h0.length h s.h ∧ h.length ≤ s.h.length) k
      ⟨hk, rfl, g6, [], .nils, [], by simpa using hk, g5, OdF.nil hl, by simp, by simpa using dc, kb, hl⟩ fun k s ⟨hk, gL, g6, xs, v, G, hx, g5, ho, hrl, dc, kb, hl⟩ hM J hJ => ?_
    by_cases hk0 : 0 < k
    · have hk0' : (0 : Int) < k := by omega
      have w2 : IntKind.i64.wrap ((k : Int) - 1) = (k - 1 : Nat) := by rw [IntWalk.i64_in] <;> omega
      simp [g657_1, hM, g1, g6, hk0, (hcB kb).len]
      refine Wc_upM (M := [7, 18, 19, 20, 21, 22, 23, 24, 25]) rfl c.length (fun i t => i ≤ c.length ∧ t.L = s0.L ∧ t.σ 18 = .v (vi i) ∧ ∃ (ys : List Int) (v7 : V), ys.length = i ∧ t.σ 7 = .v v7 ∧ Out s.h.length t.h v7 ys ∧ DC h0 t.h (N + 2 + 20 * xs.length + 2 * i) ∧ KeepsBut h0.length s.h t.h ∧ s.h.length ≤ t.h.length) 0
        ⟨by omega, gL, by simp, [], .nils, rfl, by simp, Out.nil (Nat.le_refl _), by simpa using dc, KeepsBut.refl _ _, Nat.le_refl _⟩ fun i t ⟨gi, tL, g18, ys, v7, hyl, g7, oy, dt, kt, lt⟩ hM1 J1 hJ1 => ?_
      by_cases hi : i < c.length
      · obtain ⟨q, h2, e2, _, d2, k2, l2⟩ := dt.pick (by omega) 3 (by decide)
        have o2 := k2.out oy (by omega) (by omega)
        have st : IntKind.i64.wrap ((i : Int) + 1) = (i + 1 : Nat) := by rw [IntWalk.i64_in] <;> omega
        obtain ⟨v8, h3, e3, o3, d3, k3, l3⟩ := Out.draw d2 (kt.trans k2) (ho := o2) (Nat.le_refl _) (by omega) (q : Int) (by omega) (k := 1) (bytes := 8) (cs := [vi q]) rfl (by decide) rfl
        simp [g657_0, hM1, hM, g0, g18, g7, hi, e2, fillL, rdS_last, e3, st, -Int.natCast_add]
        exact hJ1 _ hi ⟨hi, tL, by simp, _, v8, by simp; omega, by simp, o3, d3.mono (by omega), k3, by show s.h.length ≤ h3.length; omega⟩
      · have hic : i = c.length := by omega
        obtain ⟨F7, s7, f7⟩ := oy.fr
        obtain ⟨v9, h4, e4, o4, d4, k4, l4⟩ := OdF.draw dt (kb.trans kt) ho kt lt (Nat.le_refl _) (by omega) f7 (x := ys) (cs := [v7]) ⟨v7, rfl, s7⟩ (by omega) (k := 1) rfl (bytes := 24) (by decide)
        simp [g657_0, hM1, hM, g0, g18, g7, hi, g5, g6, s7.cells, s7.cell, fillL, rdS_last, e4, w2, -Int.natCast_add]
        exact hJ (k - 1) _ (by omega) ⟨by omega, tL, by simp, xs ++ [ys], v9, G ++ F7, by simp; omega, by simp, o4, fun r hr => by
          rcases List.mem_append.1 hr with h | h
          · exact hrl r h
          · simp at h; rw [h]; omega, d4.mono (by simp; omega), k4, by show h.length ≤ h4.length; omega⟩
    · have : k = 0 := by omega
      subst this
      simp [g657_1, hM, g6]
      exact hK _ v xs G (fun q hq => by
        by_cases h12 : q = 12
        · subst h12; simp at hq
        · by_cases h13 : q = 13
          · subst h13; simp at hq
          · simp [h12, h13]; exact hM q hq) gL (by simp [g5]) ho (by omega) hrl (dc.mono (by omega)) kb hl
  simp [g657, e1]
  refine loop a _ _ (by omega) (by simp) (by simp) (by simp) (by simp) d1 k1 (by show h.length ≤ h1.length; omega) fun s v xs F hM gL g5 ho hxl hrl d2 k2 l2 => ?_
  obtain ⟨F3, s3, f3⟩ := ho.fresh
  obtain ⟨_, h4, e4, x, y, Fx, Fy, rfl, sx, fx, oy, gy, nxy, k4, l4⟩ := l3Tell_ok (hcB k2) s3 hrl (by omega) (by omega)
  have d4 := d2.keeps k4
  have kb4 := k2.trans (k4.but _)
  have hx1 := hM 1 (by simp)
  have hx0 := hM 0 (by simp)
  have hx4 := hM 4 (by simp)
  simp at hx1 hx0 hx4
  have gL4 : s.L 4 = (1, [.nils, .nils]) := by rw [gL]; simp [upd]
  generalize hrc : (if goodRl (tellR c xs) = true then c else []) = rc at *
  have hrr : (if goodRl (tellR c xs) = true then addAll xs else []).length ≤ 2 ^ 10 := by
    split
    · have := addAll_len xs []
      simp only [List.length_nil] at this
      unfold addAll; omega
    · simp
  generalize hrows : (if goodRl (tellR c xs) = true then addAll xs else []) = rr at *
  obtain ⟨F5, s5, hF5⟩ := oy.sd
  have hge5 : ∀ b ∈ F5, h.length ≤ b := fun b hb => by
    rcases hF5 with e | ⟨e, hv, _⟩
    · rw [e] at hb; have := gy b hb; omega
    · rw [e] at hb
      rcases List.mem_cons.1 hb with h1 | h1
      · rw [h1]; have := (oy.ge hv).1; omega
      · have := gy b h1; omega
  have hgex : ∀ b ∈ Fx, h.length ≤ b := fun b hb => by have := fx.ge b hb; omega
  generalize goodRl (tellR c xs) = qg at *
  have nb : ∀ {F : List Nat}, (∀ b ∈ F, h.length ≤ b) → ∀ b ∈ F, b ≠ h0.length := fun hF b hb => by have := hF b hb; omega
  by_cases h0r : 0 < rr.length
  · obtain ⟨one, h6, e6, d6, k6, l6⟩ := d4.one (by omega) 30 (by decide)
    have sx6 := sx.keeps (k6.P.mono (nb hgex))
    have s56 := s5.keeps (k6.P.mono (nb hge5))
    have kb6 := kb4.trans k6
    cases one with
    | false =>
      simp [hx1, hx0, hx4, g5, e4, gL4, upd, sx.cells, sx.cell, s5.cells, s5.cell, s5.len, h0r, e6, fillL, resV, mkV]
      exact hR _ _ ⟨x, y, ⟨rc, rr⟩, Fx, F5, rfl, sx6, s56, hgex, hge5, d6.mono (by omega), kb6, by omega⟩
    | true =>
      have oy6' := oy.keeps (k6.P) (fun i hi => by have := (oy.ge hi).1; omega) (fun i hi => by have := gy i hi; omega) (by omega)
      obtain ⟨z, Fz, iz, ez, hz, hzF, hzS⟩ := oy6'.loadL (i := 0) h0r
      have hzG : ∀ b ∈ Fz, h.length ≤ b := fun b hb => by
        have := hzS b hb
        have := gy b this; omega
      have k7 : Keeps h6 (h6 ++ [⟨.own, [z]⟩]) := Keeps.append _ _
      have oy7 := oy6'.keeps (k7.p fun _ => True) (fun _ _ => trivial) (fun _ _ => trivial) (by simp)
      obtain ⟨v8, h8, e8, o8, k8, l8, b8⟩ := oy7.app (zs := [rr[0]]) (ys := [z]) (G := Fz) (by simp) (.one ⟨z, rfl, hz.keep k7⟩) hzF (bytes := 24) (by decide) (by simp; omega) (k := 1) (n := 1) rfl rfl
      obtain ⟨F9, s9, hF9⟩ := o8.sd
      have hge8 : ∀ b ∈ Fy ++ Fz, h.length ≤ b := fun b hb => by
        rcases List.mem_append.1 hb with h1 | h1
        · have := gy b h1; omega
        · exact hzG b h1
      have hge9 : ∀ b ∈ F9, h.length ≤ b := fun b hb => by
        rcases hF9 with e | ⟨e, hv, _⟩
        · rw [e] at hb; exact hge8 b hb
        · rw [e] at hb
          rcases List.mem_cons.1 hb with h1 | h1
          · rw [h1]; have := (o8.ge hv).1; omega
          · exact hge8 b h1
      have hno : ∀ i, i ≤ h0.length → ¬ vB y i := fun i hi hv => by have := (oy.ge hv).1; omega
      have d8 := (d6.keeps k7).far k8 fun i hi => hno i hi
      have kb8 := (kb6.trans (k7.but _)).far k8 fun i hi _ hv => by have := (oy.ge hv).1; omega
      have sx8 := (sx6.keep k7).keeps (k8.mono nxy)
      simp at iz ez
      simp at l8
      simp [hx1, hx0, hx4, g5, e4, gL4, upd, sx.cells, sx.cell, s5.cells, s5.cell, s5.len, h0r, e6, iz, ez, hz.cells, hz.cell, fillL, rdS_last, e8, s9.cells, s9.cell, resV, mkV]
      exact hR _ _ ⟨x, v8, ⟨rc, rr ++ [rr[0]]⟩, Fx, F9, rfl, sx8, s9, hgex, hge9, d8.mono (by omega), kb8, by omega⟩
  · have hr0 : ¬ 0 < rr.length := h0r
    simp [hx1, hx0, hx4, g5, e4, gL4, upd, sx.cells, sx.cell, s5.cells, s5.cell, s5.len, hr0, fillL, resV, mkV]
    exact hR _ _ ⟨x, y, ⟨rc, rr⟩, Fx, F5, rfl, sx, s5, hgex, hge5, d4.mono (by omega), kb4, by omega⟩
end GL

namespace GL
open Go

theorem drawHolds_ok {h : Heap} {v : V} {bs : List Byte} (hs : Sl h v bs) : ∃ o h', call p 619 [v] h = some (o, h') ∧ ∃ (w u : V) (r : Rl) (f : Dp), o = .tup [w, u] ∧ RlV h' w r ∧ DpV h' u f ∧ Keeps h h' ∧ h.length ≤ h'.length := by
  have d0 := DC.start hs
  have dl := d0.lit [⟨.own, [vi 0, vi 1, vi 2]⟩]
  have sl : Sl (h ++ [⟨.own, [v, vi 0, .int .u64 0]⟩] ++ [⟨.own, [vi 0, vi 1, vi 2]⟩]) (.slice (h ++ [⟨.own, [v, vi 0, .int .u64 0]⟩] : Heap).length 0 3 (.k 3)) ([0, 1, 2] : List Int) := Sl.lit ([0, 1, 2] : List Int) 3 rfl [vi 0, vi 1, vi 2] rfl _ (by simp)
  obtain ⟨_, h1, e1, x, y, r, F1, F2, rfl, sx, sy, g1, g2, d1, k1, l1⟩ := dl.relation (by decide) sl (by simp [bOf]) (by simp)
  obtain ⟨a, h2, e2, as, o2, _, d2, k2, l2⟩ := d1.someCols (by decide) 3 (by decide)
  obtain ⟨b, h3, e3, bs', o3, _, d3, k3, l3⟩ := d2.someCols (by decide) 3 (by decide)
  obtain ⟨Fa, sa, fa⟩ := o2.fr
  obtain ⟨Fb, sb, fb⟩ := o3.fr
  have lt1 := d1.lt
  have n1 : ∀ b ∈ F1, b ≠ h.length := fun b hb => by have := g1 b hb; simp at this; omega
  have n2 : ∀ b ∈ F2, b ≠ h.length := fun b hb => by have := g2 b hb; simp at this; omega
  have na : ∀ b ∈ Fa, b ≠ h.length := fun b hb => by have := fa.ge b hb; omega
  have sx3 := sx.keeps ((k2.trans k3).P.mono n1)
  have sy3 := sy.keeps ((k2.trans k3).P.mono n2)
  have sa3 := sa.keeps (k3.P.mono na)
  simp at e1 e2 e3 l1
  refine go (fn := g619) rfl rfl fun R hR => ?_
  simp [g619, upd, hs.cells, hs.cell, fillL, e1, e2, e3, sx.cells, sx.cell, sy.cells, sy.cell, sa3.cells, sa3.cell, sb.cells, sb.cell, resV, mkV]
  exact hR _ _ ⟨_, _, r, ⟨as, bs'⟩, rfl, ⟨x, y, F1, F2, rfl, sx3, sy3⟩, ⟨a, b, Fa, Fb, rfl, sa3, sb⟩, d3.keep, by omega⟩

/-! what the law asks of keys -/
theorem keyT_true {k : Nat} {fs : List Dp} {xs : List Int} (h : keyT k fs xs = true) : (clos k fs xs).length = k := of_decide_eq_true h
theorem mem_lists {k : Nat} {xs : List Int} : xs ∈ listsL k ↔ ∃ m, m < 2 ^ k ∧ bitsOf k m = xs := by simp [listsL]
theorem keysL_mem {k : Nat} {fs : List Dp} {xs : List Int} (h : xs ∈ keysL k fs) : (xs.Pairwise (· < ·) ∧ InK k xs) ∧ keyT k fs xs = true ∧ ∀ n ∈ xs, keyT k fs (lessI xs n) = false := by
  obtain ⟨h1, h2⟩ := List.mem_filter.1 h
  obtain ⟨m, _, rfl⟩ := mem_lists.1 h1
  simp only [isKeyL, Bool.and_eq_true, Bool.not_eq_true', List.any_eq_false, Bool.not_eq_true] at h2
  exact ⟨⟨bits_ris k m, bits_in k m⟩, h2.1, h2.2⟩
theorem keysL_some {k : Nat} {fs : List Dp} (hk : k ≤ 6) : keysL k fs ≠ [] := by
  have key : ∀ m, m < 2 ^ k → keyT k fs (bitsOf k m) = true → keysL k fs ≠ [] := by
    intro m
    induction m using Nat.strongRecOn with
    | _ m ih =>
      intro hm hkt
      cases hq : (bitsOf k m).any fun n => keyT k fs (lessI (bitsOf k m) n) with
      | false =>
        have : bitsOf k m ∈ keysL k fs := List.mem_filter.2 ⟨mem_lists.2 ⟨m, hm, rfl⟩, by rw [isKeyL, hkt, hq]; rfl⟩
        intro h; rw [h] at this; cases this
      | true =>
        obtain ⟨n, hn, hn2⟩ := List.any_eq_true.1 hq
        obtain ⟨h1, h2⟩ := mem_bits.1 hn
        obtain ⟨h3, h4⟩ := less_bits hk hm (show n.toNat < k by omega) h2
        have hn' : ((n.toNat : Nat) : Int) = n := by omega
        rw [hn'] at h4
        rw [← h4] at hn2
        have hp := Nat.pow_pos (n := n.toNat) (show 0 < 2 by decide)
        exact ih (m - 2 ^ n.toNat) (by omega) (by omega) hn2
  have hp := Nat.pow_pos (n := k) (show 0 < 2 by decide)
  refine key (2 ^ k - 1) (by omega) ?_
  have hb : bitsOf k (2 ^ k - 1) = upTo k := rising_ext (bits_ris _ _) (range_rising k) fun x => by
    rw [mem_bits, mem_upTo, Nat.testBit_two_pow_sub_one]
    constructor
    · exact fun h => h.1
    · exact fun h => ⟨h, decide_eq_true (by omega)⟩
  rw [hb]
  have hc : clos k fs (upTo k) = upTo k := rising_ext clos_ris (range_rising k) fun x => by
    rw [mem_upTo]
    constructor
    · exact fun h => clos_in x h
    · exact fun h => clos_sub (fun y hy => mem_upTo.1 hy) x (mem_upTo.2 h)
  rw [keyT, hc, upTo_len]; exact decide_eq_true rfl
theorem less_at {xs : List Int} (hr : xs.Pairwise (· < ·)) {i : Nat} (hi : i < xs.length) : xs.take i ++ xs.drop (i + 1) = lessI xs xs[i] := by
  have hx : xs = xs.take i ++ xs[i] :: xs.drop (i + 1) := by rw [← List.drop_eq_getElem_cons hi, List.take_append_drop]
  have hr' := hr
  rw [hx, List.pairwise_append, List.pairwise_cons] at hr'
  obtain ⟨_, ⟨h2, _⟩, h3⟩ := hr'
  generalize hz : xs[i] = z at *
  have e1 : (xs.take i).filter (fun m => !decide (m ∈ [z])) = xs.take i := List.filter_eq_self.2 fun a ha => by
    have := h3 a ha z (by simp)
    simp; omega
  have e2 : (xs.drop (i + 1)).filter (fun m => !decide (m ∈ [z])) = xs.drop (i + 1) := List.filter_eq_self.2 fun a ha => by
    have := h2 a ha
    simp; omega
  conv => rhs; rw [lessI, hx, List.filter_append, List.filter_cons, e1, e2]
  simp
end GL

namespace GL
open Go

theorem keys_loop1 {k : Nat} {fs : List Dp} {h : Heap} {vf x : V} {xs : List Int} {F Fx : List Nat} (hf : SdF h vf fs F) (hx : SdF h x xs Fx) (hg : okDps k fs = true) (hr : xs.Pairwise (· < ·)) (hin : InK k xs) (hn : ∀ n ∈ xs, keyT k fs (lessI xs n) = false)
    (s0 : S) (K : Ex → S → Prop) (gh : s0.h = h) (g5 : s0.σ 5 = .v (vi k)) (g6 : s0.σ 6 = .v vf) (g17 : s0.σ 17 = .v x) (g155 : s0.σ 155 = .v (vi xs.length)) (g156 : s0.σ 156 = .v (vi 0))
    (hK : ∀ s, (∀ q, q ∉ [4, 20, 21, 22, 23, 156, 157, 158, 159, 160, 161, 162, 163, 164, 165, 166, 167, 168, 169, 170, 171, 172, 173, 174, 175, 176, 177, 178, 179, 180, 181, 182, 183, 184] → s.σ q = s0.σ q) → Keeps h s.h → h.length ≤ s.h.length → K (.exit 4) s) : Wc p (.loop g610_1) s0 K := by
  obtain ⟨hk, _, hd⟩ := okDps_in hg
  have hxl := rising_len hr hin
  refine Wc_upM (M := [4, 20, 21, 22, 23, 156, 157, 158, 159, 160, 161, 162, 163, 164, 165, 166, 167, 168, 169, 170, 171, 172, 173, 174, 175, 176, 177, 178, 179, 180, 181, 182, 183, 184]) rfl xs.length (fun i s => i ≤ xs.length ∧ s.σ 156 = .v (vi i) ∧ Keeps h s.h ∧ h.length ≤ s.h.length) 0 ⟨by omega, g156, by rw [gh]; exact Keeps.refl _, by rw [gh]; exact Nat.le_refl _⟩ fun i s ⟨gi, g, hk0, hl0⟩ hM J hJ => ?_
  by_cases hi : i < xs.length
  · have hxs := hx.keep hk0
    have w1 : IntKind.i64.wrap ((i : Int) + 1) = (i + 1 : Nat) := by rw [IntWalk.i64_in] <;> omega
    obtain ⟨u1, G1, c1, s1, _⟩ := hxs.pre (i := i) (by omega)
    obtain ⟨u2, G2, c2, s2, _⟩ := hxs.suf (i := i + 1) (by omega)
    have ltl : (xs.take i).length = i := by rw [List.length_take]; omega
    have ldl : (xs.drop (i + 1)).length = xs.length - (i + 1) := by rw [List.length_drop]
    have kn : Keeps s.h (s.h ++ [⟨.own, []⟩]) := Keeps.append _ _
    have o0 : Out s.h.length (s.h ++ [⟨.own, []⟩]) (.slice s.h.length 0 0 (.k 0)) ([] : List Int) := Out.empty (Nat.le_refl _) (by simp)
    obtain ⟨y1, v7, h7, er1, e7, o7, k7, l7⟩ := o0.appS (s1.keep kn).sl (bytes := 8) (by decide) (by simp; omega) (k := 1) (n := i) rfl ltl.symm
    have kn7 := o0.far kn k7 (Nat.le_refl _)
    rw [List.nil_append] at o7
    obtain ⟨y2, v8, h8, er2, e8, o8, k8, l8⟩ := o7.appS (s2.keep kn7).sl (bytes := 8) (by decide) (by simp; omega) (k := 1) (n := xs.length - (i + 1)) rfl ldl.symm
    have kn8 := o7.far kn7 k8 (Nat.le_refl _)
    rw [less_at hr hi] at o8
    have sl1 := s1.len
    have sl2 := s2.len
    rw [ltl] at sl1
    rw [ldl] at sl2
    obtain ⟨_, h9, e9, o, G9, rfl, s9, k9, l9⟩ := ClosureOf_ok ((hf.keep hk0).keep kn8) o8.sl hg (hr.filter _) (fun x hx => hin x (List.mem_filter.1 hx).1)
    have hne : ¬ (clos k fs (lessI xs xs[i])).length = k := of_decide_eq_false (hn _ (List.getElem_mem hi))
    have s9l := s9.len
    have hne' : ¬ ((clos k fs (lessI xs xs[i])).length : Int) = (k : Int) := by omega
    simp at l7
    simp [g610_1, hM, g5, g6, g17, g155, g, hi, bounds, takeB, c1, c2, sl1, sl2, er1, e7, w1, er2, e8, e9, s9l, hne, hne', -Int.natCast_add]
    exact hJ _ hi ⟨hi, by simp, (hk0.trans kn8).trans k9, by show h.length ≤ h9.length; omega⟩
  · simp [g610_1, hM, g155, g, hi]
    exact hK _ (fun q hq => by
      by_cases h157 : q = 157
      · subst h157; simp at hq
      · simp [h157]; exact hM q hq) hk0 hl0

theorem keys_loop2 {k : Nat} {fs : List Dp} {h : Heap} {vf w : V} {F Fw : List Nat} (hf : SdF h vf fs F) (hw : SdF h w (keysL k fs) Fw) (hg : okDps k fs = true)
    (s0 : S) (K : Ex → S → Prop) (gh : s0.h = h) (g5 : s0.σ 5 = .v (vi k)) (g6 : s0.σ 6 = .v vf) (g133 : s0.σ 133 = .v w) (g134 : s0.σ 134 = .v (vi (keysL k fs).length)) (g135 : s0.σ 135 = .v (vi 0))
    (hK : ∀ s, (∀ q, q ∉ [4, 17, 18, 19, 20, 21, 22, 23, 135, 136, 137, 138, 139, 140, 141, 142, 143, 144, 145, 146, 147, 148, 149, 150, 151, 152, 153, 154, 155, 156, 157, 158, 159, 160, 161, 162, 163, 164, 165, 166, 167, 168, 169, 170, 171, 172, 173, 174, 175, 176, 177, 178, 179, 180, 181, 182, 183, 184, 185] → s.σ q = s0.σ q) → Keeps h s.h → h.length ≤ s.h.length → K (.exit 2) s) : Wc p (.loop g610_2) s0 K := by
  refine Wc_upM (M := [4, 17, 18, 19, 20, 21, 22, 23, 135, 136, 137, 138, 139, 140, 141, 142, 143, 144, 145, 146, 147, 148, 149, 150, 151, 152, 153, 154, 155, 156, 157, 158, 159, 160, 161, 162, 163, 164, 165, 166, 167, 168, 169, 170, 171, 172, 173, 174, 175, 176, 177, 178, 179, 180, 181, 182, 183, 184, 185]) rfl (keysL k fs).length (fun i s => i ≤ (keysL k fs).length ∧ s.σ 135 = .v (vi i) ∧ Keeps h s.h ∧ h.length ≤ s.h.length) 0 ⟨by omega, g135, by rw [gh]; exact Keeps.refl _, by rw [gh]; exact Nat.le_refl _⟩ fun i s ⟨gi, g, hk0, hl0⟩ hM J hJ => ?_
  by_cases hi : i < (keysL k fs).length
  · have hws := hw.keep hk0
    obtain ⟨x, Fx, ex, hx, _⟩ := hws.loadL i hi
    have ix := hws.idx 1 .i64 i hi
    simp only [Nat.mul_one] at ix
    have st := hws.step hi
    obtain ⟨⟨hr, hin⟩, hkt, hless⟩ := keysL_mem (List.getElem_mem hi)
    have hfs := hf.keep hk0
    obtain ⟨_, h9, e9, o, G9, rfl, s9, k9, l9⟩ := ClosureOf_ok hfs hx.sl hg hr hin
    have s9l := s9.len
    rw [keyT_true hkt] at s9l
    have hxl := (hx.keep k9).len
    simp [g610_2, hM, g5, g6, g133, g134, g, hi, ix, ex, e9, s9l, hxl]
    refine keys_loop1 (hfs.keep k9) (hx.keep k9) hg hr hin hless _ _ rfl (by simp [hM, g5]) (by simp [hM, g6]) (by simp) (by simp) (by simp) fun t hM1 hk1 hl1 => ?_
    have g135' : t.σ 135 = .v (vi i) := by rw [hM1 135 (by simp)]; simp [g]
    simp [g135', st]
    exact hJ _ hi ⟨hi, by simp, (hk0.trans k9).trans hk1, by show h.length ≤ t.h.length; omega⟩
  · simp [g610_2, hM, g134, g, hi]
    exact hK _ (fun q hq => by
      by_cases h157 : q = 136
      · subst h157; simp at hq
      · simp [h157]; exact hM q hq) hk0 hl0

theorem keys_loop3 {k : Nat} {fs : List Dp} {h : Heap} {vf w : V} {F Fw : List Nat} (hf : SdF h vf fs F) (hw : SdF h w (covL k fs) Fw) (hg : okDps k fs = true)
    (s0 : S) (K : Ex → S → Prop) (gh : s0.h = h) (g5 : s0.σ 5 = .v (vi k)) (g11 : s0.σ 11 = .v w) (g186 : s0.σ 186 = .v vf) (g187 : s0.σ 187 = .v (vi fs.length)) (g188 : s0.σ 188 = .v (vi 0))
    (hK : ∀ s, (∀ q, q ∉ [4, 25, 26, 27, 188, 189, 190, 191, 192, 193, 194, 195, 196, 197, 198, 199, 200, 201, 202, 203, 204, 205] → s.σ q = s0.σ q) → Keeps h s.h → h.length ≤ s.h.length → K (.exit 6) s) : Wc p (.loop g610_3) s0 K := by
  obtain ⟨hk, _, hd⟩ := okDps_in hg
  have hgc : okDps k (covL k fs) = true := okDps_sub hg (covF_sub k _ _ _) (covF_len k _ _ _)
  refine Wc_upM (M := [4, 25, 26, 27, 188, 189, 190, 191, 192, 193, 194, 195, 196, 197, 198, 199, 200, 201, 202, 203, 204, 205]) rfl fs.length (fun i s => i ≤ fs.length ∧ s.σ 188 = .v (vi i) ∧ Keeps h s.h ∧ h.length ≤ s.h.length) 0 ⟨by omega, g188, by rw [gh]; exact Keeps.refl _, by rw [gh]; exact Nat.le_refl _⟩ fun i s ⟨gi, g, hk0, hl0⟩ hM J hJ => ?_
  by_cases hi : i < fs.length
  · have hfs := hf.keep hk0
    obtain ⟨x, y, F1, F2, ld, sx, sy, _⟩ := hfs.loadDp i hi
    have ix := hfs.idx 2 .i64 i hi
    have st := hfs.step hi
    have hmem := List.getElem_mem hi
    have hokf : okDp k fs[i] = true := by
      simp only [okDps, Bool.and_eq_true, List.all_eq_true] at hg
      exact hg.2 _ hmem
    obtain ⟨_, h9, e9, rfl, k9, l9⟩ := Implies_ok (hw.keep hk0) sx.sl sy.sl hgc hokf
    rw [covL_imp hd hmem] at e9
    simp [g610_3, hM, g5, g11, g186, g187, g, hi, ix, ld, upd, sx.cells, sx.cell, sy.cells, sy.cell, e9, st]
    exact hJ _ hi ⟨hi, by simp, hk0.trans k9, by show h.length ≤ h9.length; omega⟩
  · simp [g610_3, hM, g187, g, hi]
    exact hK _ (fun q hq => by
      by_cases h157 : q = 189
      · subst h157; simp at hq
      · simp [h157]; exact hM q hq) hk0 hl0
end GL

namespace GL
open Go

theorem keys_tail {h : Heap} {v : V} {bs : List Byte} (hb : Sl h v bs) : ∃ (x y a b : V) (H1 H2 H3 : Heap) (q1 q2 : Bool), call p 619 [v] h = some (.tup [.agg [x, y], .agg [a, b]], H1) ∧ x.cells = [x] ∧ x.cell = true ∧ y.cells = [y] ∧ y.cell = true ∧ a.cells = [a] ∧ a.cell = true ∧ b.cells = [b] ∧ b.cell = true ∧
    call p 620 [.agg [x, y], .agg [a, b]] H1 = some (.tup [.bool q1, .bool q2], H2) ∧ call p 621 [.agg [x, y], .agg [a, b]] H2 = some (.tup [.bool q1, .bool q2], H3) := by
  obtain ⟨_, H1, e1, w, u, r, f, rfl, hw, hu, k1, l1⟩ := drawHolds_ok hb
  obtain ⟨_, H2, e2, rfl, k2, l2⟩ := HoldsIn_ok hw hu
  obtain ⟨_, H3, e3, rfl, k3, l3⟩ := HoldsInS_ok (hw.keep k2) (hu.keep k2)
  obtain ⟨x, y, F1, F2, rfl, hx, hy⟩ := hw
  obtain ⟨a, b, F3, F4, rfl, ha, hb⟩ := hu
  obtain ⟨q1, q2, hq⟩ : ∃ q1 q2 : Bool, holdsR r f = .tup [.bool q1, .bool q2] := by
    unfold holdsR; split
    · exact ⟨_, _, rfl⟩
    · exact ⟨_, _, rfl⟩
  rw [hq] at e2 e3
  exact ⟨x, y, a, b, H1, H2, H3, q1, q2, e1, hx.cells, hx.cell, hy.cells, hy.cell, ha.cells, ha.cell, hb.cells, hb.cell, e2, e3⟩

theorem FnKeys_ok {h : Heap} {va vb : V} {as bs : List Byte} (ha : Sl h va as) (hb : Sl h vb bs) : ∃ r h', call p 610 [va, vb] h = some (r, h') ∧ r = .bool true := by
  refine go (fn := g610) rfl rfl fun R hR => ?_
  by_cases hbig : (1048576 : Int) < IntKind.i64.wrap ((as.length : Int) + bs.length)
  · simp [g610, ha.len, hb.len, hbig]
    exact hR _ _ rfl
  · obtain ⟨_, h1, e1, k, o, fs, F, rfl, sf, k1, l1⟩ := drawKeys_ok ha
    obtain ⟨_, h2, e2, o2, F2, rfl, s2, k2, l2⟩ := KeysFor_ok (k := k) sf
    obtain ⟨_, h3, e3, o3, F3, rfl, s3, k3, l3⟩ := KeysForS_ok (k := k) (sf.keep k2)
    obtain ⟨_, h4, e4, o4, F4, rfl, s4, k4, l4⟩ := CoverOf_ok (k := k) (sf.keep (k2.trans k3))
    obtain ⟨_, h5, e5, o5, F5, rfl, s5, k5, l5⟩ := CoverOfS_ok (k := k) (sf.keep ((k2.trans k3).trans k4))
    have k45 := k4.trans k5
    have k35 := k3.trans k45
    have k25 := k2.trans k35
    have sf5 := sf.keep k25
    have s25 := s2.keep k35
    have s45 := s4.keep k5
    have f1 := sameRows_same s25 (s3.keep k45)
    obtain ⟨_, h6, e6, rfl, k6, l6⟩ := GoodDeps_ok sf5 k
    have sf6 := sf5.keep k6
    have c4 := s45.keep k6
    have c5 := s5.keep k6
    have s26 := s25.keep k6
    have kk6 := (k1.trans k25).trans k6
    have l4len := s45.len
    have l5len := s5.len
    have l2len := s26.len
    have k56 := k6
    generalize hcv : (if okDps k fs = true then covL k fs else []) = cv at *
    simp [g610, ha.len, hb.len, hbig, e1, e2, e3, e4, e5, e6, f1, l4len, l5len]
    refine Wc_upM (M := [4, 15, 99, 100, 101, 102, 103, 104, 105, 106, 107, 108, 109, 110, 111, 112, 113, 114, 115, 116, 117, 118, 119, 120, 121, 122, 123, 124, 125, 126, 127, 128]) rfl cv.length (fun i s => i ≤ cv.length ∧ s.σ 99 = .v (vi i) ∧ s.h = h6) 0 ⟨by omega, by simp, rfl⟩ fun i s ⟨gi, g99, gh⟩ hM J hJ => ?_
    by_cases hi : i < cv.length
    · obtain ⟨x, y, G1, G2, ld, sx, sy, _⟩ := c4.loadDp i hi
      obtain ⟨x', y', G3, G4, ld', sx', sy', _⟩ := c5.loadDp i hi
      have ix := c4.idx 2 .i64 i hi
      have ix' := c5.idx 2 .i64 i hi
      have st := c4.step hi
      have ldx : rdH h6 (bOf o4) (oOf o4 + i * 2) 1 = some [x] := by simpa using rdH_sub ld 0 1 (by decide)
      have ldy : rdH h6 (bOf o4) (oOf o4 + i * 2 + 1) 1 = some [y] := by simpa using rdH_sub ld 1 1 (by decide)
      have ldx' : rdH h6 (bOf o5) (oOf o5 + i * 2) 1 = some [x'] := by simpa using rdH_sub ld' 0 1 (by decide)
      have ldy' : rdH h6 (bOf o5) (oOf o5 + i * 2 + 1) 1 = some [y'] := by simpa using rdH_sub ld' 1 1 (by decide)
      have q1 := sameInts_eq sx.sl sx'.sl
      have q2 := sameInts_eq sy.sl sy'.sl
      rw [decide_eq_true rfl] at q1 q2
      simp [g610_0, hM, g99, gh, hi, ix, ix', ldx, ldy, ldx', ldy', q1, q2, st]
      exact hJ _ hi ⟨hi, by simp, rfl⟩
    · simp [g610_0, hM, g99, gh, hi]
      cases hg : okDps k fs with
      | false =>
        obtain ⟨x, y, a, b, H1, H2, H3, q1, q2, t1, z1, z2, z3, z4, z5, z6, z7, z8, t2, t3⟩ := keys_tail (hb.keeps kk6)
        simp [hM, hg, upd, t1, z1, z2, z3, z4, z5, z6, z7, z8, t2, t3]
        exact hR _ _ rfl
      | true =>
        rw [hg] at hcv s26 l2len
        simp only [if_true] at hcv s26 l2len
        subst hcv
        obtain ⟨hk, _, _⟩ := okDps_in hg
        have hne : ¬ (keysL k fs).length = 0 := fun h => keysL_some hk.2 (List.length_eq_zero_iff.1 h)
        have hne' : ¬ keysL k fs = [] := keysL_some hk.2
        simp [hM, hg, l2len, hne, hne']
        refine keys_loop2 sf6 s26 hg _ _ rfl (by simp [hM]) (by simp [hM]) (by simp) (by simp) (by simp) fun s1 hM1 hk1 hl1 => ?_
        have g5 : s1.σ 5 = .v (vi k) := by rw [hM1 5 (by simp)]; simp [hM]
        have g6 : s1.σ 6 = .v o := by rw [hM1 6 (by simp)]; simp [hM]
        have g11 : s1.σ 11 = .v o4 := by rw [hM1 11 (by simp)]; simp [hM]
        have g1 : s1.σ 1 = .v vb := by rw [hM1 1 (by simp)]; simp [hM]
        have sf7 := sf6.keep hk1
        simp [g6, sf7.len]
        refine keys_loop3 sf7 (c4.keep hk1) hg _ _ rfl (by simp [g5]) (by simp [g11]) (by simp) (by simp) (by simp) fun s2 hM2 hk2 hl2 => ?_
        have g1' : s2.σ 1 = .v vb := by rw [hM2 1 (by simp)]; simp [g1]
        obtain ⟨x, y, a, b, H1, H2, H3, q1, q2, t1, z1, z2, z3, z4, z5, z6, z7, z8, t2, t3⟩ := keys_tail (hb.keeps ((kk6.trans hk1).trans hk2))
        simp [g1', upd, t1, z1, z2, z3, z4, z5, z6, z7, z8, t2, t3]
        exact hR _ _ rfl
end GL

