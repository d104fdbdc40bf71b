import Derived.IntWalk
import Derived.Test.YtflbkhbfbcbcoaaGlF
/- GL, a small deterministic machine: its definitions, and that its calls are calls of the program. -/
set_option linter.unusedSimpArgs false
set_option linter.unusedVariables false
set_option linter.unnecessarySimpa false
/-! GL: data of numbers and bools in memory. -/
namespace GL
open Go

/-- data that is its cells -/
class Flat (α : Type) where
  sz : Nat
  cells : α → List V
  len : ∀ a, (cells a).length = sz
  ok : ∀ a, allCell (cells a) = true
  pos : 0 < sz

/-- a whole number of Go's int -/
abbrev vi (n : Int) : V := .int .i64 n

instance : Flat Int := ⟨1, fun n => [vi n], fun _ => rfl, fun _ => rfl, by decide⟩
instance : Flat Bool := ⟨1, fun b => [.bool b], fun _ => rfl, fun _ => rfl, by decide⟩
/-- a byte -/
structure Byte where
  n : Nat
  lt : n < 256
instance : Flat Byte := ⟨1, fun b => [.int .u8 b.n], fun _ => rfl, fun _ => rfl, by decide⟩

section
variable {α : Type} [Flat α]
def flats (xs : List α) : List V := xs.flatMap Flat.cells
theorem flats_len (xs : List α) : (flats xs).length = xs.length * Flat.sz α := by
  induction xs with
  | nil => simp [flats]
  | cons x xs ih => simp only [flats, List.flatMap_cons, List.length_append, List.length_cons] at ih ⊢; rw [ih, Flat.len, Nat.add_mul]; omega
theorem flats_ok (xs : List α) : allCell (flats xs) = true := by
  induction xs with
  | nil => rfl
  | cons x xs ih =>
    have := Flat.ok x
    simp only [flats, List.flatMap_cons, allCell, List.all_append, Bool.and_eq_true] at ih this ⊢
    exact ⟨this, ih⟩
theorem flats_append (xs ys : List α) : flats (xs ++ ys) = flats xs ++ flats ys := by simp [flats]
theorem flats_drop (xs : List α) (i : Nat) : (flats xs).drop (i * Flat.sz α) = flats (xs.drop i) := by
  induction xs generalizing i with
  | nil => simp [flats]
  | cons x xs ih =>
    cases i with
    | zero => simp
    | succ i =>
      rw [List.drop_succ_cons, ← ih i]
      simp only [flats, List.flatMap_cons]
      rw [List.drop_append, Flat.len, List.drop_eq_nil_of_le (by rw [Flat.len, Nat.add_mul]; omega), List.nil_append]
      congr 1; rw [Nat.add_mul]; omega
theorem flats_take (xs : List α) (i : Nat) : (flats xs).take (i * Flat.sz α) = flats (xs.take i) := by
  induction xs generalizing i with
  | nil => simp [flats]
  | cons x xs ih =>
    cases i with
    | zero => simp [flats]
    | succ i =>
      rw [List.take_succ_cons]
      simp only [flats, List.flatMap_cons] at ih ⊢
      rw [List.take_append, Flat.len, List.take_of_length_le (by rw [Flat.len, Nat.add_mul]; omega)]
      rw [← ih i]
      congr 2; rw [Nat.add_mul]; omega
end

def bOf : V → Nat
  | .slice b _ _ _ => b
  | _ => 0
def oOf : V → Nat
  | .slice _ o _ _ => o
  | _ => 0

/-- a slice that holds these -/
def Sl {α : Type} [Flat α] (h : Heap) (v : V) (xs : List α) : Prop :=
  xs.length < 2 ^ 63 ∧ ((v = .nils ∧ xs = []) ∨ ∃ b off cap, v = .slice b off xs.length cap ∧ (xs = [] ∨ ∃ blk, h[b]? = some blk ∧ blk.st ≠ .dead ∧ cut blk.cells off (xs.length * Flat.sz α) = some (flats xs)))

/-- what lives goes on to live, as it is -/
def Keeps (h h' : Heap) : Prop := ∀ (b : Nat) (blk : Blk), h[b]? = some blk → blk.st ≠ .dead → h'[b]? = some blk
/-- but for one block -/
def KeepsBut (x : Nat) (h h' : Heap) : Prop := ∀ (b : Nat) (blk : Blk), b ≠ x → h[b]? = some blk → blk.st ≠ .dead → h'[b]? = some blk

theorem Keeps.refl (h : Heap) : Keeps h h := fun _ _ h _ => h
theorem Keeps.trans {a b c : Heap} (h1 : Keeps a b) (h2 : Keeps b c) : Keeps a c := fun i blk h hl => h2 i blk (h1 i blk h hl) hl
theorem Keeps.append (h l : Heap) : Keeps h (h ++ l) := fun b blk hb _ => by
  rcases Nat.lt_or_ge b h.length with hl | hl
  · rw [List.getElem?_append_left hl]; exact hb
  · rw [List.getElem?_eq_none hl] at hb; cases hb
theorem Keeps.but {a b : Heap} (h : Keeps a b) (x : Nat) : KeepsBut x a b := fun i blk _ hb hl => h i blk hb hl
theorem KeepsBut.trans {x : Nat} {a b c : Heap} (h1 : KeepsBut x a b) (h2 : KeepsBut x b c) : KeepsBut x a c := fun i blk hi h hl => h2 i blk hi (h1 i blk hi h hl) hl
theorem KeepsBut.refl (x : Nat) (h : Heap) : KeepsBut x h h := fun _ _ _ h _ => h
/-- a block that was not there before is not missed -/
theorem KeepsBut.keeps {x : Nat} {a b c : Heap} (h0 : Keeps a b) (hx : a.length ≤ x) (h : KeepsBut x b c) : Keeps a c := fun i blk hi hl =>
  h i blk (fun e => by subst e; rw [List.getElem?_eq_none hx] at hi; cases hi) (h0 i blk hi hl) hl
theorem KeepsBut.set (h : Heap) (x : Nat) (nb : Blk) : KeepsBut x h (h.set x nb) := fun b blk hb h0 _ => by rw [List.getElem?_set_ne (Ne.symm hb)]; exact h0

section
variable {α : Type} [Flat α] {h h' : Heap} {v : V} {xs : List α}
theorem Sl.keeps (hs : Sl h v xs) (hk : Keeps h h') : Sl h' v xs := by
  refine ⟨hs.1, ?_⟩
  rcases hs.2 with hs | ⟨b, off, cap, hv, hs⟩
  · exact .inl hs
  · refine .inr ⟨b, off, cap, hv, ?_⟩
    rcases hs with hs | ⟨blk, h1, h2, h3⟩
    · exact .inl hs
    · exact .inr ⟨blk, hk _ _ h1 h2, h2, h3⟩
theorem Sl.but {x : Nat} (hs : Sl h v xs) (hx : xs = [] ∨ bOf v ≠ x) (hk : KeepsBut x h h') : Sl h' v xs := by
  refine ⟨hs.1, ?_⟩
  rcases hs.2 with hs | ⟨b, off, cap, hv, hs⟩
  · exact .inl hs
  · refine .inr ⟨b, off, cap, hv, ?_⟩
    rcases hs with hs | ⟨blk, h1, h2, h3⟩
    · exact .inl hs
    · subst hv
      rcases hx with hx | hx
      · exact .inl hx
      · exact .inr ⟨blk, hk _ _ hx h1 h2, h2, h3⟩
theorem Sl.len (hs : Sl h v xs) : lenV v = some xs.length := by
  rcases hs with ⟨_, ⟨rfl, rfl⟩ | ⟨b, off, cap, rfl, _⟩⟩ <;> rfl
theorem Sl.idx (hs : Sl h v xs) (k : Nat) (kd : IntKind) (i : Nat) (hi : i < xs.length) : idxV k v (.int kd i) = some (.ptr (bOf v) (oOf v + i * k)) := by
  rcases hs with ⟨_, ⟨rfl, rfl⟩ | ⟨b, off, cap, rfl, _⟩⟩
  · simp at hi
  · simp [idxV, hi, bOf, oOf]
theorem Sl.load (hs : Sl h v xs) (i : Nat) (hi : i < xs.length) : rdH h (bOf v) (oOf v + i * Flat.sz α) (Flat.sz α) = some (Flat.cells xs[i]) := by
  rcases hs with ⟨_, ⟨rfl, rfl⟩ | ⟨b, off, cap, rfl, hs⟩⟩
  · simp at hi
  · rcases hs with rfl | ⟨blk, h1, h2, h3⟩
    · simp at hi
    · simp only [bOf, oOf, rdH, h1, h2, if_false]
      unfold cut at h3 ⊢
      split at h3
      case isFalse => cases h3
      rename_i hle
      have hb : (i + 1) * Flat.sz α ≤ xs.length * Flat.sz α := Nat.mul_le_mul_right _ hi
      rw [Nat.add_mul] at hb
      rw [if_pos (by omega)]
      simp only [Option.some.injEq] at h3 ⊢
      have hd : blk.cells.drop (off + i * Flat.sz α) = (blk.cells.drop off).drop (i * Flat.sz α) := by rw [List.drop_drop]
      have ht : ((blk.cells.drop off).drop (i * Flat.sz α)).take (Flat.sz α) = (((blk.cells.drop off).take (xs.length * Flat.sz α)).drop (i * Flat.sz α)).take (Flat.sz α) := by
        rw [List.drop_take, List.take_take]; congr 1; omega
      rw [hd, ht, h3, flats_drop]
      have := flats_take (xs.drop i) 1
      rw [Nat.one_mul] at this
      rw [this, List.drop_eq_getElem_cons hi]
      show flats [xs[i]] = _
      simp [flats]
theorem Sl.rdS (hs : Sl h v xs) (n : Nat) (hn : n ≤ xs.length) : GL.rdS h (Flat.sz α) v n = some (flats (xs.take n)) := by
  rcases hs with ⟨_, ⟨rfl, rfl⟩ | ⟨b, off, cap, rfl, hs⟩⟩
  · have : n = 0 := by simpa using hn
    subst this; simp [GL.rdS, flats]
  · simp only [GL.rdS, hn, if_true]
    by_cases h0 : n * Flat.sz α = 0
    · have : n = 0 := by
        have := Flat.pos (α := α)
        rcases Nat.mul_eq_zero.1 h0 with h | h <;> omega
      subst this; simp [flats]
    · rw [if_neg h0]
      rcases hs with rfl | ⟨blk, h1, h2, h3⟩
      · simp at hn; subst hn; simp at h0
      · simp only [rdH, h1, h2, if_false]
        unfold cut at h3 ⊢
        split at h3
        case isFalse => cases h3
        have hb : n * Flat.sz α ≤ xs.length * Flat.sz α := Nat.mul_le_mul_right _ hn
        rw [if_pos (by omega)]
        simp only [Option.some.injEq] at h3 ⊢
        rw [← flats_take, ← h3, List.take_take]; congr 1; omega
theorem Sl.cells (hs : Sl h v xs) : v.cells = [v] := by
  rcases hs with ⟨_, ⟨rfl, rfl⟩ | ⟨b, off, cap, rfl, _⟩⟩ <;> rfl
theorem Sl.cell (hs : Sl h v xs) : v.cell = true := by
  rcases hs with ⟨_, ⟨rfl, rfl⟩ | ⟨b, off, cap, rfl, _⟩⟩ <;> rfl
theorem Sl.nil : Sl h .nils ([] : List α) := ⟨by simp, .inl ⟨rfl, rfl⟩⟩
theorem Sl.bd (hs : Sl h v xs) : xs.length < 2 ^ 63 := hs.1
theorem Sl.step (hs : Sl h v xs) {i : Nat} (hi : i < xs.length) : IntKind.i64.wrap ((i : Int) + 1) = i + 1 := by
  have := hs.1
  exact IntWalk.i64_in _ (by omega)
/-- a block that holds just these -/
theorem Sl.whole {b : Nat} {blk : Blk} (cap : Cap) (hb : h[b]? = some blk) (hl : blk.st ≠ .dead) (hc : blk.cells = flats xs) (hn : xs.length < 2 ^ 63) : Sl h (.slice b 0 xs.length cap) xs :=
  ⟨hn, .inr ⟨b, 0, cap, rfl, .inr ⟨blk, hb, hl, by rw [hc]; simp only [cut, flats_len, Nat.zero_add, Nat.le_refl, if_true, List.drop_zero]; rw [flats_take, List.take_length]⟩⟩⟩
end
theorem Sl.loadI {h : Heap} {v : V} {xs : List Int} (hs : Sl h v xs) (i : Nat) (hi : i < xs.length) : rdH h (bOf v) (oOf v + i) 1 = some [vi xs[i]] := by
  have := hs.load i hi
  rwa [show i * Flat.sz Int = i from Nat.mul_one i] at this
theorem Sl.loadB {h : Heap} {v : V} {xs : List Byte} (hs : Sl h v xs) (i : Nat) (hi : i < xs.length) : rdH h (bOf v) (oOf v + i) 1 = some [.int .u8 xs[i].n] := by
  have := hs.load i hi
  rwa [show i * Flat.sz Byte = i from Nat.mul_one i] at this
theorem Sl.loadT {h : Heap} {v : V} {xs : List Bool} (hs : Sl h v xs) (i : Nat) (hi : i < xs.length) : rdH h (bOf v) (oOf v + i) 1 = some [.bool xs[i]] := by
  have := hs.load i hi
  rwa [show i * Flat.sz Bool = i from Nat.mul_one i] at this
theorem get_last (h : Heap) (blk : Blk) : (h ++ [blk])[h.length]? = some blk := by simp
end GL
/-! GL: lists that grow. -/
namespace GL
open Go

/-- does this slice lie in that block? -/
def vB (v : V) (i : Nat) : Prop := ∃ o n c, v = .slice i o n c

def KeepsP (P : Nat → Prop) (h h' : Heap) : Prop := ∀ (b : Nat) (blk : Blk), P b → h[b]? = some blk → blk.st ≠ .dead → h'[b]? = some blk

theorem rdS_last {h : Heap} {cs : List V} {k n : Nat} {cap : Cap} (hn : cs.length = n * k) : rdS (h ++ [⟨.own, cs⟩]) k (.slice h.length 0 n cap) n = some cs := by
  simp only [rdS, Nat.le_refl, if_true]
  split
  · rename_i h0
    rw [h0] at hn
    rw [List.length_eq_zero_iff.1 hn]
  · simp [rdH, cut, ← hn]

section
variable {α : Type} [Flat α] {h : Heap} {v : V} {xs : List α} {lo : Nat}

/-- a list that this very call has made, and may make longer -/
def Out (lo : Nat) (h : Heap) (v : V) (xs : List α) : Prop :=
  xs.length < 2 ^ 40 ∧ lo ≤ h.length ∧ ((v = .nils ∧ xs = []) ∨ (∃ b, v = .slice b 0 xs.length (.o (Flat.sz α)) ∧ h[b]? = some ⟨.own, flats xs⟩ ∧ lo ≤ b) ∨ ∃ b, v = .slice b 0 0 (.k 0) ∧ xs = [] ∧ lo ≤ b ∧ b < h.length)

theorem Out.nil (hl : lo ≤ h.length) : Out lo h .nils ([] : List α) := ⟨by simp, hl, .inl ⟨rfl, rfl⟩⟩
theorem Out.empty {b : Nat} (hl : lo ≤ b) (hb : b < h.length) : Out lo h (.slice b 0 0 (.k 0)) ([] : List α) := ⟨by simp, by omega, .inr (.inr ⟨b, rfl, rfl, hl, hb⟩)⟩
theorem Out.sl (ho : Out lo h v xs) : Sl h v xs := by
  obtain ⟨h1, _, ⟨rfl, rfl⟩ | ⟨b, rfl, hb, _⟩ | ⟨b, rfl, rfl, _⟩⟩ := ho
  · exact Sl.nil
  · exact Sl.whole _ hb (by simp) rfl (by omega)
  · exact ⟨by simp, .inr ⟨b, 0, _, rfl, .inl rfl⟩⟩
theorem Out.keeps {h' : Heap} (ho : Out lo h v xs) {P : Nat → Prop} (hk : KeepsP P h h') (hp : ∀ i, vB v i → P i) (hl : h.length ≤ h'.length) : Out lo h' v xs := by
  obtain ⟨h1, h2, ⟨rfl, rfl⟩ | ⟨b, rfl, hb, h3⟩ | ⟨b, rfl, rfl, h3, h4⟩⟩ := ho
  · exact ⟨h1, by omega, .inl ⟨rfl, rfl⟩⟩
  · exact ⟨h1, by omega, .inr (.inl ⟨b, rfl, hk _ _ (hp b ⟨_, _, _, rfl⟩) hb (by simp), h3⟩)⟩
  · exact ⟨h1, by omega, .inr (.inr ⟨b, rfl, rfl, h3, by omega⟩)⟩
theorem Out.ge (ho : Out lo h v xs) {i : Nat} (hi : vB v i) : lo ≤ i ∧ i < h.length := by
  obtain ⟨h1, h2, ⟨rfl, rfl⟩ | ⟨b, rfl, hb, h3⟩ | ⟨b, rfl, rfl, h3, h4⟩⟩ := ho
  · obtain ⟨_, _, _, e⟩ := hi; cases e
  · obtain ⟨_, _, _, e⟩ := hi; cases e; exact ⟨h3, get_lt hb⟩
  · obtain ⟨_, _, _, e⟩ := hi; cases e; exact ⟨h3, h4⟩

theorem Out.app (ho : Out lo h v xs) (zs : List α) (hz : 0 < zs.length) {bytes : Nat} (hb : bytes ≤ 2 ^ 8) (hr : xs.length + zs.length ≤ 2 ^ 30) {k n : Nat} {ys : List V} (hk : k = Flat.sz α) (hn : n = zs.length) (hy : ys = flats zs) :
    ∃ v' h', appH k bytes v n ys h = some (v', h') ∧ Out lo h' v' (xs ++ zs) ∧ KeepsP (fun i => ¬ vB v i) h h' ∧ h.length < h'.length ∧ (∀ i, vB v' i → i = h.length) := by
  subst hk; subst hn; subst hy
  have hk0 := Flat.pos (α := α)
  have hbb : (xs.length + zs.length) * bytes ≤ 2 ^ 30 * 2 ^ 8 := Nat.mul_le_mul hr hb
  obtain ⟨h1, h2, ⟨rfl, rfl⟩ | ⟨b, rfl, hb2, h3⟩ | ⟨b, rfl, rfl, h3, h4⟩⟩ := ho
  · refine ⟨.slice h.length 0 zs.length (.o (Flat.sz α)), h ++ [⟨.own, flats zs⟩], ?_, ⟨by simp at hr ⊢; omega, by simp; omega, .inr (.inl ⟨h.length, by simp, by simp, h2⟩)⟩, fun i blk _ hi hl => Keeps.append h _ i blk hi hl, by simp, fun i hi => ?_⟩
    · simp only [List.length_nil, Nat.zero_add] at hbb hr
      simp only [appH, Nat.ne_of_gt hz, if_false]
      rw [if_pos ⟨by unfold room; omega, by unfold room; omega⟩]
    · obtain ⟨_, _, _, e⟩ := hi; cases e; rfl
  · refine ⟨.slice h.length 0 (xs.length + zs.length) (.o (Flat.sz α)), h.set b ⟨.dead, flats xs⟩ ++ [⟨.own, flats xs ++ flats zs⟩], ?_, ⟨by simp; omega, by simp; omega, .inr (.inl ⟨h.length, by simp, by simp [flats_append], h2⟩)⟩, fun i blk hi hb3 hl => ?_, by simp, fun i hi => ?_⟩
    · have hgt : ¬ (0 + (xs.length + zs.length) * Flat.sz α ≤ (flats xs).length) := by
        rw [flats_len, Nat.add_mul]
        have : 0 < zs.length * Flat.sz α := Nat.mul_pos hz hk0
        omega
      have hcut : cut (flats xs) 0 (xs.length * Flat.sz α) = some (flats xs) := by
        simp only [cut, flats_len, Nat.zero_add, Nat.le_refl, if_true, List.drop_zero]
        rw [flats_take, List.take_length]
      simp only [appH, Nat.ne_of_gt hz, if_false, hb2, hk0, and_self, if_true, hgt, hcut, Option.bind_some]
      rw [if_pos ⟨by unfold room; omega, by unfold room; omega⟩]
    · have hne : i ≠ b := fun e => hi ⟨_, _, _, by rw [e]⟩
      rw [List.getElem?_append_left (by simp; exact get_lt hb3), List.getElem?_set_ne (Ne.symm hne)]
      exact hb3
    · obtain ⟨_, _, _, e⟩ := hi; cases e; rfl
  · refine ⟨.slice h.length 0 zs.length (.o (Flat.sz α)), h ++ [⟨.own, flats zs⟩], ?_, ⟨by simp at hr ⊢; omega, by simp; omega, .inr (.inl ⟨h.length, by simp, by simp, h2⟩)⟩, fun i blk _ hi hl => Keeps.append h _ i blk hi hl, by simp, fun i hi => ?_⟩
    · simp only [List.length_nil, Nat.zero_add] at hbb hr
      have hgt : ¬ (0 + zs.length ≤ 0) := by omega
      simp only [appH, Nat.ne_of_gt hz, if_false, hgt]
      rw [if_pos ⟨by unfold room; rw [Nat.zero_add]; omega, by unfold room; omega⟩]
      simp [rdS]
    · obtain ⟨_, _, _, e⟩ := hi; cases e; rfl

theorem flats_set {α : Type} [Flat α] {xs : List α} {i : Nat} (hi : i < xs.length) (x : α) : lay (flats xs) (i * Flat.sz α) (Flat.cells x) = some (flats (xs.set i x)) := by
  have hle : (i + 1) * Flat.sz α ≤ xs.length * Flat.sz α := Nat.mul_le_mul_right _ hi
  have hs : (i + 1) * Flat.sz α = i * Flat.sz α + Flat.sz α := by rw [Nat.add_mul, Nat.one_mul]
  unfold lay
  rw [if_pos (by rw [flats_len, Flat.len]; omega), flats_take, Flat.len, ← hs, flats_drop]
  rw [List.set_eq_take_append_cons_drop, if_pos hi, flats_append]
  congr 1
  simp [flats]

/-- an element of a list of one's own is set -/
theorem Out.set {α : Type} [Flat α] {h : Heap} {v : V} {xs : List α} {lo : Nat} (ho : Out lo h v xs) {i : Nat} (hi : i < xs.length) (x : α) {o : Nat} {cs : List V} (hoff : o = oOf v + i * Flat.sz α) (hcs : cs = Flat.cells x) :
    ∃ h', wrH h (bOf v) o cs = some h' ∧ Out lo h' v (xs.set i x) ∧ KeepsP (fun i => ¬ vB v i) h h' ∧ h'.length = h.length := by
  subst hoff; subst hcs
  obtain ⟨h1, h2, ⟨rfl, rfl⟩ | ⟨b, rfl, hb, h3⟩ | ⟨b, rfl, rfl, h3, h4⟩⟩ := ho
  · simp at hi
  · refine ⟨h.set b ⟨.own, flats (xs.set i x)⟩, ?_, ⟨by simpa using h1, by simpa using h2, .inr (.inl ⟨b, by simp, by simp [get_lt hb], h3⟩)⟩, fun j blk hj hb2 hl => ?_, by simp⟩
    · simp only [bOf, oOf, Nat.zero_add]
      rw [wrH_at hb rfl]
      simp only [flats_set hi, Option.bind_some]
    · have : j ≠ b := fun e => hj ⟨_, _, _, by rw [e]⟩
      rw [List.getElem?_set_ne (Ne.symm this)]; exact hb2
  · simp at hi
end
end GL
