import Derived.ChangeArms
import Derived.IntWalk
import Derived.WideShapes
import Derived.Test.YtkelbpaegbnahaaGp
/- What the functions of the law do, on the machine. -/
set_option linter.unusedSimpArgs false
set_option linter.unusedVariables false
/-! truths -/
namespace GL
open Go

@[simp] theorem within_eq (n lo hi : Int) (h : Heap) : call p 107 [vi n, vi lo, vi hi] h = some (.bool (decide (lo ≤ n ∧ n ≤ hi)), h) := by
  apply W_eq
  refine call_W (fn := g107) rfl rfl ?_
  by_cases h1 : lo ≤ n <;> simp [g107, h1]

@[simp] theorem l1In_eq (n lo hi : Int) (h : Heap) : call p 98 [vi n, vi lo, vi hi] h = some (.bool (decide (lo ≤ n ∧ n ≤ hi)), h) := by
  apply W_eq
  refine call_W (fn := g98) rfl rfl ?_
  by_cases h1 : lo ≤ n <;> simp [g98, h1]

def isT (n : Int) : Prop := 0 ≤ n ∧ n ≤ 2
instance (n : Int) : Decidable (isT n) := inferInstanceAs (Decidable (_ ∧ _))

end GL

/-! the cursor of the draws -/
namespace GL
open Go

/-- a cursor at block c: what it holds, and how far it has come at most -/
def Cur (h : Heap) (c N : Nat) : Prop := ∃ (v : V) (bs : List Byte) (n : Nat) (sd : Int), h[c]? = some ⟨.own, [v, vi n, .int .u64 sd]⟩ ∧ Sl h v bs ∧ (bs = [] ∨ bOf v < c) ∧ n ≤ N

theorem Cur.mono {h : Heap} {c N M : Nat} (hc : Cur h c N) (hn : N ≤ M) : Cur h c M := by
  obtain ⟨v, bs, n, sd, h1, h2, h3, h4⟩ := hc
  exact ⟨v, bs, n, sd, h1, h2, h3, by omega⟩

theorem Cur.keeps {h h' : Heap} {c N : Nat} (hc : Cur h c N) (hk : Keeps h h') : Cur h' c N := by
  obtain ⟨v, bs, n, sd, h1, h2, h3, h4⟩ := hc
  exact ⟨v, bs, n, sd, hk _ _ h1 (by simp), h2.keeps hk, h3, h4⟩

theorem Cur.lt {h : Heap} {c N : Nat} (hc : Cur h c N) : c < h.length := by
  obtain ⟨_, _, _, _, h1, _⟩ := hc; exact get_lt h1

theorem Cur.keepsP {h h' : Heap} {c N : Nat} {P : Nat → Prop} (hc : Cur h c N) (hk : KeepsP P h h') (hp : ∀ i, i ≤ c → P i) : Cur h' c N := by
  obtain ⟨v, bs, n, sd, h1, h2, h3, h4⟩ := hc
  refine ⟨v, bs, n, sd, hk _ _ (hp _ (Nat.le_refl _)) h1 (by simp), ?_, h3, h4⟩
  refine ⟨h2.1, ?_⟩
  rcases h2.2 with hs | ⟨b, off, cap, hv, hs⟩
  · exact .inl hs
  · refine .inr ⟨b, off, cap, hv, ?_⟩
    rcases hs with hs | ⟨blk, h6, h7, h8⟩
    · exact .inl hs
    · subst hv
      rcases h3 with h5 | h5
      · exact .inl h5
      · exact .inr ⟨blk, hk _ _ (hp _ (Nat.le_of_lt h5)) h6 h7, h7, h8⟩

theorem Cur.set {h : Heap} {c N n : Nat} {v : V} {bs : List Byte} {nb : Blk} {sd sd' : Int} (h1 : h[c]? = some ⟨.own, [v, vi n, .int .u64 sd]⟩) (h2 : Sl h v bs) (h3 : bs = [] ∨ bOf v < c) (hn : n ≤ N)
    (hb : nb = ⟨.own, [v, vi (n + 1 : Nat), .int .u64 sd']⟩) : Cur (h.set c nb) c (N + 1) := by
  subst hb
  exact ⟨v, bs, n + 1, sd', by simp [get_lt h1], h2.but (h3.imp_right Nat.ne_of_lt) (KeepsBut.set _ _ _), h3, by omega⟩

end GL

namespace GL
open Go

theorem drawTwo {h : Heap} {v : V} {bs : List Byte} (hs : Sl h v bs) : Cur (h ++ [⟨.own, [v, vi 0, .int .u64 0]⟩]) h.length 0 := by
  refine ⟨v, bs, 0, 0, by simp, hs.keeps (Keeps.append h _), ?_, Nat.le_refl _⟩
  rcases hs.2 with ⟨_, h1⟩ | ⟨b, off, cap, rfl, h1 | ⟨blk, h1, _⟩⟩
  · exact .inl h1
  · exact .inl h1
  · exact .inr (get_lt h1)

theorem l1All_eq {h : Heap} {v : V} {xs : List Int} (hs : Sl h v xs) (lo hi : Int) : call p 94 [v, vi lo, vi hi] h = some (.bool (xs.all fun n => decide (lo ≤ n ∧ n ≤ hi)), h) := by
  refine go_eq (fn := g94) rfl rfl fun R hR => ?_
  simp [g94, hs.len]
  refine Wc_up xs.length (fun i s => s.σ 9 = .v v ∧ s.σ 10 = .v (vi xs.length) ∧ s.σ 11 = .v (vi i) ∧ s.σ 1 = .v (vi lo) ∧ s.σ 2 = .v (vi hi) ∧ s.h = h ∧ ∀ x ∈ xs.take i, lo ≤ x ∧ x ≤ hi) 0 (by simp) fun i s ⟨h9, h10, h11, h1, h2, hh, hall⟩ => ?_
  by_cases hn : i < xs.length
  · by_cases hx : lo ≤ xs[i] ∧ xs[i] ≤ hi
    · have h3 : ∀ x ∈ xs.take (i + 1), lo ≤ x ∧ x ≤ hi := by
        rw [List.take_succ_eq_append_getElem hn]; intro x hx'
        rcases List.mem_append.1 hx' with h | h
        · exact hall x h
        · simp at h; subst h; exact hx
      simp [g94_0, h9, h10, h11, h1, h2, hh, hn, hs.idx, hs.loadI, hx, hs.step hn]
      exact h3
    · have h3 : (xs.all fun n => decide (lo ≤ n ∧ n ≤ hi)) = false := by
        rw [List.all_eq_false]; exact ⟨xs[i], by simp, by simpa using hx⟩
      rw [h3] at hR
      simp [g94_0, h9, h10, h11, h1, h2, hh, hn, hs.idx, hs.loadI, hx, -Bool.decide_and]
      exact hR
  · have h3 : (xs.all fun n => decide (lo ≤ n ∧ n ≤ hi)) = true := by
      rw [List.all_eq_true]; intro x hx; rw [List.take_of_length_le (by omega)] at hall; simpa using hall x hx
    rw [h3] at hR
    simp [g94_0, h10, h11, hh, hn]
    exact hR
end GL

namespace GL
open Go

end GL

namespace GL
open Go

theorem KeepsBut.out {c lo : Nat} {h h' : Heap} {α : Type} [Flat α] {v : V} {xs : List α} (hk : KeepsBut c h h') (ho : Out lo h v xs) (hc : c < lo) (hl : h.length ≤ h'.length) : Out lo h' v xs :=
  ho.keeps (P := fun i => i ≠ c) (fun b blk hb h1 h2 => hk b blk hb h1 h2) (fun i hi => by have := (ho.ge hi).1; omega) hl

theorem Keeps.out {lo : Nat} {h h' : Heap} {α : Type} [Flat α] {v : V} {xs : List α} (hk : Keeps h h') (ho : Out lo h v xs) (hl : h.length ≤ h'.length) : Out lo h' v xs :=
  ho.keeps (P := fun _ => True) (fun b blk _ h1 h2 => hk b blk h1 h2) (fun _ _ => trivial) hl

/-- nothing that stood at first is touched -/
theorem Keeps.far {n : Nat} {h0 h h' : Heap} {P : Nat → Prop} (h1 : Keeps h0 h) (hk : KeepsP P h h') (hn : h0.length ≤ n) (hp : ∀ i, i < n → P i) : Keeps h0 h' := fun i blk hi hl =>
  hk i blk (hp i (by have := get_lt hi; omega)) (h1 i blk hi hl) hl
theorem KeepsBut.P {c : Nat} {h h' : Heap} (hk : KeepsBut c h h') : KeepsP (fun i => i ≠ c) h h' := fun b blk hb h1 h2 => hk b blk hb h1 h2

def DI (h0 : Heap) (k : Nat) (s : S) : Prop :=
  k ≤ 30 ∧ s.σ 5 = .v (vi k) ∧ s.σ 3 = .v (.ptr h0.length 0) ∧ ∃ v xs, s.σ 4 = .v v ∧ Out (h0.length + 1) s.h v (xs : List Int) ∧ xs.length ≤ 30 - k ∧ Cur s.h h0.length (1000 - 2 * k) ∧ Keeps h0 s.h

theorem DI.start {h0 h : Heap} {σ : Nat → T} {L : Nat → Nat × List V} {wt : Nat → Option (ROp × List T × V)} {fl : Nat → Bool} {b N n : Nat} (hn : n ≤ 30) (h5 : σ 5 = .v (vi n)) (h3 : σ 3 = .v (.ptr h0.length 0)) (h4 : σ 4 = .v .nils)
    (hc : Cur h h0.length N) (hN : N ≤ 900) (hk : Keeps h0 h) : DI h0 n ⟨σ, L, h, wt, fl, b⟩ :=
  ⟨hn, h5, h3, .nils, [], h4, Out.nil (by have := hc.lt; show h0.length + 1 ≤ h.length; omega), by simp, hc.mono (by omega), hk⟩

end GL

namespace GL
open Go

end GL

/-! values -/
namespace GL
open Go

structure Val where
  null : Bool
  n : Int
instance : Flat Val := ⟨2, fun x => [.bool x.null, vi x.n], fun _ => rfl, fun _ => rfl, by decide⟩
end GL

namespace GL
open Go

end GL

namespace GL
open Go

theorem Out.one {lo : Nat} {h : Heap} {v : V} {xs : List Int} (ho : Out lo h v xs) (x : Int) (hx : xs.length ≤ 2 ^ 20) :
    ∃ v' h', appH 1 8 v 1 [vi x] (h ++ [⟨.own, [vi x]⟩]) = some (v', h') ∧ Out lo h' v' (xs ++ [x]) ∧ KeepsP (fun i => ¬ vB v i) h h' ∧ h.length < h'.length := by
  have o3 : Out lo (h ++ [⟨.own, [vi x]⟩]) v xs := (Keeps.append h _).out ho (by simp)
  obtain ⟨v', h', e4, o4, k4, l4, b4⟩ := o3.app [x] (by simp) (bytes := 8) (by decide) (by simp; omega) (k := 1) rfl (n := 1) rfl (ys := [vi x]) rfl
  exact ⟨v', h', e4, o4, fun i blk hi h1 h2 => k4 i blk hi (Keeps.append h _ i blk h1 h2) h2, by simp at l4; omega⟩

theorem Out.far {lo : Nat} {h0 h h' : Heap} {α : Type} [Flat α] {v : V} {xs : List α} (ho : Out lo h v xs) (hk : Keeps h0 h) (hp : KeepsP (fun i => ¬ vB v i) h h') (hl : h0.length ≤ lo) : Keeps h0 h' :=
  Keeps.far hk hp hl fun i hi hv => by have := (ho.ge hv).1; omega

end GL

namespace GL
open Go

end GL

namespace GL
open Go

end GL

namespace GL
open Go

end GL

namespace GL
open Go

end GL

/-! sums -/
namespace GL
open Go

end GL

/-! GL: what code does not touch. -/
namespace GL
open Go

def xmods : List AOper → List Nat
  | [] => []
  | o :: r => (match o.dst with | some t => [t] | none => []) ++ xmods r

/-- the slots that code may set -/
def mods : Code → List Nat
  | .reg _ ops => xmods ops
  | .seq a b => mods a ++ mods b
  | .cond _ a b => mods a ++ mods b
  | .block _ c => mods c
  | .loop c => mods c
  | _ => []

theorem put_mods (s : S) (d : Option Nat) (x : T) {k : Nat} (hk : k ∉ (match d with | some t => [t] | none => [])) : (s.put d x).σ k = s.σ k := by
  cases d with
  | none => rfl
  | some t =>
    have : k ≠ t := by simpa using hk
    simp [S.put, upd, this]

theorem xop_mods {c : CallF} {o : AOper} {s s' : S} (h : xop c o s = some s') {k : Nat} (hk : k ∉ (match o.dst with | some t => [t] | none => [])) : s'.σ k = s.σ k := by
  unfold xop at h
  obtain ⟨b, _, h⟩ := Option.bind_eq_some_iff.1 h
  split at h
  · unfold aop at h
    split at h
    · obtain ⟨x, _, h⟩ := Option.bind_eq_some_iff.1 h
      cases h; exact put_mods _ _ _ hk
    · obtain ⟨r, _, h⟩ := Option.bind_eq_some_iff.1 h
      cases h; exact put_mods { s with L := r.2 } _ _ hk
    · obtain ⟨r, _, h⟩ := Option.bind_eq_some_iff.1 h
      split at h
      · split at h
        · cases h; exact put_mods { s with wt := _ } _ _ hk
        · cases h
      · cases h; exact put_mods _ _ _ hk
    · obtain ⟨r, _, h⟩ := Option.bind_eq_some_iff.1 h
      split at h
      · cases h; exact put_mods { s with h := _ } _ _ hk
      · cases h
    · obtain ⟨r, _, h⟩ := Option.bind_eq_some_iff.1 h
      split at h
      · cases h; exact put_mods { s with h := _, fl := _ } _ _ hk
      · cases h
  · cases h; exact put_mods _ _ _ hk

theorem xops_mods {c : CallF} : ∀ {l : List AOper} {s s' : S}, xops c l s = some s' → ∀ {k : Nat}, k ∉ xmods l → s'.σ k = s.σ k
  | [], s, s', h, k, _ => by simp [xops] at h; rw [h]
  | o :: r, s, s', h, k, hk => by
    simp only [xops] at h
    obtain ⟨s1, h1, h⟩ := Option.bind_eq_some_iff.1 h
    rw [xops_mods h fun hm => hk (List.mem_append_right _ hm), xop_mods h1 fun hm => hk (List.mem_append_left _ hm)]

theorem den_mods {p : Prog} : ∀ {c : Code} {s : S} {e : Ex} {s' : S}, den p c s = some (e, s') → ∀ {k : Nat}, k ∉ mods c → s'.σ k = s.σ k := by
  intro c
  induction c with
  | skip => intro s e s' h k _; simp [den] at h; rw [h.2]
  | exit i => intro s e s' h k _; simp [den] at h; rw [h.2]
  | ret => intro s e s' h k _; simp [den] at h; rw [h.2]
  | bad => intro s e s' h k _; simp [den] at h
  | reg n l =>
    intro s e s' h k hk
    simp only [den] at h
    obtain ⟨s1, h1, h⟩ := Option.bind_eq_some_iff.1 h
    cases h
    exact (xops_mods h1 hk).trans rfl
  | seq a b iha ihb =>
    intro s e s' h k hk
    simp only [den] at h
    obtain ⟨⟨e1, s1⟩, h1, h⟩ := Option.bind_eq_some_iff.1 h
    have ha := iha h1 (k := k) fun hm => hk (List.mem_append_left _ hm)
    cases e1 with
    | norm => rw [ihb h fun hm => hk (List.mem_append_right _ hm), ha]
    | exit i => cases h; exact ha
    | ret => cases h; exact ha
  | cond c a b iha ihb =>
    intro s e s' h k hk
    simp only [den] at h
    split at h
    · exact iha h fun hm => hk (List.mem_append_left _ hm)
    · exact ihb h fun hm => hk (List.mem_append_right _ hm)
    · cases h
  | block i c ih =>
    intro s e s' h k hk
    simp only [den] at h
    obtain ⟨⟨e1, s1⟩, h1, h⟩ := Option.bind_eq_some_iff.1 h
    have ha := ih h1 (k := k) hk
    cases e1 with
    | norm => cases h; exact ha
    | ret => cases h; exact ha
    | exit j =>
      simp only at h
      split at h <;> (cases h; exact ha)
  | loop c ih =>
    intro s e s' h k hk
    obtain ⟨n, h0⟩ := den_loop.1 h
    clear h
    revert h0
    induction n generalizing s with
    | zero => intro h; simp [loopN] at h
    | succ n ihn =>
      intro h
      simp only [loopN] at h
      obtain ⟨⟨e1, s1⟩, h1, h⟩ := Option.bind_eq_some_iff.1 h
      have ha := ih h1 (k := k) hk
      cases e1 with
      | norm => exact (ihn h).trans ha
      | exit i => cases h; exact ha
      | ret => cases h; exact ha

/-- a loop that counts up to n, with what it leaves alone -/
theorem Wc_upM {p : Prog} {c : Code} {s0 : S} {Q : Ex → S → Prop} {M : List Nat} (hm : ((mods c).all fun k => M.contains k) = true) (n : Nat) (I : Nat → S → Prop) (i : Nat) (h0 : I i s0)
    (hb : ∀ i s, I i s → (∀ k, k ∉ M → s.σ k = s0.σ k) → ∀ J : S → Prop, (∀ s', i < n → I (i + 1) s' → J s') → Wc p c s (stepK J Q)) : Wc p (.loop c) s0 Q := by
  have hm' : ∀ k, k ∉ M → k ∉ mods c := fun k hk hc => hk (by simpa using List.all_eq_true.1 hm k hc)
  refine Wc_up n (fun i s => I i s ∧ ∀ k, k ∉ M → s.σ k = s0.σ k) i ⟨h0, fun _ _ => rfl⟩ fun i s ⟨hI, hM⟩ => ?_
  obtain ⟨⟨e, s'⟩, h1, hq⟩ := hb i s hI hM (fun s' => i < n ∧ I (i + 1) s') fun s' h1 h2 => ⟨h1, h2⟩
  refine ⟨(e, s'), h1, ?_⟩
  cases e with
  | norm => exact ⟨hq.1, hq.2, fun k hk => (den_mods h1 (hm' k hk)).trans (hM k hk)⟩
  | exit x => exact hq
  | ret => exact hq

end GL

namespace GL
open Go

end GL

namespace GL
open Go

end GL

/-! GL: data with slices inside. -/
namespace GL
open Go

/-- data in memory: its cells, and the blocks that it lies in -/
class Data (α : Type) where
  sz : Nat
  pos : 0 < sz
  rep : Heap → α → List V → List Nat → Prop
  len : ∀ {h a cs F}, rep h a cs F → cs.length = sz
  ok : ∀ {h a cs F}, rep h a cs F → allCell cs = true
  keeps : ∀ {h h' a cs F}, rep h a cs F → KeepsP (fun b => b ∈ F) h h' → rep h' a cs F
  lt : ∀ {h a cs F b}, rep h a cs F → b ∈ F → ∃ blk, h[b]? = some blk ∧ blk.st ≠ .dead

theorem KeepsP.mono {P Q : Nat → Prop} {h h' : Heap} (hk : KeepsP P h h') (hq : ∀ b, Q b → P b) : KeepsP Q h h' := fun b blk hb => hk b blk (hq b hb)
theorem KeepsP.trans {P : Nat → Prop} {a b c : Heap} (h1 : KeepsP P a b) (h2 : KeepsP P b c) : KeepsP P a c := fun i blk hp h hl => h2 i blk hp (h1 i blk hp h hl) hl
theorem KeepsP.refl (P : Nat → Prop) (h : Heap) : KeepsP P h h := fun _ _ _ h _ => h
theorem Keeps.p {h h' : Heap} (hk : Keeps h h') (P : Nat → Prop) : KeepsP P h h' := fun b blk _ hb hl => hk b blk hb hl

instance flatData {α : Type} [Flat α] : Data α where
  sz := Flat.sz α
  pos := Flat.pos
  rep := fun _ a cs F => cs = Flat.cells a ∧ F = []
  len := by rintro h a cs F ⟨rfl, _⟩; exact Flat.len a
  ok := by rintro h a cs F ⟨rfl, _⟩; exact Flat.ok a
  keeps := fun h _ => h
  lt := by rintro h a cs F b ⟨_, rfl⟩ hb; cases hb

section
variable {α : Type} [Data α]

def Reps (h : Heap) : List α → List V → List Nat → Prop
  | [], cs, F => cs = [] ∧ F = []
  | x :: xs, cs, F => ∃ c r F1 F2, cs = c ++ r ∧ F = F1 ++ F2 ∧ Data.rep h x c F1 ∧ Reps h xs r F2

theorem Reps.nil {h : Heap} : Reps h ([] : List α) [] [] := ⟨rfl, rfl⟩
theorem Reps.one {h : Heap} {x : α} {c : List V} {F : List Nat} (hr : Data.rep h x c F) : Reps h [x] c F := ⟨c, [], F, [], by simp, by simp, hr, .nil⟩
theorem Reps.len {h : Heap} : ∀ {xs : List α} {cs : List V} {F : List Nat}, Reps h xs cs F → cs.length = xs.length * Data.sz α
  | [], cs, F, hr => by simp [hr.1]
  | x :: xs, cs, F, ⟨c, r, F1, F2, e, _, h1, h2⟩ => by
    subst e
    rw [List.length_append, Data.len h1, Reps.len h2, List.length_cons, Nat.add_mul]; omega
theorem Reps.ok {h : Heap} : ∀ {xs : List α} {cs : List V} {F : List Nat}, Reps h xs cs F → allCell cs = true
  | [], cs, F, hr => by rw [hr.1]; rfl
  | x :: xs, cs, F, ⟨c, r, F1, F2, e, _, h1, h2⟩ => by
    subst e
    have a := Data.ok h1
    have b := Reps.ok h2
    simp only [allCell, List.all_append, Bool.and_eq_true] at a b ⊢
    exact ⟨a, b⟩
theorem Reps.keeps {h h' : Heap} : ∀ {xs : List α} {cs : List V} {F : List Nat}, Reps h xs cs F → KeepsP (fun b => b ∈ F) h h' → Reps h' xs cs F
  | [], cs, F, hr, _ => hr
  | x :: xs, cs, F, ⟨c, r, F1, F2, e, f, h1, h2⟩, hk => by
    subst f
    exact ⟨c, r, F1, F2, e, rfl, Data.keeps h1 (hk.mono fun b hb => List.mem_append_left _ hb), Reps.keeps h2 (hk.mono fun b hb => List.mem_append_right _ hb)⟩
theorem Reps.lt {h : Heap} : ∀ {xs : List α} {cs : List V} {F : List Nat} {b : Nat}, Reps h xs cs F → b ∈ F → ∃ blk, h[b]? = some blk ∧ blk.st ≠ .dead
  | [], cs, F, b, hr, hb => by rw [hr.2] at hb; cases hb
  | x :: xs, cs, F, b, ⟨c, r, F1, F2, e, f, h1, h2⟩, hb => by
    subst f
    rcases List.mem_append.1 hb with hb | hb
    · exact Data.lt h1 hb
    · exact Reps.lt h2 hb
theorem Reps.append {h : Heap} : ∀ {xs ys : List α} {cs ds : List V} {F G : List Nat}, Reps h xs cs F → Reps h ys ds G → Reps h (xs ++ ys) (cs ++ ds) (F ++ G)
  | [], ys, cs, ds, F, G, hr, hs => by rw [hr.1, hr.2]; exact hs
  | x :: xs, ys, cs, ds, F, G, ⟨c, r, F1, F2, e, f, h1, h2⟩, hs => ⟨c, r ++ ds, F1, F2 ++ G, by simp [e], by simp [f], h1, Reps.append h2 hs⟩
theorem Reps.split {h : Heap} : ∀ {xs ys : List α} {cs : List V} {F : List Nat}, Reps h (xs ++ ys) cs F → ∃ c1 c2 F1 F2, cs = c1 ++ c2 ∧ F = F1 ++ F2 ∧ Reps h xs c1 F1 ∧ Reps h ys c2 F2
  | [], ys, cs, F, hr => ⟨[], cs, [], F, rfl, rfl, .nil, hr⟩
  | x :: xs, ys, cs, F, ⟨c, r, F1, F2, e, f, h1, h2⟩ => by
    obtain ⟨c1, c2, G1, G2, e2, f2, h3, h4⟩ := Reps.split (xs := xs) h2
    exact ⟨c ++ c1, c2, F1 ++ G1, G2, by simp [e, e2], by simp [f, f2], ⟨c, c1, F1, G1, rfl, rfl, h1, h3⟩, h4⟩
theorem Reps.cut2 {h : Heap} {xs : List α} {cs : List V} {F : List Nat} (hr : Reps h xs cs F) (i : Nat) (hi : i ≤ xs.length) :
    ∃ F1 F2, F = F1 ++ F2 ∧ Reps h (xs.take i) (cs.take (i * Data.sz α)) F1 ∧ Reps h (xs.drop i) (cs.drop (i * Data.sz α)) F2 := by
  rw [← List.take_append_drop i xs] at hr
  obtain ⟨c1, c2, F1, F2, e, f, h1, h2⟩ := hr.split
  have hl := h1.len
  have ht : (xs.take i).length = i := by simp; omega
  rw [ht] at hl
  subst e
  refine ⟨F1, F2, f, ?_, ?_⟩
  · rw [← hl, List.take_left']; exact h1; rfl
  · rw [← hl, List.drop_left']; exact h2; rfl
theorem Reps.get {h : Heap} {xs : List α} {cs : List V} {F : List Nat} (hr : Reps h xs cs F) (i : Nat) (hi : i < xs.length) :
    ∃ F1 F2 F3, F = F1 ++ F2 ++ F3 ∧ Data.rep h xs[i] ((cs.drop (i * Data.sz α)).take (Data.sz α)) F2 ∧ Reps h (xs.take i) (cs.take (i * Data.sz α)) F1 ∧ Reps h (xs.drop (i + 1)) (cs.drop ((i + 1) * Data.sz α)) F3 := by
  obtain ⟨F1, F2, f, h1, h2⟩ := hr.cut2 i (by omega)
  rw [List.drop_eq_getElem_cons hi] at h2
  obtain ⟨c, r, G1, G2, e, g, h3, h4⟩ := h2
  have hl := Data.len h3
  refine ⟨F1, G1, G2, by simp [f, g], ?_, h1, ?_⟩
  · rw [e, ← hl, List.take_left']; exact h3; rfl
  · have : cs.drop ((i + 1) * Data.sz α) = (cs.drop (i * Data.sz α)).drop (Data.sz α) := by rw [List.drop_drop, Nat.add_mul, Nat.one_mul]
    rw [this, e, ← hl, List.drop_left']; exact h4; rfl

/-- a capacity that may be: at least the length, or unknown -/
def capW (k n : Nat) : Cap → Prop
  | .k c => n ≤ c
  | .o k' => k' = k
def capOK (k : Nat) : V → Prop
  | .slice _ _ n cap => capW k n cap
  | _ => True

/-- a slice that holds these, and the blocks that it all lies in -/
def SdF (h : Heap) (v : V) (xs : List α) (F : List Nat) : Prop :=
  xs.length < 2 ^ 63 ∧ ((v = .nils ∧ xs = [] ∧ F = []) ∨ ∃ b off cap, v = .slice b off xs.length cap ∧ capW (Data.sz α) xs.length cap ∧ ((xs = [] ∧ F = []) ∨ ∃ blk cs G, F = b :: G ∧ h[b]? = some blk ∧ blk.st ≠ .dead ∧ cut blk.cells off (xs.length * Data.sz α) = some cs ∧ Reps h xs cs G))

variable {h h' : Heap} {v : V} {xs : List α} {F : List Nat}
theorem SdF.len (hs : SdF h v xs F) : lenV v = some xs.length := by
  rcases hs with ⟨_, ⟨rfl, rfl, _⟩ | ⟨b, off, cap, rfl, _⟩⟩ <;> rfl
theorem SdF.cells (hs : SdF h v xs F) : v.cells = [v] := by
  rcases hs with ⟨_, ⟨rfl, rfl, _⟩ | ⟨b, off, cap, rfl, _⟩⟩ <;> rfl
theorem SdF.cell (hs : SdF h v xs F) : v.cell = true := by
  rcases hs with ⟨_, ⟨rfl, rfl, _⟩ | ⟨b, off, cap, rfl, _⟩⟩ <;> rfl
theorem SdF.bd (hs : SdF h v xs F) : xs.length < 2 ^ 63 := hs.1
theorem SdF.step (hs : SdF h v xs F) {i : Nat} (hi : i < xs.length) : IntKind.i64.wrap ((i : Int) + 1) = i + 1 := by
  have := hs.1
  exact IntWalk.i64_in _ (by omega)
theorem SdF.cap (hs : SdF h v xs F) : capOK (Data.sz α) v := by
  rcases hs with ⟨_, ⟨rfl, _, _⟩ | ⟨b, off, cap, rfl, hc, _⟩⟩
  · trivial
  · exact hc
theorem SdF.nil : SdF h .nils ([] : List α) [] := ⟨by simp, .inl ⟨rfl, rfl, rfl⟩⟩
theorem SdF.idx (hs : SdF h v xs F) (k : Nat) (kd : IntKind) (i : Nat) (hi : i < xs.length) : idxV k v (.int kd i) = some (.ptr (bOf v) (oOf v + i * k)) := by
  rcases hs with ⟨_, ⟨rfl, rfl, _⟩ | ⟨b, off, cap, rfl, _⟩⟩
  · simp at hi
  · simp [idxV, hi, bOf, oOf]
theorem SdF.keeps (hs : SdF h v xs F) (hk : KeepsP (fun b => b ∈ F) h h') : SdF h' v xs F := by
  refine ⟨hs.1, ?_⟩
  rcases hs.2 with hs | ⟨b, off, cap, hv, hc, hs⟩
  · exact .inl hs
  · refine .inr ⟨b, off, cap, hv, hc, ?_⟩
    rcases hs with hs | ⟨blk, cs, G, f, h1, h2, h3, h4⟩
    · exact .inl hs
    · subst f
      exact .inr ⟨blk, cs, G, rfl, hk _ _ (List.mem_cons_self ..) h1 h2, h2, h3, h4.keeps (hk.mono fun b hb => List.mem_cons_of_mem _ hb)⟩
theorem SdF.keep (hs : SdF h v xs F) (hk : Keeps h h') : SdF h' v xs F := hs.keeps (hk.p _)
theorem SdF.lt (hs : SdF h v xs F) {i : Nat} (hi : i ∈ F) : ∃ blk, h[i]? = some blk ∧ blk.st ≠ .dead := by
  rcases hs.2 with ⟨_, _, hs⟩ | ⟨b, off, cap, hv, _, hs⟩
  · rw [hs] at hi; cases hi
  · rcases hs with ⟨_, hs⟩ | ⟨blk, cs, G, f, h1, h2, h3, h4⟩
    · rw [hs] at hi; cases hi
    · subst f
      rcases List.mem_cons.1 hi with rfl | hi
      · exact ⟨blk, h1, h2⟩
      · exact h4.lt hi
/-- the first ones, all at once -/
theorem SdF.rdS (hs : SdF h v xs F) : ∃ cs G, GL.rdS h (Data.sz α) v xs.length = some cs ∧ Reps h xs cs G ∧ ∀ b ∈ G, b ∈ F := by
  rcases hs with ⟨_, ⟨rfl, rfl, _⟩ | ⟨b, off, cap, rfl, _, hs⟩⟩
  · exact ⟨[], [], by simp [GL.rdS], .nil, by simp⟩
  · rcases hs with ⟨rfl, _⟩ | ⟨blk, cs, G, f, h1, h2, h3, h4⟩
    · exact ⟨[], [], by simp [GL.rdS], .nil, by simp⟩
    · refine ⟨cs, G, ?_, h4, fun b hb => by rw [f]; exact List.mem_cons_of_mem _ hb⟩
      simp only [GL.rdS, Nat.le_refl, if_true]
      split
      · rename_i h0
        have := h4.len
        rw [h0] at this
        rw [List.length_eq_zero_iff.1 this]
      · simp only [rdH, h1, h2, if_false, h3]
end

section
variable {α : Type} [Flat α] {h : Heap} {v : V} {xs : List α} {F : List Nat}
theorem Reps.flat : ∀ {xs : List α} {cs : List V} {F : List Nat}, Reps h xs cs F ↔ cs = flats xs ∧ F = []
  | [], cs, F => by simp [Reps, flats]
  | x :: xs, cs, F => by
    constructor
    · rintro ⟨c, r, F1, F2, rfl, rfl, ⟨rfl, rfl⟩, h2⟩
      obtain ⟨rfl, rfl⟩ := Reps.flat.1 h2
      exact ⟨by simp [flats], rfl⟩
    · rintro ⟨rfl, rfl⟩
      exact ⟨Flat.cells x, flats xs, [], [], by simp [flats], rfl, ⟨rfl, rfl⟩, Reps.flat.2 ⟨rfl, rfl⟩⟩
theorem SdF.sl (hs : SdF h v xs F) : Sl h v xs := by
  refine ⟨hs.1, ?_⟩
  rcases hs.2 with hs | ⟨b, off, cap, hv, _, hs⟩
  · exact .inl ⟨hs.1, hs.2.1⟩
  · refine .inr ⟨b, off, cap, hv, ?_⟩
    rcases hs with ⟨hs, _⟩ | ⟨blk, cs, G, f, h1, h2, h3, h4⟩
    · exact .inl hs
    · exact .inr ⟨blk, h1, h2, by rw [(Reps.flat.1 h4).1] at h3; exact h3⟩
theorem Sl.sdF (hs : Sl h v xs) (hc : capOK (Flat.sz α) v) : ∃ F, SdF h v xs F ∧ (∀ b ∈ F, b = bOf v ∧ vB v b) ∧ F.length ≤ 1 := by
  rcases hs with ⟨hb, ⟨rfl, rfl⟩ | ⟨b, off, cap, rfl, hs⟩⟩
  · exact ⟨[], .nil, by simp, by simp⟩
  · rcases hs with rfl | ⟨blk, h1, h2, h3⟩
    · exact ⟨[], ⟨hb, .inr ⟨b, off, cap, rfl, hc, .inl ⟨rfl, rfl⟩⟩⟩, by simp, by simp⟩
    · exact ⟨[b], ⟨hb, .inr ⟨b, off, cap, rfl, hc, .inr ⟨blk, _, [], rfl, h1, h2, h3, Reps.flat.2 ⟨rfl, rfl⟩⟩⟩⟩, by simp [bOf, vB], by simp⟩
end

instance listData {α : Type} [Data α] : Data (List α) where
  sz := 1
  pos := by decide
  rep := fun h xs cs F => ∃ v, cs = [v] ∧ SdF h v xs F
  len := by rintro h a cs F ⟨v, rfl, _⟩; rfl
  ok := by rintro h a cs F ⟨v, rfl, hs⟩; simp [allCell, hs.cell]
  keeps := by rintro h h' a cs F ⟨v, rfl, hs⟩ hk; exact ⟨v, rfl, hs.keeps hk⟩
  lt := by rintro h a cs F b ⟨v, rfl, hs⟩ hb; exact hs.lt hb

section
variable {α : Type} [Data α] {h : Heap} {v : V} {xs : List α} {lo : Nat} {F : List Nat}
/-- a list that this very call has made, and may make longer -/
def Od (lo : Nat) (h : Heap) (v : V) (xs : List α) (F : List Nat) : Prop :=
  xs.length < 2 ^ 40 ∧ lo ≤ h.length ∧ ((v = .nils ∧ xs = [] ∧ F = []) ∨ (∃ b cs, v = .slice b 0 xs.length (.o (Data.sz α)) ∧ h[b]? = some ⟨.own, cs⟩ ∧ lo ≤ b ∧ Reps h xs cs F ∧ b ∉ F) ∨ ∃ b, v = .slice b 0 0 (.k 0) ∧ xs = [] ∧ F = [] ∧ lo ≤ b ∧ b < h.length)

theorem Od.nil (hl : lo ≤ h.length) : Od lo h .nils ([] : List α) [] := ⟨by simp, hl, .inl ⟨rfl, rfl, rfl⟩⟩
theorem Od.empty {b : Nat} (hl : lo ≤ b) (hb : b < h.length) : Od lo h (.slice b 0 0 (.k 0)) ([] : List α) [] := ⟨by simp, by omega, .inr (.inr ⟨b, rfl, rfl, rfl, hl, hb⟩)⟩
theorem Od.sd (ho : Od lo h v xs F) : ∃ F', SdF h v xs F' ∧ (F' = F ∨ (F' = bOf v :: F ∧ vB v (bOf v) ∧ bOf v ∉ F ∧ ∃ cs, h[bOf v]? = some ⟨.own, cs⟩)) := by
  obtain ⟨h1, _, ⟨rfl, rfl, rfl⟩ | ⟨b, cs, rfl, hb, _, hr, hn⟩ | ⟨b, rfl, rfl, rfl, _⟩⟩ := ho
  · exact ⟨[], .nil, .inl rfl⟩
  · refine ⟨b :: F, ⟨by omega, .inr ⟨b, 0, _, rfl, rfl, .inr ⟨_, cs, F, rfl, hb, by simp, ?_, hr⟩⟩⟩, .inr ⟨rfl, ⟨_, _, _, rfl⟩, hn, cs, hb⟩⟩
    simp only [cut, hr.len, Nat.zero_add, Nat.le_refl, if_true, List.drop_zero]
    rw [← hr.len, List.take_length]
  · exact ⟨[], ⟨by simp, .inr ⟨b, 0, _, rfl, Nat.le_refl _, .inl ⟨rfl, rfl⟩⟩⟩, .inl rfl⟩
theorem Od.keeps {h' : Heap} (ho : Od lo h v xs F) {P : Nat → Prop} (hk : KeepsP P h h') (hp : ∀ i, vB v i → P i) (hF : ∀ i ∈ F, P i) (hl : h.length ≤ h'.length) : Od lo h' v xs F := by
  obtain ⟨h1, h2, ⟨rfl, rfl, rfl⟩ | ⟨b, cs, rfl, hb, h3, hr, hn⟩ | ⟨b, rfl, rfl, rfl, h3, h4⟩⟩ := ho
  · exact ⟨h1, by omega, .inl ⟨rfl, rfl, rfl⟩⟩
  · exact ⟨h1, by omega, .inr (.inl ⟨b, cs, rfl, hk _ _ (hp b ⟨_, _, _, rfl⟩) hb (by simp), h3, hr.keeps (hk.mono hF), hn⟩)⟩
  · exact ⟨h1, by omega, .inr (.inr ⟨b, rfl, rfl, rfl, h3, by omega⟩)⟩
theorem Od.ge (ho : Od lo h v xs F) {i : Nat} (hi : vB v i) : lo ≤ i ∧ i < h.length := by
  obtain ⟨h1, h2, ⟨rfl, rfl, rfl⟩ | ⟨b, cs, rfl, hb, h3, hr, hn⟩ | ⟨b, rfl, rfl, rfl, h3, h4⟩⟩ := ho
  · obtain ⟨_, _, _, e⟩ := hi; cases e
  · obtain ⟨_, _, _, e⟩ := hi; cases e; exact ⟨h3, get_lt hb⟩
  · obtain ⟨_, _, _, e⟩ := hi; cases e; exact ⟨h3, h4⟩

theorem Od.app (ho : Od lo h v xs F) {zs : List α} {ys : List V} {G : List Nat} (hz : 0 < zs.length) (hr : Reps h zs ys G) (hG : ∀ b ∈ G, ¬ vB v b) {bytes : Nat} (hb : bytes ≤ 2 ^ 8) (hl : xs.length + zs.length ≤ 2 ^ 30) {k n : Nat} (hk : k = Data.sz α) (hn : n = zs.length) :
    ∃ v' h', appH k bytes v n ys h = some (v', h') ∧ Od lo h' v' (xs ++ zs) (F ++ G) ∧ KeepsP (fun i => ¬ vB v i) h h' ∧ h.length < h'.length ∧ (∀ i, vB v' i → i = h.length) := by
  subst hk; subst hn
  have hk0 := Data.pos (α := α)
  have hbb : (xs.length + zs.length) * bytes ≤ 2 ^ 30 * 2 ^ 8 := Nat.mul_le_mul hl hb
  have hGl : ∀ b ∈ G, b < h.length := fun b hb => by obtain ⟨blk, h1, _⟩ := hr.lt hb; exact get_lt h1
  obtain ⟨h1, h2, ⟨rfl, rfl, rfl⟩ | ⟨b, cs, rfl, hb2, h3, hr0, hn0⟩ | ⟨b, rfl, rfl, rfl, h3, h4⟩⟩ := ho
  · have hk : KeepsP (fun i => ¬ vB .nils i) h (h ++ [⟨.own, ys⟩]) := fun i blk _ hi hl => Keeps.append h _ i blk hi hl
    refine ⟨.slice h.length 0 zs.length (.o (Data.sz α)), h ++ [⟨.own, ys⟩], ?_, ⟨by simp at hl ⊢; omega, by simp; omega, .inr (.inl ⟨h.length, ys, by simp, by simp, h2, ?_, ?_⟩)⟩, hk, by simp, fun i hi => ?_⟩
    · simp only [List.length_nil, Nat.zero_add] at hbb hl
      simp only [appH, Nat.ne_of_gt hz, if_false]
      rw [if_pos ⟨by unfold room; omega, by unfold room; omega⟩]
    · simpa using hr.keeps (hk.mono hG)
    · simp only [List.nil_append]; intro h9; exact absurd (hGl _ h9) (by omega)
    · obtain ⟨_, _, _, e⟩ := hi; cases e; rfl
  · have hlen := hr0.len
    have hF : ∀ i ∈ F, ¬ vB (.slice b 0 xs.length (.o (Data.sz α))) i := fun i hi ⟨_, _, _, e⟩ => by cases e; exact hn0 hi
    have hFl : ∀ i ∈ F, i < h.length := fun i hi => by obtain ⟨blk, h1, _⟩ := hr0.lt hi; exact get_lt h1
    have hk : KeepsP (fun i => ¬ vB (.slice b 0 xs.length (.o (Data.sz α))) i) h (h.set b ⟨.dead, cs⟩ ++ [⟨.own, cs ++ ys⟩]) := fun i blk hi hb3 hl => by
      have hne : i ≠ b := fun e => hi ⟨_, _, _, by rw [e]⟩
      rw [List.getElem?_append_left (by simp; exact get_lt hb3), List.getElem?_set_ne (Ne.symm hne)]
      exact hb3
    refine ⟨.slice h.length 0 (xs.length + zs.length) (.o (Data.sz α)), h.set b ⟨.dead, cs⟩ ++ [⟨.own, cs ++ ys⟩], ?_, ⟨by simp; omega, by simp; omega, .inr (.inl ⟨h.length, cs ++ ys, by simp, by simp, h2, (hr0.keeps (hk.mono hF)).append (hr.keeps (hk.mono hG)), ?_⟩)⟩, hk, by simp, fun i hi => ?_⟩
    · have hgt : ¬ (0 + (xs.length + zs.length) * Data.sz α ≤ cs.length) := by
        rw [hlen, Nat.add_mul]
        have : 0 < zs.length * Data.sz α := Nat.mul_pos hz hk0
        omega
      have hcut : cut cs 0 (xs.length * Data.sz α) = some cs := by
        simp only [cut, hlen, Nat.zero_add, Nat.le_refl, if_true, List.drop_zero]
        rw [← hlen, List.take_length]
      simp only [appH, Nat.ne_of_gt hz, if_false, hb2, hk0, and_self, if_true, hgt, hcut, Option.bind_some]
      rw [if_pos ⟨by unfold room; omega, by unfold room; omega⟩]
    · intro h9
      rcases List.mem_append.1 h9 with h9 | h9
      · exact absurd (hFl _ h9) (by omega)
      · exact absurd (hGl _ h9) (by omega)
    · obtain ⟨_, _, _, e⟩ := hi; cases e; rfl
  · have hk : KeepsP (fun i => ¬ vB (.slice b 0 0 (.k 0)) i) h (h ++ [⟨.own, ys⟩]) := fun i blk _ hi hl => Keeps.append h _ i blk hi hl
    refine ⟨.slice h.length 0 zs.length (.o (Data.sz α)), h ++ [⟨.own, ys⟩], ?_, ⟨by simp at hl ⊢; omega, by simp; omega, .inr (.inl ⟨h.length, ys, by simp, by simp, h2, ?_, ?_⟩)⟩, hk, by simp, fun i hi => ?_⟩
    · simp only [List.length_nil, Nat.zero_add] at hbb hl
      have hgt : ¬ (0 + zs.length ≤ 0) := by omega
      simp only [appH, Nat.ne_of_gt hz, if_false, hgt]
      rw [if_pos ⟨by unfold room; rw [Nat.zero_add]; omega, by unfold room; omega⟩]
      simp [rdS]
    · simpa using hr.keeps (hk.mono hG)
    · simp only [List.nil_append]; intro h9; exact absurd (hGl _ h9) (by omega)
    · obtain ⟨_, _, _, e⟩ := hi; cases e; rfl
end
end GL

namespace GL
open Go

end GL

/-! the draws' frame: a cursor at the first new block, and all older blocks as they were -/
namespace GL
open Go

structure DC (h0 h : Heap) (N : Nat) : Prop where
  cur : Cur h h0.length N
  keep : Keeps h0 h

theorem DC.start {h : Heap} {v : V} {bs : List Byte} (hs : Sl h v bs) : DC h (h ++ [⟨.own, [v, vi 0, .int .u64 0]⟩]) 0 := ⟨drawTwo hs, Keeps.append h _⟩
theorem DC.mono {h0 h : Heap} {N M : Nat} (d : DC h0 h N) (hn : N ≤ M) : DC h0 h M := ⟨d.cur.mono hn, d.keep⟩
theorem DC.lt {h0 h : Heap} {N : Nat} (d : DC h0 h N) : h0.length < h.length := d.cur.lt
theorem DC.keeps {h0 h h' : Heap} {N : Nat} (d : DC h0 h N) (hk : Keeps h h') : DC h0 h' N := ⟨d.cur.keeps hk, d.keep.trans hk⟩
/-- whatever is done to newer blocks -/
theorem DC.far {h0 h h' : Heap} {N : Nat} (d : DC h0 h N) {P : Nat → Prop} (hk : KeepsP P h h') (hp : ∀ i, i ≤ h0.length → P i) : DC h0 h' N :=
  ⟨d.cur.keepsP hk hp, Keeps.far (n := h0.length) d.keep hk (Nat.le_refl _) fun i hi => hp i (by omega)⟩
theorem DC.out {h0 h h' : Heap} {N : Nat} {α : Type} [Flat α] {v : V} {xs : List α} (d : DC h0 h N) (ho : Out (h0.length + 1) h v xs) (hk : KeepsP (fun i => ¬ vB v i) h h') : DC h0 h' N :=
  d.far hk fun i hi hv => by have := (ho.ge hv).1; omega
theorem DC.but {h0 h h' : Heap} {N M : Nat} (d : DC h0 h N) (hc : Cur h' h0.length M) (hk : KeepsBut h0.length h h') : DC h0 h' M :=
  ⟨hc, KeepsBut.keeps d.keep (Nat.le_refl _) hk⟩

end GL

namespace GL
open Go

theorem Out.cap {lo : Nat} {h : Heap} {v : V} {α : Type} [Flat α] {xs : List α} (ho : Out lo h v xs) : capOK (Flat.sz α) v := by
  obtain ⟨h1, _, ⟨rfl, rfl⟩ | ⟨b, rfl, hb, _⟩ | ⟨b, rfl, rfl, _⟩⟩ := ho
  · trivial
  · rfl
  · exact Nat.le_refl _

theorem KeepsBut.far {c : Nat} {g h h' : Heap} {P : Nat → Prop} (h1 : KeepsBut c g h) (hk : KeepsP P h h') (hp : ∀ i, i < g.length → i ≠ c → P i) : KeepsBut c g h' := fun i blk hc hi hl =>
  hk i blk (hp i (get_lt hi) hc) (h1 i blk hc hi hl) hl

end GL

/-! GL: lists of one's own, nested ones too, that are written in place. -/
namespace GL
open Go

def OwnB (h : Heap) (b : Nat) : Prop := ∃ cs, h[b]? = some ⟨.own, cs⟩

theorem OwnB.set {h : Heap} {b c : Nat} {cs : List V} (ho : OwnB h c) (hb : b < h.length) : OwnB (h.set b ⟨.own, cs⟩) c := by
  obtain ⟨ds, hd⟩ := ho
  by_cases e : c = b
  · subst e; exact ⟨cs, by simp [hb]⟩
  · exact ⟨ds, by rw [List.getElem?_set_ne (Ne.symm e)]; exact hd⟩
theorem OwnB.keeps {P : Nat → Prop} {h h' : Heap} {b : Nat} (ho : OwnB h b) (hk : KeepsP P h h') (hp : P b) : OwnB h' b := by
  obtain ⟨ds, hd⟩ := ho
  exact ⟨ds, hk b _ hp hd (by simp)⟩

theorem layLen {cs ys cs' : List V} {o : Nat} (h : lay cs o ys = some cs') : cs'.length = cs.length ∧ o + ys.length ≤ cs.length := by
  unfold lay at h
  split at h
  · cases h; refine ⟨?_, by assumption⟩; simp; omega
  · cases h
theorem layMid {a c b ys c' : List V} {o : Nat} (h : lay c o ys = some c') : lay (a ++ c ++ b) (a.length + o) ys = some (a ++ c' ++ b) := by
  unfold lay at h ⊢
  split at h
  · rename_i hl
    cases h
    rw [if_pos (by simp; omega)]
    simp only [Option.some.injEq]
    have e1 : (a ++ c ++ b).take (a.length + o) = a ++ c.take o := by
      rw [List.append_assoc, List.take_append, List.take_of_length_le (by omega), Nat.add_sub_cancel_left, List.take_append]
      rw [show o - c.length = 0 by omega]; simp
    have e2 : (a ++ c ++ b).drop (a.length + o + ys.length) = c.drop (o + ys.length) ++ b := by
      rw [List.append_assoc, Nat.add_assoc, List.drop_append, List.drop_of_length_le (by omega), Nat.add_sub_cancel_left, List.drop_append]
      rw [show o + ys.length - c.length = 0 by omega]; simp
    rw [e1, e2]; simp
  · cases h

section
variable {α : Type} [Data α] {h : Heap} {v : V} {xs : List α} {F : List Nat}
theorem SdF.put (hs : SdF h v xs F) (hn : F.Nodup) (ho : OwnB h (bOf v)) {i : Nat} (hi : i < xs.length) {x' : α} {o : Nat} {ys : List V}
    (hx : ∀ cs G, Data.rep h xs[i] cs G → (∀ c ∈ G, c ∈ F ∧ c ≠ bOf v) → ∃ cs', lay cs o ys = some cs' ∧ ∀ h', KeepsP (fun b => b ∈ G) h h' → Data.rep h' x' cs' G) :
    ∃ h', wrH h (bOf v) (oOf v + i * Data.sz α + o) ys = some h' ∧ SdF h' v (xs.set i x') F ∧ KeepsP (fun b => b ≠ bOf v) h h' ∧ h'.length = h.length ∧ ∀ b, OwnB h b → OwnB h' b := by
  have hlen0 := hs.1
  rcases hs with ⟨_, ⟨rfl, rfl, _⟩ | ⟨b, off, cap, rfl, hcap, hs⟩⟩
  · simp at hi
  · rcases hs with ⟨rfl, _⟩ | ⟨blk, cs, G, rfl, h1, h2, h3, h4⟩
    · simp at hi
    · obtain ⟨ds, hd⟩ := ho
      simp only [bOf, oOf] at hd ⊢
      rw [hd] at h1; cases h1
      have hbG : ∀ c ∈ G, c ≠ b := fun c hc e => by subst e; exact (List.nodup_cons.1 hn).1 hc
      obtain ⟨F1, F2, F3, rfl, r2, r1, r3⟩ := h4.get i hi
      obtain ⟨c', hl, hr⟩ := hx _ F2 r2 fun c hc => ⟨List.mem_cons_of_mem _ (by simp [hc]), by exact hbG c (by simp [hc])⟩
      have hcl := h4.len
      have hle : (i + 1) * Data.sz α ≤ xs.length * Data.sz α := Nat.mul_le_mul_right _ hi
      have hs1 : (i + 1) * Data.sz α = i * Data.sz α + Data.sz α := by rw [Nat.add_mul, Nat.one_mul]
      -- the cells that the slice holds, in three
      have hcs : cs = cs.take (i * Data.sz α) ++ (cs.drop (i * Data.sz α)).take (Data.sz α) ++ cs.drop ((i + 1) * Data.sz α) := by
        rw [hs1, ← List.drop_drop, List.append_assoc, List.take_append_drop, List.take_append_drop]
      unfold cut at h3
      split at h3
      case isFalse => cases h3
      rename_i hle2
      simp only at hle2
      simp only [Option.some.injEq] at h3
      have hds : ds = ds.take off ++ cs ++ ds.drop (off + xs.length * Data.sz α) := by
        rw [← h3, ← List.drop_drop, List.append_assoc, List.take_append_drop, List.take_append_drop]
      have hol : (ds.take off).length = off := by simp; omega
      have htl : (cs.take (i * Data.sz α)).length = i * Data.sz α := by simp; omega
      have hl2 := layMid (a := cs.take (i * Data.sz α)) (b := cs.drop ((i + 1) * Data.sz α)) hl
      rw [← hcs, htl] at hl2
      have hl3 := layMid (a := ds.take off) (b := ds.drop (off + xs.length * Data.sz α)) hl2
      rw [← hds, hol] at hl3
      have hb := get_lt hd
      have hk : KeepsP (fun c => c ≠ b) h (h.set b ⟨.own, ds.take off ++ (cs.take (i * Data.sz α) ++ c' ++ cs.drop ((i + 1) * Data.sz α)) ++ ds.drop (off + xs.length * Data.sz α)⟩) := fun c blk hc hb2 _ => by
        rw [List.getElem?_set_ne (Ne.symm hc)]; exact hb2
      refine ⟨_, by rw [wrH_at hd rfl, Nat.add_assoc, hl3]; rfl, ⟨by simpa using hlen0, .inr ⟨b, off, cap, by simp, by simpa using hcap, .inr ⟨⟨.own, ds.take off ++ (cs.take (i * Data.sz α) ++ c' ++ cs.drop ((i + 1) * Data.sz α)) ++ ds.drop (off + xs.length * Data.sz α)⟩, cs.take (i * Data.sz α) ++ c' ++ cs.drop ((i + 1) * Data.sz α), _, rfl, by simp [hb], by simp, ?_, ?_⟩⟩⟩, hk, by simp, fun c hc => hc.set hb⟩
      · have hll := (layLen hl2).1
        simp only [cut, List.length_set]
        rw [if_pos (by simp only [List.length_append] at hll ⊢; rw [hol, hll]; simp; omega)]
        rw [List.append_assoc, List.drop_append_of_le_length (by omega), List.drop_of_length_le (by omega), List.nil_append, List.take_append_of_le_length (by rw [hll]; omega), List.take_of_length_le (by rw [hll]; omega)]
      · have hset : xs.set i x' = xs.take i ++ [x'] ++ xs.drop (i + 1) := by
          rw [List.set_eq_take_append_cons_drop, if_pos hi]; simp
        rw [hset]
        refine ((r1.keeps (hk.mono fun c hc => ?_)).append (.one (hr _ (hk.mono fun c hc => ?_)))).append (r3.keeps (hk.mono fun c hc => ?_))
        · exact hbG c (by simp [hc])
        · exact hbG c (by simp [hc])
        · exact hbG c (by simp [hc])
end
/-- flat data -/
theorem SdF.putF {α : Type} [Flat α] {h : Heap} {v : V} {xs : List α} {F : List Nat} (hs : SdF h v xs F) (ho : OwnB h (bOf v)) {i : Nat} (hi : i < xs.length) {x' : α} {o : Nat} {ys : List V} (hx : lay (Flat.cells xs[i]) o ys = some (Flat.cells x')) :
    ∃ h', wrH h (bOf v) (oOf v + i * Flat.sz α + o) ys = some h' ∧ SdF h' v (xs.set i x') F ∧ KeepsP (fun b => b ≠ bOf v) h h' ∧ h'.length = h.length ∧ ∀ b, OwnB h b → OwnB h' b := by
  have hn : F.Nodup := by
    rcases hs with ⟨_, ⟨rfl, rfl, rfl⟩ | ⟨b, off, cap, rfl, _, ⟨_, rfl⟩ | ⟨blk, cs, G, rfl, _, _, _, hr⟩⟩⟩
    · exact List.nodup_nil
    · exact List.nodup_nil
    · rw [(Reps.flat.1 hr).2]; simp
  refine hs.put hn ho hi fun cs G hr _ => ?_
  obtain ⟨rfl, rfl⟩ := hr
  exact ⟨_, hx, fun _ _ => ⟨rfl, rfl⟩⟩
/-- where a flat list lies -/
theorem SdF.flatF {α : Type} [Flat α] {h : Heap} {v : V} {xs : List α} {F : List Nat} (hs : SdF h v xs F) : (∀ b ∈ F, b = bOf v) ∧ F.Nodup ∧ (xs ≠ [] → F = [bOf v]) := by
  rcases hs with ⟨_, ⟨rfl, rfl, rfl⟩ | ⟨b, off, cap, rfl, _, ⟨rfl, rfl⟩ | ⟨blk, cs, G, rfl, _, _, _, hr⟩⟩⟩
  · simp
  · simp
  · rw [(Reps.flat.1 hr).2]; simp [bOf]
end GL

/-! GL: what comes in: numbers, structs and slices of them, from the reading of the model. -/
namespace GL
open Go

def AgH (h : Heap) (b0 : Nat) (ss : List (Blk × Option At)) : Prop := ∀ i s, ss[i]? = some s → h[b0 + i]? = some s.1
def AgR (ρ : Rho) (b0 : Nat) (ss : List (Blk × Option At)) : Prop := ∀ i s, ss[i]? = some s → ρ (b0 + i) = s.2

theorem AgH.left {h : Heap} {b0 : Nat} {l r : List (Blk × Option At)} (ha : AgH h b0 (l ++ r)) : AgH h b0 l := fun i s hs =>
  ha i s (by rw [List.getElem?_append_left (by obtain ⟨hl, _⟩ := List.getElem?_eq_some_iff.1 hs; exact hl)]; exact hs)
theorem AgH.right {h : Heap} {b0 : Nat} {l r : List (Blk × Option At)} (ha : AgH h b0 (l ++ r)) : AgH h (b0 + l.length) r := fun i s hs => by
  rw [Nat.add_assoc]
  exact ha (l.length + i) s (by rw [List.getElem?_append_right (by omega), Nat.add_sub_cancel_left]; exact hs)
theorem AgR.left {h : Rho} {b0 : Nat} {l r : List (Blk × Option At)} (ha : AgR h b0 (l ++ r)) : AgR h b0 l := fun i s hs =>
  ha i s (by rw [List.getElem?_append_left (by obtain ⟨hl, _⟩ := List.getElem?_eq_some_iff.1 hs; exact hl)]; exact hs)
theorem AgR.right {h : Rho} {b0 : Nat} {l r : List (Blk × Option At)} (ha : AgR h b0 (l ++ r)) : AgR h (b0 + l.length) r := fun i s hs => by
  rw [Nat.add_assoc]
  exact ha (l.length + i) s (by rw [List.getElem?_append_right (by omega), Nat.add_sub_cancel_left]; exact hs)

/-- a block that is only read, as it lies in memory -/
def SideR (fid : Nat → FuncId) (ρ : Rho) (w : World) (s : Blk × Option At) : Prop :=
  s.1.st ≠ .own ∧ (s.1.st ≠ .dead → allCell s.1.cells = true ∧ ∃ a, s.2 = some a ∧ a.cb < w.heap.size ∧ ∀ (i : Nat) (v : V), s.1.cells[i]? = some v → ∃ x, w.cell? ⟨a.cb, a.co + i, none⟩ = some x ∧ RV fid ρ v x)

/-- cells that came in, as data, with the blocks that they lead to -/
def Opened {α : Type} [Data α] (w : World) (b0 : Nat) (vs : List V) (ss : List (Blk × Option At)) (x : α) (F : List Nat) (cs : List Value) : Prop :=
  (∀ h : Heap, AgH h b0 ss → Data.rep h x vs F) ∧ (∀ b ∈ F, b0 ≤ b ∧ b < b0 + ss.length) ∧
    ∀ (fid : Nat → FuncId) (ρ : Rho), AgR ρ b0 ss → RVs fid ρ vs cs ∧ ∀ s ∈ ss, SideR fid ρ w s

def OpenedL {α : Type} [Data α] (w : World) (b0 : Nat) (vs : List V) (ss : List (Blk × Option At)) (xs : List α) (F : List Nat) (cs : List Value) : Prop :=
  (∀ h : Heap, AgH h b0 ss → Reps h xs vs F) ∧ (∀ b ∈ F, b0 ≤ b ∧ b < b0 + ss.length) ∧
    ∀ (fid : Nat → FuncId) (ρ : Rho), AgR ρ b0 ss → RVs fid ρ vs cs ∧ ∀ s ∈ ss, SideR fid ρ w s

theorem RVs.app {fid : Nat → FuncId} {ρ : Rho} : ∀ {a b : List V} {c d : List Value}, RVs fid ρ a c → RVs fid ρ b d → RVs fid ρ (a ++ b) (c ++ d)
  | [], _, _, _, .nil, h => h
  | _ :: _, _, _, _, .cons h1 h2, h => .cons h1 (RVs.app h2 h)

/-- a type of the program's that is read as such data -/
class ArgT (P : Program) (t : TypeId) (α : Type) [Data α] : Prop where
  opens : ∀ {H : Type} {enc : TypeId × Value → H} {w : World} {fuel : Nat} {cs : List Value} {d : DataW H} {ps : List MemPlace},
    DataW.trod enc P w 0 (fun _ => true) true fuel t cs = some (d, ps) → ∀ b0, ∃ (vs : List V) (ss : List (Blk × Option At)) (x : α) (F : List Nat), Opened w b0 vs ss x F cs

theorem ArgT.int {P : Program} {t : TypeId} (h : P.underlying t = some (.int .i64)) : ArgT P t Int := ⟨fun {H enc w fuel cs d ps} ht b0 => by
  obtain ⟨n, rfl, _⟩ := DataW.trod_int h ht
  exact ⟨[vi n], [], n, [], fun _ _ => ⟨rfl, rfl⟩, by simp, fun fid ρ _ => ⟨.cons (.int _ _) .nil, by simp⟩⟩⟩
theorem ArgT.bool {P : Program} {t : TypeId} (h : P.underlying t = some .bool) : ArgT P t Bool := ⟨fun {H enc w fuel cs d ps} ht b0 => by
  obtain ⟨n, rfl, _⟩ := DataW.trod_bool h ht
  exact ⟨[.bool n], [], n, [], fun _ _ => ⟨rfl, rfl⟩, by simp, fun fid ρ _ => ⟨.cons (.bool _) .nil, by simp⟩⟩⟩

theorem mapM_get {α β : Type} {f : α → Option β} : ∀ {l : List α} {r : List β}, l.mapM f = some r → r.length = l.length ∧ ∀ i (hi : i < l.length) (hr : i < r.length), f l[i] = some r[i]
  | [], r, h => by simp at h; subst h; simp
  | x :: l, r, h => by
    rw [List.mapM_cons] at h
    simp only [bind, pure] at h
    obtain ⟨y, h1, h⟩ := Option.bind_eq_some_iff.1 h
    obtain ⟨ys, h2, h⟩ := Option.bind_eq_some_iff.1 h
    cases h
    obtain ⟨e, k⟩ := mapM_get h2
    refine ⟨by simp [e], fun i hi hr => ?_⟩
    cases i with
    | zero => exact h1
    | succ i => exact k i (by simpa using hi) (by simpa using hr)

theorem cell_spot {w : World} {a : Addr} {v : Value} (h : w.cell? a = some v) : a.spot = none ∧ a.block < w.heap.size := by
  simp only [World.cell?] at h
  split at h
  · rename_i cs T fr hob
    split at h
    · cases h
    · rename_i hsp
      exact ⟨by simpa using hsp, lt_heap hob⟩
  · cases h

/-- these values stand there in a row -/
def Row (w : World) (cb co : Nat) (cs : List Value) : Prop := ∀ i y, cs[i]? = some y → w.cell? ⟨cb, co + i, none⟩ = some y
theorem Row.app {w : World} {cb co : Nat} {a b : List Value} (h1 : Row w cb co a) (h2 : Row w cb (co + a.length) b) : Row w cb co (a ++ b) := fun i y hy => by
  rcases Nat.lt_or_ge i a.length with hi | hi
  · rw [List.getElem?_append_left hi] at hy; exact h1 i y hy
  · rw [List.getElem?_append_right hi] at hy
    have := h2 (i - a.length) y hy
    rwa [show co + a.length + (i - a.length) = co + i by omega] at this

theorem cells_row {w : World} {cb co n : Nat} {cs : List Value} (h : w.cells? 0 ⟨cb, co, none⟩ n = some cs) : cs.length = n ∧ Row w cb co cs := by
  simp only [World.cells?, Nat.zero_le, if_true] at h
  obtain ⟨e, k⟩ := mapM_get h
  simp at e
  refine ⟨e, fun i y hy => ?_⟩
  obtain ⟨hi, rfl⟩ := List.getElem?_eq_some_iff.1 hy
  have := k i (by simpa [e] using hi) hi
  rw [List.getElem_range, add_mk] at this
  exact this

section
variable {P : Program} {e : TypeId} {α : Type} [Data α] [A : ArgT P e α] {H : Type} {enc : TypeId × Value → H} {w : World} {fuel : Nat}

theorem opensL {k : Nat} (cb : Nat) : ∀ (css : List (List Value)) (co b0 : Nat), (∀ i (hi : i < css.length), w.cells? 0 ⟨cb, co + i * k, none⟩ k = some css[i] ∧ ∃ d ps, DataW.trod enc P w 0 (fun _ => true) true fuel e css[i] = some (d, ps)) →
    ∃ (vs : List V) (ss : List (Blk × Option At)) (xs : List α) (F : List Nat), xs.length = css.length ∧ OpenedL w b0 vs ss xs F css.flatten ∧ Row w cb co css.flatten
  | [], co, b0, _ => ⟨[], [], [], [], rfl, ⟨fun _ _ => .nil, by simp, fun _ _ _ => ⟨.nil, by simp⟩⟩, by intro i y h; simp at h⟩
  | c :: css, co, b0, hall => by
    obtain ⟨hc, d, ps, ht⟩ := hall 0 (by simp)
    simp only [Nat.zero_mul, Nat.add_zero, List.getElem_cons_zero] at hc ht
    obtain ⟨vs, ss, x, F, o1, o2, o3⟩ := A.opens ht b0
    obtain ⟨hl, hrow⟩ := cells_row hc
    obtain ⟨vs', ss', xs', F', hx, ⟨q1, q2, q3⟩, hrow'⟩ := opensL cb css (co + k) (b0 + ss.length) fun i hi => by
      have := hall (i + 1) (by simpa using hi)
      rw [show co + (i + 1) * k = co + k + i * k by rw [Nat.add_mul]; omega] at this
      simpa using this
    refine ⟨vs ++ vs', ss ++ ss', x :: xs', F ++ F', by simp [hx], ⟨fun h ha => ⟨vs, vs', F, F', rfl, rfl, o1 h ha.left, q1 h ha.right⟩, fun b hb => ?_, fun fid ρ ha => ?_⟩, ?_⟩
    · rcases List.mem_append.1 hb with hb | hb
      · have := o2 b hb; simp; omega
      · have := q2 b hb; simp; omega
    · obtain ⟨r1, r2⟩ := o3 fid ρ ha.left
      obtain ⟨r3, r4⟩ := q3 fid ρ ha.right
      refine ⟨by rw [List.flatten_cons]; exact r1.app r3, fun s hs => ?_⟩
      rcases List.mem_append.1 hs with hs | hs
      · exact r2 s hs
      · exact r4 s hs
    · rw [List.flatten_cons]
      exact hrow.app (by rw [hl]; exact hrow')

theorem ArgT.list {t : TypeId} (h : P.underlying t = some (.slice e)) (hsz : P.cellsOf e = Data.sz α) : ArgT P t (List α) := ⟨fun {H enc w fuel cs d ps} ht b0 => by
  rcases DataW.trod_slice h ht with ⟨rfl, _⟩ | ⟨a, len, cap, els, rest, f, rfl, rfl, _, _, hlc, hcm, le, ke, kr, _⟩
  · exact ⟨[.nils], [], [], [], fun _ _ => ⟨.nils, rfl, .nil⟩, by simp, fun fid ρ _ => ⟨.cons .nils .nil, by simp⟩⟩
  · have lr := (kr rfl).1
    replace kr := (kr rfl).2
    have hml : cap < 2 ^ 63 := by unfold maxLen at hcm; omega
    have hpos := Data.pos (α := α)
    by_cases h0 : cap = 0
    · subst h0
      have : len = 0 := by omega
      subst this
      refine ⟨[.slice b0 0 0 (.k 0)], [(deadBlk, some ⟨0, 0, 0⟩)], [], [], fun _ _ => ⟨_, rfl, by simp, .inr ⟨b0, 0, _, rfl, Nat.le_refl _, .inl ⟨rfl, rfl⟩⟩⟩, by simp, fun fid ρ hρ => ⟨.cons ?_ .nil, fun s hs => ?_⟩⟩
      · exact .slice (hρ 0 _ rfl) (Nat.le_refl _) (fun c0 h => by cases h; rfl) (fun k h => by cases h) (fun h => absurd rfl h)
      · simp at hs; subst hs
        exact ⟨by simp [deadBlk], fun h => absurd rfl h⟩
    · -- the cells of each element, the spare ones too
      have key : ∀ i, i < cap → ∃ c d ps, w.cells? 0 (a.add (i * P.cellsOf e)) (P.cellsOf e) = some c ∧ DataW.trod enc P w 0 (fun _ => true) true f e c = some (d, ps) := fun i hi => by
        rcases Nat.lt_or_ge i len with hi' | hi'
        · have := ke i hi'
          rw [List.getElem?_eq_getElem (by omega)] at this
          obtain ⟨c, h1, h2⟩ := Option.bind_eq_some_iff.1 this
          exact ⟨c, _, _, h1, h2⟩
        · have := kr (i - len) (by omega)
          rw [List.getElem?_eq_getElem (by omega)] at this
          obtain ⟨c, h1, h2⟩ := Option.bind_eq_some_iff.1 this
          rw [show len + (i - len) = i by omega] at h1
          exact ⟨c, _, _, h1, h2⟩
      obtain ⟨bk, off, spot⟩ := a
      have hspot : spot = none ∧ bk < w.heap.size := by
        obtain ⟨c, _, _, h1, _⟩ := key 0 (by omega)
        simp only [World.cells?, Nat.zero_le, if_true] at h1
        obtain ⟨l1, k1⟩ := mapM_get h1
        have := k1 0 (by simp; omega) (by simp at l1; omega)
        simp only [Nat.zero_mul, List.getElem_range, Addr.add, if_true] at this
        exact cell_spot this
      obtain ⟨rfl, hbk⟩ := hspot
      have hcss : ∃ css : List (List Value), css.length = cap ∧ ∀ i (hi : i < css.length), w.cells? 0 ⟨bk, off + i * Data.sz α, none⟩ (Data.sz α) = some css[i] ∧ ∃ d ps, DataW.trod enc P w 0 (fun _ => true) true f e css[i] = some (d, ps) := by
        rw [hsz] at key
        clear ht ke kr le lr h0 hlc hcm hml
        have : ∀ n, n ≤ cap → ∃ css : List (List Value), css.length = n ∧ ∀ i (hi : i < css.length), w.cells? 0 ⟨bk, off + i * Data.sz α, none⟩ (Data.sz α) = some css[i] ∧ ∃ d ps, DataW.trod enc P w 0 (fun _ => true) true f e css[i] = some (d, ps) := by
          intro n
          induction n with
          | zero => exact fun _ => ⟨[], rfl, fun i hi => by simp at hi⟩
          | succ n ih =>
            intro hn
            obtain ⟨css, hl, hc⟩ := ih (by omega)
            obtain ⟨c, d, ps, h1, h2⟩ := key n (by omega)
            rw [add_mk] at h1
            refine ⟨css ++ [c], by simp [hl], fun i hi => ?_⟩
            simp [hl] at hi
            by_cases hin : i < css.length
            · rw [List.getElem_append_left hin]; exact hc i hin
            · have : i = n := by omega
              subst this
              have e1 : (css ++ [c])[i]'(by simp [hl]) = c := by simp [hl]
              rw [e1]; exact ⟨h1, d, ps, h2⟩
        exact this cap (Nat.le_refl _)
      obtain ⟨css, hcl, hcs⟩ := hcss
      obtain ⟨vs, ss, xs, F, hx, ⟨o1, o2, o3⟩, hrow⟩ := opensL (P := P) (α := α) bk css off (b0 + 1) hcs
      have hxl : xs.length = cap := by omega
      have hsub : (xs.take len).length = len := by simp; omega
      have hF : ∀ h : Heap, AgH h (b0 + 1) ss → ∃ F1, (∀ b ∈ F1, b ∈ F) ∧ Reps h (xs.take len) (vs.take (len * Data.sz α)) F1 := fun h ha => by
        obtain ⟨F1, F2, f, h1, _⟩ := (o1 h ha).cut2 len (by omega)
        exact ⟨F1, fun b hb => by rw [f]; exact List.mem_append_left _ hb, h1⟩
      -- the blocks of the first ones are the same in any memory
      obtain ⟨F1, hF1, hR1⟩ : ∃ F1, (∀ b ∈ F1, b ∈ F) ∧ ∀ h : Heap, AgH h (b0 + 1) ss → Reps h (xs.take len) (vs.take (len * Data.sz α)) F1 := by
        let hh : Heap := List.replicate (b0 + 1) deadBlk ++ ss.map (·.1)
        have ha : AgH hh (b0 + 1) ss := fun i s hs => by
          show (List.replicate (b0 + 1) deadBlk ++ ss.map (·.1))[b0 + 1 + i]? = _
          rw [List.getElem?_append_right (by simp)]
          simp [hs]
        obtain ⟨F1, f1, r1⟩ := hF hh ha
        refine ⟨F1, f1, fun h ha' => r1.keeps fun b blk hb hbk hl => ?_⟩
        obtain ⟨g1, g2⟩ := o2 b (f1 b hb)
        obtain ⟨i, rfl⟩ : ∃ i, b = b0 + 1 + i := ⟨b - (b0 + 1), by omega⟩
        have hi : i < ss.length := by omega
        have e1 := ha i _ (List.getElem?_eq_getElem hi)
        have e2 := ha' i _ (List.getElem?_eq_getElem hi)
        rw [e1] at hbk; cases hbk; exact e2
      refine ⟨[.slice b0 0 len (.k cap)], (⟨.ro, vs⟩, some ⟨bk, off, cap * Data.sz α⟩) :: ss, xs.take len, b0 :: F1, fun h ha => ⟨_, rfl, by rw [hsub]; omega, .inr ⟨b0, 0, .k cap, by rw [hsub], by rw [hsub]; exact hlc, .inr ⟨⟨.ro, vs⟩, _, F1, rfl, ha 0 _ rfl, by simp, ?_, hR1 h ?_⟩⟩⟩, fun b hb => ?_, fun fid ρ ha => ?_⟩
      · rw [hsub]
        have hv : ∀ h : Heap, AgH h (b0 + 1) ss → vs.length = cap * Data.sz α := fun h ha => by rw [(o1 h ha).len, hxl]
        have hvl := hv h fun i s hs => by
          have := ha (i + 1) s (by simpa using hs)
          rwa [show b0 + (i + 1) = b0 + 1 + i by omega] at this
        have : len * Data.sz α ≤ cap * Data.sz α := Nat.mul_le_mul_right _ hlc
        simp only [cut, Nat.zero_add, List.drop_zero]
        rw [if_pos (by omega)]
      · intro i s hs
        have := ha (i + 1) s (by simpa using hs)
        rwa [show b0 + (i + 1) = b0 + 1 + i by omega] at this
      · rcases List.mem_cons.1 hb with rfl | hb
        · simp
        · have := o2 b (hF1 b hb); simp; omega
      · have ha' : AgR ρ (b0 + 1) ss := fun i s hs => by
          have := ha (i + 1) s (by simpa using hs)
          rwa [show b0 + (i + 1) = b0 + 1 + i by omega] at this
        obtain ⟨r1, r2⟩ := o3 fid ρ ha'
        refine ⟨.cons (.slice (ha 0 _ rfl) hlc (fun c0 h => by cases h; rfl) (fun k h => by cases h) fun _ => rfl) .nil, fun s hs => ?_⟩
        rcases List.mem_cons.1 hs with rfl | hs
        · refine ⟨by simp, fun _ => ⟨?_, ⟨bk, off, cap * Data.sz α⟩, rfl, hbk, fun i v hv => ?_⟩⟩
          · have hh : AgH (List.replicate (b0 + 1) deadBlk ++ ss.map (·.1)) (b0 + 1) ss := fun i s hs => by
              rw [List.getElem?_append_right (by simp)]
              simp [hs]
            exact (o1 _ hh).ok
          · obtain ⟨y, hy, hv'⟩ := r1.get hv
            exact ⟨y, hrow i y hy, hv'⟩
        · exact r2 s hs⟩
end
end GL

/-! GL: a law's call, from whatever comes in. -/
namespace GL
open Go

instance pairData {α β : Type} [Data α] [Data β] : Data (α × β) where
  sz := Data.sz α + Data.sz β
  pos := Nat.lt_of_lt_of_le (Data.pos (α := α)) (Nat.le_add_right _ _)
  rep := fun h x cs F => ∃ c d F1 F2, cs = c ++ d ∧ F = F1 ++ F2 ∧ Data.rep h x.1 c F1 ∧ Data.rep h x.2 d F2
  len := by rintro h a cs F ⟨c, d, F1, F2, rfl, rfl, h1, h2⟩; rw [List.length_append, Data.len h1, Data.len h2]
  ok := by
    rintro h a cs F ⟨c, d, F1, F2, rfl, rfl, h1, h2⟩
    have a := Data.ok h1
    have b := Data.ok h2
    simp only [allCell, List.all_append, Bool.and_eq_true] at a b ⊢
    exact ⟨a, b⟩
  keeps := by
    rintro h h' a cs F ⟨c, d, F1, F2, rfl, rfl, h1, h2⟩ hk
    exact ⟨c, d, F1, F2, rfl, rfl, Data.keeps h1 (hk.mono fun b hb => List.mem_append_left _ hb), Data.keeps h2 (hk.mono fun b hb => List.mem_append_right _ hb)⟩
  lt := by
    rintro h a cs F b ⟨c, d, F1, F2, rfl, rfl, h1, h2⟩ hb
    rcases List.mem_append.1 hb with hb | hb
    · exact Data.lt h1 hb
    · exact Data.lt h2 hb

theorem Opened.pair {α β : Type} [Data α] [Data β] {w : World} {b0 : Nat} {vs vs' : List V} {ss ss' : List (Blk × Option At)} {x : α} {y : β} {F F' : List Nat} {cs cs' : List Value}
    (o : Opened w b0 vs ss x F cs) (q : Opened w (b0 + ss.length) vs' ss' y F' cs') : Opened w b0 (vs ++ vs') (ss ++ ss') (x, y) (F ++ F') (cs ++ cs') := by
  obtain ⟨o1, o2, o3⟩ := o
  obtain ⟨q1, q2, q3⟩ := q
  refine ⟨fun h ha => ⟨vs, vs', F, F', rfl, rfl, o1 h ha.left, q1 h ha.right⟩, fun b hb => ?_, fun fid ρ ha => ?_⟩
  · rcases List.mem_append.1 hb with hb | hb
    · have := o2 b hb; simp; omega
    · have := q2 b hb; simp; omega
  · obtain ⟨r1, r2⟩ := o3 fid ρ ha.left
    obtain ⟨r3, r4⟩ := q3 fid ρ ha.right
    refine ⟨r1.app r3, fun s hs => ?_⟩
    rcases List.mem_append.1 hs with hs | hs
    · exact r2 s hs
    · exact r4 s hs
theorem Opened.map {α β : Type} [Data α] [Data β] {w : World} {b0 : Nat} {vs : List V} {ss : List (Blk × Option At)} {x : α} {F : List Nat} {cs : List Value} (f : α → β) (hf : ∀ h a cs F, Data.rep h a cs F → Data.rep h (f a) cs F)
    (o : Opened w b0 vs ss x F cs) : Opened w b0 vs ss (f x) F cs := ⟨fun h ha => hf _ _ _ _ (o.1 h ha), o.2⟩

/-- the fields from here on -/
def OpensF (P : Program) (fs : List Field) (off tot : Nat) (α : Type) [Data α] : Prop :=
  ∀ {H : Type} {enc : TypeId × Value → H} {w : World} {n : Nat} {cs : List Value}, cs.length = tot → (∀ f ∈ fs, ∃ y, DataW.trod enc P w 0 (fun _ => true) true n f.type ((cs.drop f.offset).take (P.cellsOf f.type)) = some y) →
    ∀ b0, ∃ (vs : List V) (ss : List (Blk × Option At)) (x : α) (F : List Nat), Opened w b0 vs ss x F (cs.drop off)

theorem OpensF.last {P : Program} {f : Field} {off tot : Nat} {α : Type} [Data α] (A : ArgT P f.type α) (h1 : f.offset = off) (h2 : off + P.cellsOf f.type = tot) : OpensF P [f] off tot α := fun {H enc w n cs} hl hf b0 => by
  obtain ⟨⟨d, ps⟩, hy⟩ := hf f (List.mem_cons_self ..)
  rw [h1, List.take_of_length_le (by simp; omega)] at hy
  exact A.opens hy b0
theorem OpensF.cons {P : Program} {f : Field} {fs : List Field} {off tot : Nat} {α β : Type} [Data α] [Data β] (A : ArgT P f.type α) (h1 : f.offset = off) (hr : OpensF P fs (off + P.cellsOf f.type) tot β) : OpensF P (f :: fs) off tot (α × β) := fun {H enc w n cs} hl hf b0 => by
  obtain ⟨⟨d, ps⟩, hy⟩ := hf f (List.mem_cons_self ..)
  rw [h1] at hy
  obtain ⟨vs, ss, x, F, o⟩ := A.opens hy b0
  obtain ⟨vs', ss', x', F', o'⟩ := hr hl (fun g hg => hf g (List.mem_cons_of_mem _ hg)) (b0 + ss.length)
  refine ⟨vs ++ vs', ss ++ ss', (x, x'), F ++ F', ?_⟩
  have := o.pair o'
  rwa [← List.drop_drop, List.take_append_drop] at this
theorem ArgT.struct {P : Program} {t : TypeId} {fs : Array Field} {tot : Nat} {α β : Type} [Data α] [Data β] (h : P.underlying t = some (.struct fs)) (ht : P.cellsOf t = tot) (ho : OpensF P fs.toList 0 tot α) (f : α → β) (hf : ∀ h a cs F, Data.rep h a cs F → Data.rep h (f a) cs F) : ArgT P t β :=
  ⟨fun {H enc w fuel cs d ps} hd b0 => by
    obtain ⟨xs, n, rfl, _, hl, hx, hall⟩ := DataW.trod_struct h hd
    obtain ⟨vs, ss, x, F, o⟩ := ho (hl.trans ht) (fun f hf => by
      obtain ⟨i, hi⟩ := List.getElem?_of_mem hf
      have hi' : fs[i]? = some f := by simpa using hi
      have hlt : i < xs.length := by rw [hx]; exact (Array.getElem?_eq_some_iff.1 hi').1
      exact ⟨xs[i], by rw [hall i f hi', List.getElem?_eq_getElem hlt]⟩) b0
    exact ⟨vs, ss, f x, F, o.map f hf⟩⟩

/-- one argument -/
def ArgIn {α : Type} [Data α] (w : World) (b0 : Nat) (x : V) (ss : List (Blk × Option At)) (a : α) (F : List Nat) (agg : Bool) (v : Value) : Prop :=
  (∀ h : Heap, AgH h b0 ss → ∃ vs, x = (if agg = true then .agg vs else vs.headD .nils) ∧ (agg = false → vs = [x]) ∧ Data.rep h a vs F) ∧ (∀ b ∈ F, b0 ≤ b ∧ b < b0 + ss.length) ∧
    ∀ (fid : Nat → FuncId) (ρ : Rho), AgR ρ b0 ss → RV fid ρ x v ∧ ∀ s ∈ ss, SideR fid ρ w s

theorem ArgT.argS {P : Program} {t : TypeId} {α : Type} [Data α] (A : ArgT P t α) {H : Type} {enc : TypeId × Value → H} {w : World} {arr : Array Value} {d : DataW H} {ps : List MemPlace} (h : DataW.Trod enc P w 0 (fun _ => true) true t (.agg arr) d ps) (b0 : Nat) :
    ∃ (x : V) (ss : List (Blk × Option At)) (a : α) (F : List Nat), ArgIn w b0 x ss a F true (.agg arr) := by
  obtain ⟨fuel, h⟩ := h
  obtain ⟨vs, ss, a, F, o1, o2, o3⟩ := A.opens h b0
  refine ⟨.agg vs, ss, a, F, fun h ha => ⟨vs, by simp, by simp, o1 h ha⟩, o2, fun fid ρ ha => ?_⟩
  obtain ⟨r1, r2⟩ := o3 fid ρ ha
  refine ⟨?_, r2⟩
  have : RV fid ρ (.agg vs) (.agg arr.toList.toArray) := .agg r1
  simpa using this
theorem ArgT.arg1 {P : Program} {t : TypeId} {α : Type} [Data α] (A : ArgT P t α) {H : Type} {enc : TypeId × Value → H} {w : World} {v : Value} (hv : v.cells = #[v]) {d : DataW H} {ps : List MemPlace} (h : DataW.Trod enc P w 0 (fun _ => true) true t v d ps) (b0 : Nat) :
    ∃ (x : V) (ss : List (Blk × Option At)) (a : α) (F : List Nat), ArgIn w b0 x ss a F false v := by
  obtain ⟨fuel, h⟩ := h
  rw [hv] at h
  obtain ⟨vs, ss, a, F, o1, o2, o3⟩ := A.opens h b0
  obtain ⟨x, rfl⟩ : ∃ x, vs = [x] := by
    let hh : Heap := List.replicate b0 deadBlk ++ ss.map (·.1)
    let ρ : Rho := fun b => if b < b0 then none else (ss[b - b0]?).bind (·.2)
    have ha : AgR ρ b0 ss := fun i s hs => by
      show (if b0 + i < b0 then none else _) = _
      rw [if_neg (by omega), Nat.add_sub_cancel_left, hs]; rfl
    have := (o3 (fun i => i) ρ ha).1.length
    match vs, this with
    | [x], _ => exact ⟨x, rfl⟩
  refine ⟨x, ss, a, F, fun h ha => ⟨[x], by simp, by simp, o1 h ha⟩, o2, fun fid ρ ha => ?_⟩
  obtain ⟨r1, r2⟩ := o3 fid ρ ha
  cases r1 with
  | cons r _ => exact ⟨r, r2⟩

/-- all arguments -/
inductive ArgsIn (w : World) : Nat → List V → List (Blk × Option At) → List Value → Prop
  | nil {b0 : Nat} : ArgsIn w b0 [] [] []
  | cons {α : Type} [Data α] {b0 : Nat} {x : V} {ss ss' : List (Blk × Option At)} {a : α} {F : List Nat} {agg : Bool} {v : Value} {xs : List V} {vs : List Value} :
      ArgIn w b0 x ss a F agg v → ArgsIn w (b0 + ss.length) xs ss' vs → ArgsIn w b0 (x :: xs) (ss ++ ss') (v :: vs)

theorem ArgsIn.out {w : World} {b0 : Nat} {xs : List V} {ss : List (Blk × Option At)} {vs : List Value} (h : ArgsIn w b0 xs ss vs) (fid : Nat → FuncId) (ρ : Rho) (ha : AgR ρ b0 ss) : RVs fid ρ xs vs ∧ ∀ s ∈ ss, SideR fid ρ w s := by
  induction h with
  | nil => exact ⟨.nil, by simp⟩
  | cons h1 _ ih =>
    obtain ⟨_, _, h3⟩ := h1
    obtain ⟨r1, r2⟩ := h3 fid ρ ha.left
    obtain ⟨r3, r4⟩ := ih ha.right
    refine ⟨.cons r1 r3, fun s hs => ?_⟩
    rcases List.mem_append.1 hs with hs | hs
    · exact r2 s hs
    · exact r4 s hs

theorem RM.sidesR {fid : Nat → FuncId} {w : World} {ss : List (Blk × Option At)} (hs : ∀ s ∈ ss, SideR fid (sideR ss) w s) : RM fid (sideR ss) (sideH ss) w := by
  have key : ∀ {b : Nat} {blk : Blk}, (sideH ss)[b]? = some blk → ∃ s, ss[b]? = some s ∧ s.1 = blk ∧ SideR fid (sideR ss) w s := fun h => by
    obtain ⟨s, h1, h2⟩ := sideH_get h
    exact ⟨s, h1, h2, hs s (List.mem_of_getElem? h1)⟩
  refine ⟨fun b hb => ?_, fun b blk hb hl => ?_, fun b blk a hb ha hl => ?_, fun b blk a i v hb ha hl hv => ?_, fun b blk hb hl => ?_, fun b blk a hb _ ho => ?_, fun b b' blk blk' a a' _ hb _ _ _ ho _ => ?_⟩
  · simp only [sideR]
    rw [List.getElem?_eq_none (by simpa [sideH] using hb)]; rfl
  · obtain ⟨s, h1, rfl, h2⟩ := key hb
    obtain ⟨_, a, ha, _⟩ := h2.2 hl
    exact ⟨a, by simp [sideR, h1, ha]⟩
  · obtain ⟨s, h1, rfl, h2⟩ := key hb
    obtain ⟨_, a', ha', h3, _⟩ := h2.2 hl
    have : a = a' := by simp [sideR, h1, ha'] at ha; exact ha.symm
    subst this; exact h3
  · obtain ⟨s, h1, rfl, h2⟩ := key hb
    obtain ⟨_, a', ha', _, h3⟩ := h2.2 hl
    have : a = a' := by simp [sideR, h1, ha'] at ha; exact ha.symm
    subst this
    exact h3 i v hv
  · obtain ⟨s, h1, rfl, h2⟩ := key hb
    exact (h2.2 hl).1
  · obtain ⟨s, h1, rfl, h2⟩ := key hb
    exact absurd ho h2.1
  · obtain ⟨s, h1, rfl, h2⟩ := key hb
    exact absurd ho h2.1

theorem sidesR_below {fid : Nat → FuncId} {w : World} {ss : List (Blk × Option At)} (hs : ∀ s ∈ ss, SideR fid (sideR ss) w s) {w' : World} (hf : Fr (Owned (sideR ss) (sideH ss)) w w') : RowKit.Below w.heap.size w w' :=
  ⟨hf.os, hf.tape, hf.output, hf.size, fun k hk => hf.block k hk fun ⟨b, blk, a, hb, ho, _, _⟩ => by
    obtain ⟨s, h1, rfl⟩ := sideH_get hb
    exact (hs s (List.mem_of_getElem? h1)).1 ho⟩

/-- a law's call -/
theorem callsA {P : Program} {fid : Nat → FuncId} {w : World} {eqs : List (TypeId × List (Option IntKind))} {p : Prog} (hp : ProgOK P fid eqs p) {f : Nat} {xs : List V} {ss : List (Blk × Option At)} {vs : List Value} (ha : ArgsIn w 0 xs ss vs)
    (hw : ∃ r h', call p f xs (sideH ss) = some (r, h') ∧ r = .bool true) : Calls P (fid f) vs.toArray w fun e w' => e = .returned (.bool true) ∧ RowKit.Below w.heap.size w w' := by
  obtain ⟨hr, hss⟩ := ha.out fid (sideR ss) fun i s hs => by simp [sideR, hs]
  obtain ⟨r, h', hc, rfl⟩ := hw
  obtain ⟨n, hn⟩ := call_iff.1 hc
  have := ((callN_ok hp n).sound f xs _ _ _ _ w _ hn (RM.sidesR hss) hr).2
  refine this.mono fun e w' ⟨y, he, ρ', _, _, hf, _, hv⟩ => ?_
  subst he
  cases hv
  exact ⟨rfl, sidesR_below hss hf⟩

/-- what an argument is, at the start -/
theorem ArgIn.at {α : Type} [Data α] {w : World} {x : V} {l m r : List (Blk × Option At)} {a : α} {F : List Nat} {agg : Bool} {v : Value} (h : ArgIn w l.length x m a F agg v) :
    ∃ vs, x = (if agg = true then .agg vs else vs.headD .nils) ∧ (agg = false → vs = [x]) ∧ Data.rep (sideH (l ++ m ++ r)) a vs F := h.1 _ fun i s hs => by
  show (List.map (·.1) (l ++ m ++ r))[l.length + i]? = _
  have hi := (List.getElem?_eq_some_iff.1 hs).1
  rw [List.getElem?_map, List.append_assoc, List.getElem?_append_right (by omega), Nat.add_sub_cancel_left, List.getElem?_append_left hi, hs]
  rfl
end GL

namespace GL
open Go

theorem mem_take_succ {α : Type} {l : List α} {i : Nat} (hi : i < l.length) {x : α} : x ∈ l.take (i + 1) ↔ x ∈ l.take i ∨ x = l[i] := by
  rw [List.take_succ_eq_append_getElem hi, List.mem_append, List.mem_singleton]
theorem all_take_succ {α : Type} {l : List α} {i : Nat} (hi : i < l.length) {P : α → Prop} : (∀ x ∈ l.take (i + 1), P x) ↔ (∀ x ∈ l.take i, P x) ∧ P l[i] := by
  constructor
  · exact fun h => ⟨fun x hx => h x ((mem_take_succ hi).2 (.inl hx)), h _ ((mem_take_succ hi).2 (.inr rfl))⟩
  · rintro ⟨h1, h2⟩ x hx
    rcases (mem_take_succ hi).1 hx with hx | rfl
    · exact h1 x hx
    · exact h2

/-- blocks of one's own, made just now -/
structure Fresh (lo : Nat) (h : Heap) (F : List Nat) : Prop where
  nodup : F.Nodup
  ge : ∀ b ∈ F, lo ≤ b
  own : ∀ b ∈ F, OwnB h b
theorem Fresh.nil {lo : Nat} {h : Heap} : Fresh lo h [] := ⟨List.nodup_nil, by simp, by simp⟩
theorem Fresh.keeps {lo : Nat} {h h' : Heap} {F : List Nat} (hf : Fresh lo h F) (hk : KeepsP (fun b => b ∈ F) h h') : Fresh lo h' F := ⟨hf.nodup, hf.ge, fun b hb => (hf.own b hb).keeps hk hb⟩
theorem Fresh.mono {lo lo' : Nat} {h : Heap} {F : List Nat} (hf : Fresh lo h F) (hl : lo' ≤ lo) : Fresh lo' h F := ⟨hf.nodup, fun b hb => Nat.le_trans hl (hf.ge b hb), hf.own⟩
theorem OwnB.lt {h : Heap} {b : Nat} (ho : OwnB h b) : b < h.length := by obtain ⟨_, h1⟩ := ho; exact get_lt h1
theorem Fresh.app {lo : Nat} {h h' : Heap} {F G : List Nat} (hf : Fresh lo h F) (hg : Fresh h.length h' G) (hk : Keeps h h') (hl : lo ≤ h.length) : Fresh lo h' (F ++ G) := by
  have hf' := hf.keeps (hk.p _)
  refine ⟨List.nodup_append.2 ⟨hf.nodup, hg.nodup, fun a ha b hb e => ?_⟩, fun b hb => ?_, fun b hb => ?_⟩
  · have := (hf.own a ha).lt
    have := hg.ge b hb
    omega
  · rcases List.mem_append.1 hb with hb | hb
    · exact hf.ge b hb
    · have := hg.ge b hb; omega
  · rcases List.mem_append.1 hb with hb | hb
    · exact hf'.own b hb
    · exact hg.own b hb

theorem szIntS_eq {h : Heap} {v : V} {xs : List Int} (hs : Sl h v xs) {left : Int} (hl : 0 ≤ left ∧ left ≤ 2 ^ 20) : call p 290 [v, vi left] h = some (vi (if left < xs.length then -1 else left - xs.length), h) := by
  have hb := hs.bd
  have w : IntKind.i64.wrap (left - xs.length) = left - xs.length := by rw [IntWalk.i64_in] <;> omega
  refine go_eq (fn := g290) rfl rfl fun R hR => ?_
  by_cases h1 : left < xs.length
  · have h2 : left - xs.length < 0 := by omega
    simp [g290, hs.len, w, h2]; simpa [h1] using hR
  · have h2 : ¬ left - xs.length < 0 := by omega
    simp [g290, hs.len, w, h2]; simpa [h1] using hR

theorem toIntS_ok {h : Heap} {v : V} {xs : List Int} (hs : Sl h v xs) (hl : xs.length ≤ 2 ^ 20) : ∃ r h', call p 293 [v] h = some (r, h') ∧ ∃ F, SdF h' r xs F ∧ Fresh h.length h' F ∧ Keeps h h' ∧ h.length ≤ h'.length := by
  refine go (fn := g293) rfl rfl fun R hR => ?_
  have c1 : 0 ≤ (xs.length : Int) := by omega
  have c2 : (xs.length : Int) * 8 ≤ (room : Int) := by unfold room; omega
  have c3 : xs.length ≤ room := by unfold room; omega
  simp [g293, hs.len, c2, c3]
  have hs0 : SdF (h ++ [⟨.own, List.replicate xs.length (vi 0)⟩]) (.slice h.length 0 xs.length (.k xs.length)) (List.replicate xs.length (0 : Int)) [h.length] := by
    refine ⟨by simp; omega, .inr ⟨h.length, 0, .k xs.length, by simp, by simp [capW], .inr ⟨⟨.own, List.replicate xs.length (vi 0)⟩, _, [], rfl, by simp, by simp, ?_, Reps.flat.2 ⟨rfl, rfl⟩⟩⟩⟩
    have : List.replicate xs.length (vi 0) = flats (List.replicate xs.length (0 : Int)) := by
      generalize xs.length = n
      induction n with
      | zero => rfl
      | succ n ih => simp [List.replicate_succ, flats, Flat.cells] at ih ⊢; exact ih
    simp only [this]
    have hfl : (flats (List.replicate xs.length (0 : Int))).length = xs.length * 1 := by rw [flats_len]; simp [Flat.sz]
    show cut _ 0 ((List.replicate xs.length (0 : Int)).length * 1) = _
    simp only [List.length_replicate, cut, List.drop_zero]
    rw [if_pos (by omega), List.take_of_length_le (by omega)]
  refine Wc_upM (M := [4, 8, 9, 10, 11, 12, 13, 14, 15, 16, 17, 18, 19, 20]) rfl xs.length (fun i s => i ≤ xs.length ∧ s.σ 4 = .v (vi i) ∧ SdF s.h (.slice h.length 0 xs.length (.k xs.length)) (xs.take i ++ List.replicate (xs.length - i) 0) [h.length] ∧ OwnB s.h h.length ∧ Keeps h s.h ∧ h.length ≤ s.h.length) 0
    ⟨by omega, by simp, by simpa using hs0, ⟨_, by simp; rfl⟩, Keeps.append h _, by simp⟩ fun i s ⟨gi, g4, hf, ho, hk, hlen⟩ hM J hJ => ?_
  by_cases hn : i < xs.length
  · have hs' := hs.keeps hk
    obtain ⟨h', e, hf', k', l', o'⟩ := hf.putF (i := i) ho (by simp; omega) (x' := xs[i]) (o := 0) (ys := [vi xs[i]]) (by simp [Flat.cells, lay])
    simp [bOf, oOf, Flat.sz] at e
    simp [g293_0, hM, g4, hs.len, hn, hs'.idx, hs'.loadI, hs.step hn, e]
    refine hJ _ hn ⟨hn, by simp, ?_, o' _ ho, Keeps.far (n := h.length) hk k' (Nat.le_refl _) fun i hi => by simp [bOf]; omega, by simp; omega⟩
    have : (xs.take i ++ List.replicate (xs.length - i) 0).set i xs[i] = xs.take (i + 1) ++ List.replicate (xs.length - (i + 1)) 0 := by
      rw [List.set_append_right _ _ (by simp; omega), List.take_succ_eq_append_getElem hn]
      have : xs.length - i = xs.length - (i + 1) + 1 := by omega
      rw [this, List.replicate_succ]
      have : i - (xs.take i).length = 0 := by simp; omega
      rw [this, List.set_cons_zero, List.append_assoc]; rfl
    rw [this] at hf'; exact hf'
  · have : i = xs.length := by omega
    subst this
    simp [g293_0, hM, g4, hs.len]
    refine hR _ _ ⟨[h.length], by simpa using hf, ⟨by simp, by simp, by simpa using ho⟩, hk, hlen⟩

theorem eqIntS_eq {h : Heap} {v w : V} {xs ys : List Int} (hs : Sl h v xs) (ht : Sl h w ys) : call p 296 [v, w] h = some (.bool (decide (xs = ys)), h) := by
  refine go_eq (fn := g296) rfl rfl fun R hR => ?_
  by_cases hl : xs.length = ys.length
  · simp [g296, hs.len, ht.len, hl]
    refine Wc_upM (M := [4, 5, 11, 12, 13, 14, 15, 16, 17, 18, 19, 20, 21, 22, 23, 24, 25]) rfl xs.length (fun i s => s.σ 5 = .v (vi i) ∧ s.h = h ∧ xs.take i = ys.take i) 0 (by simp) fun i s ⟨g5, gh, hall⟩ hM J hJ => ?_
    by_cases hn : i < xs.length
    · have hn' : i < ys.length := by omega
      by_cases he : xs[i] = ys[i]
      · have : xs.take (i + 1) = ys.take (i + 1) := by
          rw [List.take_succ_eq_append_getElem hn, List.take_succ_eq_append_getElem hn', hall, he]
        simp [g296_0, hM, g5, gh, hs.len, hn, hn', hs.idx, hs.loadI, ht.idx, ht.loadI, he, hs.step hn]
        exact hJ _ hn ⟨by simp, rfl, this⟩
      · have hne : ¬ xs = ys := fun e => he (by subst e; rfl)
        simp [g296_0, hM, g5, gh, hs.len, hn, hn', hs.idx, hs.loadI, ht.idx, ht.loadI, he]
        simpa [hne] using hR
    · have : xs = ys := by
        rw [List.take_of_length_le (by omega), List.take_of_length_le (by omega)] at hall; exact hall
      simp [g296_0, hM, g5, gh, hs.len, hn]
      simpa [this] using hR
  · have hne : ¬ xs = ys := fun e => hl (by rw [e])
    have hl' : ¬ (xs.length : Int) = ys.length := by omega
    simp only [hne, decide_false] at hR
    simp [g296, hs.len, ht.len]
    rw [if_neg hl']
    exact hR

def mkI (k : Int) (n : Nat) : List Int := (List.range n).map fun (i : Nat) => k + (i : Int)
theorem mkI_succ (k : Int) (n : Nat) : mkI k (n + 1) = mkI k n ++ [k + n] := by simp [mkI, List.range_succ]
theorem mkI_len (k : Int) (n : Nat) : (mkI k n).length = n := by simp [mkI]

theorem markIntS_ok {h : Heap} {v : V} {xs : List Int} {F : List Nat} (hs : SdF h v xs F) (ho : ∀ b ∈ F, OwnB h b) {k : Int} (hk : 0 ≤ k ∧ k ≤ 2 ^ 50) (hl : xs.length ≤ 2 ^ 50) :
    ∃ r h', call p 297 [v, vi k] h = some (r, h') ∧ r = vi (k + xs.length) ∧ SdF h' v (mkI k xs.length) F ∧ KeepsP (fun b => b ∉ F) h h' ∧ h'.length = h.length ∧ ∀ b, OwnB h b → OwnB h' b := by
  refine go (fn := g297) rfl rfl fun R hR => ?_
  simp [g297]
  obtain ⟨hF1, hF2, hF3⟩ := hs.flatF
  refine Wc_upM (M := [1, 5, 6, 7, 8, 9, 10, 11, 12, 13, 14, 15, 16, 17]) rfl xs.length (fun i s => i ≤ xs.length ∧ s.σ 5 = .v (vi i) ∧ s.σ 1 = .v (vi (k + i)) ∧ SdF s.h v (mkI k i ++ xs.drop i) F ∧ (∀ b, OwnB h b → OwnB s.h b) ∧ KeepsP (fun b => b ∉ F) h s.h ∧ s.h.length = h.length) 0
    ⟨by omega, by simp, by simp, by simpa [mkI] using hs, fun _ h => h, KeepsP.refl _ _, rfl⟩ fun i s ⟨gi, g5, g1, hf, hown, hkp, hlen⟩ hM J hJ => ?_
  have hll : (mkI k i ++ xs.drop i).length = xs.length := by simp [mkI_len]; omega
  by_cases hn : i < xs.length
  · have hne : xs ≠ [] := by intro e; subst e; simp at hn
    have hb : bOf v ∈ F := by rw [hF3 hne]; simp
    obtain ⟨h', e, hf', k', l', o'⟩ := hf.putF (i := i) (hown _ (ho _ hb)) (by rw [hll]; exact hn) (x' := k + i) (o := 0) (ys := [vi (k + i)]) (by simp [Flat.cells, lay])
    simp [Flat.sz] at e
    have i1 := hf.idx 1 .i64 i (by rw [hll]; exact hn)
    simp at i1
    have w : IntKind.i64.wrap (k + i + 1) = k + (i + 1 : Nat) := by rw [IntWalk.i64_in] <;> omega
    simp [g297_0, hM, g5, g1, hs.len, hn, i1, hs.step hn, e, w, -Int.natCast_add]
    refine hJ _ hn ⟨hn, by simp, by simp, ?_, fun b hb => o' b (hown b hb), hkp.trans (k'.mono fun b hb e => hb (by rw [e, hF3 hne]; simp)), by simp; omega⟩
    have : (mkI k i ++ xs.drop i).set i (k + i) = mkI k (i + 1) ++ xs.drop (i + 1) := by
      rw [List.set_append_right _ _ (by simp [mkI_len]), mkI_len, Nat.sub_self, List.drop_eq_getElem_cons hn, mkI_succ, List.set_cons_zero]; simp
    rw [this] at hf'; exact hf'
  · have : i = xs.length := by omega
    subst this
    simp [g297_0, hM, g5, g1, hs.len]
    refine hR _ _ ⟨rfl, by simpa using hf, hkp, hlen, hown⟩

theorem heldIntS_eq {h : Heap} {v : V} {k : Int} {n : Nat} (hs : Sl h v (mkI k n)) (hk : 0 ≤ k ∧ k ≤ 2 ^ 50) (hl : n ≤ 2 ^ 50) : call p 298 [v, vi k] h = some (vi (k + n), h) := by
  refine go_eq (fn := g298) rfl rfl fun R hR => ?_
  have hlen := hs.len
  rw [mkI_len] at hlen
  simp [g298]
  refine Wc_upM (M := [1, 4, 5, 6, 7, 8, 9, 10, 11, 12, 13, 14, 15, 16, 17, 18, 19]) rfl n (fun i s => i ≤ n ∧ s.σ 5 = .v (vi i) ∧ s.σ 1 = .v (vi (k + i)) ∧ s.h = h) 0
    ⟨by omega, by simp, by simp, rfl⟩ fun i s ⟨gi, g5, g1, gh⟩ hM J hJ => ?_
  by_cases hn : i < n
  · have hi : i < (mkI k n).length := by rw [mkI_len]; exact hn
    have e1 : (mkI k n)[i] = k + i := by simp [mkI]
    have i1 := hs.idx 1 .i64 i hi
    have l1 := hs.loadI i hi
    rw [e1] at l1
    simp at i1
    have w : IntKind.i64.wrap (k + i + 1) = k + (i + 1 : Nat) := by rw [IntWalk.i64_in] <;> omega
    have w2 : IntKind.i64.wrap ((i : Int) + 1) = (i + 1 : Nat) := by rw [IntWalk.i64_in] <;> omega
    simp [g298_0, hM, g5, g1, gh, hlen, hn, i1, l1, w, w2, -Int.natCast_add]
    exact hJ _ hn ⟨hn, by simp, by simp, rfl⟩
  · have : i = n := by omega
    subst this
    simp [g298_0, hM, g5, g1, gh, hlen]
    exact hR
end GL

namespace GL
open Go

structure Cm where
  parts : List Int
  heard : List Int
  word : Int

/-- a commit's value -/
def CmV (h : Heap) (v : V) (c : Cm) (F : List Nat) : Prop := ∃ x y F1 F2, v = .agg [x, y, vi c.word] ∧ F = F1 ++ F2 ∧ SdF h x c.parts F1 ∧ SdF h y c.heard F2

theorem indexI_eq {h : Heap} {v : V} {xs : List Int} (hs : Sl h v xs) (n : Int) : ∃ k : Int, call p 390 [v, vi n] h = some (vi k, h) ∧ (0 ≤ k ↔ n ∈ xs) := by
  have : ∃ r h', call p 390 [v, vi n] h = some (r, h') ∧ ∃ k : Int, r = vi k ∧ h' = h ∧ (0 ≤ k ↔ n ∈ xs) := by
    refine go (fn := g390) rfl rfl fun R hR => ?_
    simp [g390, hs.len]
    refine Wc_upM (M := [4, 5, 8, 9, 10, 11, 12, 13, 14, 15, 16, 17, 18]) rfl xs.length (fun i s => s.σ 8 = .v (vi i) ∧ s.h = h ∧ n ∉ xs.take i) 0 (by simp) fun i s ⟨g8, gh, hall⟩ hM J hJ => ?_
    by_cases hn : i < xs.length
    · by_cases he : n = xs[i]
      · simp [g390_0, hM, g8, gh, hn, hs.idx, hs.loadI, he]
        exact hR _ _ ⟨i, rfl, rfl, by simp [he]⟩
      · simp [g390_0, hM, g8, gh, hn, hs.idx, hs.loadI, he, hs.step hn]
        exact hJ _ hn ⟨by simp, rfl, by rw [mem_take_succ hn]; rintro (h | h); exact hall h; exact he h⟩
    · rw [List.take_of_length_le (by omega)] at hall
      simp [g390_0, hM, g8, gh, hn]
      exact hR _ _ ⟨-1, rfl, rfl, by simpa using hall⟩
  obtain ⟨_, _, e, k, rfl, rfl, hk⟩ := this
  exact ⟨k, e, hk⟩
theorem containsI_eq {h : Heap} {v : V} {xs : List Int} (hs : Sl h v xs) (n : Int) : call p 301 [v, vi n] h = some (.bool (decide (n ∈ xs)), h) := by
  obtain ⟨k, e, hk⟩ := indexI_eq hs n
  refine go_eq (fn := g301) rfl rfl fun R hR => ?_
  simp [g301, e, hk]
  exact hR
theorem l1Has_eq {h : Heap} {v : V} {xs : List Int} (hs : Sl h v xs) (n : Int) : call p 302 [v, vi n] h = some (.bool (decide (n ∈ xs)), h) := by
  refine go_eq (fn := g302) rfl rfl fun R hR => ?_
  simp [g302, hs.len]
  refine Wc_upM (M := [4, 6, 9, 10, 11, 12, 13, 14, 15, 16]) rfl xs.length (fun i s => s.σ 9 = .v (vi i) ∧ s.h = h ∧ n ∉ xs.take i) 0 (by simp) fun i s ⟨g9, gh, hall⟩ hM J hJ => ?_
  by_cases hn : i < xs.length
  · by_cases he : xs[i] = n
    · have : n ∈ xs := by rw [← he]; simp
      simp [g302_0, hM, g9, gh, hn, hs.idx, hs.loadI, he]
      simpa [this] using hR
    · simp [g302_0, hM, g9, gh, hn, hs.idx, hs.loadI, he, hs.step hn]
      exact hJ _ hn ⟨by simp, rfl, by rw [mem_take_succ hn]; rintro (h | h); exact hall h; exact he h.symm⟩
  · rw [List.take_of_length_le (by omega)] at hall
    simp [g302_0, hM, g9, gh, hn]
    simpa [hall] using hR

def okP (w no p h : Int) : Prop :=
  (0 ≤ p ∧ p ≤ 3) ∧ (0 ≤ h ∧ h ≤ 2) ∧ ¬ (h = 1 ∧ p = 0) ∧ ¬ (h = 2 ∧ p ≠ 3) ∧ ¬ (p = 2 ∧ w ≠ 1) ∧ ¬ (w = 1 ∧ h ≠ 1) ∧ ¬ (p = 3 ∧ w ≠ 2 ∧ ¬ (w = 0 ∧ no = 1))
instance (w no p h : Int) : Decidable (okP w no p h) := by unfold okP; infer_instance
def noC (c : Cm) : Int := if (2 : Int) ∈ c.heard then 1 else 0
def goodC (c : Cm) : Bool := decide ((1 ≤ c.parts.length ∧ c.parts.length ≤ 5) ∧ c.heard.length = c.parts.length ∧ (0 ≤ c.word ∧ c.word ≤ 2) ∧ ∀ x ∈ c.parts.zip c.heard, okP c.word (noC c) x.1 x.2)

set_option maxHeartbeats 4000000 in
theorem GoodCommit_eq {h : Heap} {v : V} {c : Cm} {F : List Nat} (hc : CmV h v c F) : call p 191 [v] h = some (.bool (goodC c), h) := by
  obtain ⟨x, y, F1, F2, rfl, _, hp, hh⟩ := hc
  obtain ⟨ps, hs, w⟩ := c
  simp only at hp hh ⊢
  have hp := hp.sl
  have hh := hh.sl
  refine go_eq (fn := g191) rfl rfl fun R hR => ?_
  have bad : goodC ⟨ps, hs, w⟩ = false → R (.bool false) h := fun e => by rw [← e]; exact hR
  by_cases h1 : 1 ≤ ps.length ∧ ps.length ≤ 5
  · have h1' : 1 ≤ (ps.length : Int) ∧ (ps.length : Int) ≤ 5 := by omega
    by_cases h2 : hs.length = ps.length
    · by_cases h3 : 0 ≤ w ∧ w ≤ 2
      · simp [g191, fillL, upd, hp.cells, hp.cell, hh.cells, hh.cell, hp.len, hh.len, h1', h2, h3, -Bool.decide_and]
        refine Wc_upM (M := [2, 3, 4, 5, 29, 30, 31, 32, 33, 34, 35, 36, 37, 38, 39, 40, 41, 42, 43, 44, 45, 46, 47, 48, 49, 50, 51, 52, 53, 54, 55, 56, 57, 58, 59, 60, 61, 62, 63, 64, 65, 66, 67, 68, 69, 70, 71, 72, 73, 74, 75, 76, 77, 78, 79, 80, 81, 82, 83, 84, 85, 86, 87, 88, 89, 90, 91, 92, 93, 94, 95, 96, 97, 98, 99]) rfl ps.length
          (fun i s => i ≤ ps.length ∧ s.σ 29 = .v (vi i) ∧ s.h = h ∧ s.L 1 = (1, [x, y, vi w]) ∧ ∀ z ∈ (ps.zip hs).take i, okP w (noC ⟨ps, hs, w⟩) z.1 z.2) 0 (by simp [upd]) fun i s ⟨gi, g29, gh, gL, hall⟩ hM J hJ => ?_
        by_cases hn : i < ps.length
        · have hn2 : i < hs.length := by omega
          have hz : (ps.zip hs)[i]'(by simp; omega) = (ps[i], hs[i]) := by simp
          have hbad : ∀ no, noC ⟨ps, hs, w⟩ = no → ¬ okP w no ps[i] hs[i] → R (.bool false) h := fun no hne hno => bad (by
            subst hne
            simp only [goodC, decide_eq_false_iff_not]
            intro hg
            have := hg.2.2.2 (ps[i], hs[i]) (by rw [← hz]; exact List.getElem_mem _)
            exact hno this)
          have hgood : ∀ no, noC ⟨ps, hs, w⟩ = no → okP w no ps[i] hs[i] → ∀ z ∈ (ps.zip hs).take (i + 1), okP w (noC ⟨ps, hs, w⟩) z.1 z.2 := fun no hne ho => (all_take_succ (by simp; omega)).2 ⟨hall, by rw [hz, hne]; exact ho⟩
          by_cases hp3 : 0 ≤ ps[i] ∧ ps[i] ≤ 3
          · by_cases hh2 : 0 ≤ hs[i] ∧ hs[i] ≤ 2
            · have hp4 : ps[i] = 0 ∨ ps[i] = 1 ∨ ps[i] = 2 ∨ ps[i] = 3 := by omega
              have hh3 : hs[i] = 0 ∨ hs[i] = 1 ∨ hs[i] = 2 := by omega
              have hw3 : w = 0 ∨ w = 1 ∨ w = 2 := by omega
              have hno : (2 : Int) ∈ hs ∧ noC ⟨ps, hs, w⟩ = 1 ∨ (2 : Int) ∉ hs ∧ noC ⟨ps, hs, w⟩ = 0 := by
                by_cases h : (2 : Int) ∈ hs <;> simp [noC, h]
              rcases hp4 with ep | ep | ep | ep <;> rcases hh3 with eh | eh | eh <;> rcases hw3 with rfl | rfl | rfl <;> rcases hno with ⟨hno, hne⟩ | ⟨hno, hne⟩ <;>
                simp [g191_0, hM, g29, gh, gL, hn, hn2, hp.idx, hp.loadI, hh.idx, hh.loadI, containsI_eq hh, hp.step hn, upd, ep, eh, hno] <;>
                first
                | exact hbad _ hne (by simp [okP, ep, eh])
                | exact hJ _ hn ⟨hn, by simp, rfl, by simp [upd, gL], hgood _ hne (by simp [okP, ep, eh])⟩
            · simp [g191_0, hM, g29, gh, gL, hn, hn2, hp.idx, hp.loadI, hh.idx, hh.loadI, upd, hp3, hh2, -Bool.decide_and]
              exact hbad _ rfl fun h => hh2 h.2.1
          · simp [g191_0, hM, g29, gh, gL, hn, hn2, hp.idx, hp.loadI, hh.idx, hh.loadI, upd, hp3, -Bool.decide_and]
            exact hbad _ rfl fun h => hp3 h.1
        · have : goodC ⟨ps, hs, w⟩ = true := by
            rw [List.take_of_length_le (by simp; omega)] at hall
            simp only [goodC, decide_eq_true_eq]
            exact ⟨h1, h2, h3, hall⟩
          rw [this] at hR
          simp [g191_0, hM, g29, gh, hn]
          exact hR
      · simp [g191, fillL, upd, hp.cells, hp.cell, hh.cells, hh.cell, hp.len, hh.len, h1', h2, h3, -Bool.decide_and]
        exact bad (by simp [goodC, h3])
    · have h2' : ¬ (hs.length : Int) = ps.length := by omega
      simp [g191, fillL, upd, hp.cells, hp.cell, hh.cells, hh.cell, hp.len, hh.len, h1', h2', -Bool.decide_and]
      exact bad (by simp [goodC, h2])
  · have h1' : ¬ (1 ≤ (ps.length : Int) ∧ (ps.length : Int) ≤ 5) := by omega
    simp [g191, fillL, upd, hp.cells, hp.cell, hh.cells, hh.cell, hp.len, hh.len, h1', -Bool.decide_and]
    exact bad (by simp [goodC, h1])
set_option maxHeartbeats 4000000 in
theorem GoodCommitS_eq {h : Heap} {v : V} {c : Cm} {F : List Nat} (hc : CmV h v c F) : call p 192 [v] h = some (.bool (goodC c), h) := by
  obtain ⟨x, y, F1, F2, rfl, _, hp, hh⟩ := hc
  obtain ⟨ps, hs, w⟩ := c
  simp only at hp hh ⊢
  have hp := hp.sl
  have hh := hh.sl
  refine go_eq (fn := g192) rfl rfl fun R hR => ?_
  have bad : goodC ⟨ps, hs, w⟩ = false → R (.bool false) h := fun e => by rw [← e]; exact hR
  by_cases h1 : 1 ≤ ps.length ∧ ps.length ≤ 5
  · have h1' : 1 ≤ (ps.length : Int) ∧ (ps.length : Int) ≤ 5 := by omega
    by_cases h2 : hs.length = ps.length
    · by_cases h3 : 0 ≤ w ∧ w ≤ 2
      · simp [g192, fillL, upd, hp.cells, hp.cell, hh.cells, hh.cell, hp.len, hh.len, h1', h2, h3, -Bool.decide_and]
        refine Wc_upM (M := [2, 3, 4, 5, 6, 30, 31, 32, 33, 34, 35, 36, 37, 38, 39, 40, 41, 42, 43, 44, 45, 46, 47, 48, 49, 50, 51, 52, 53, 54, 55, 56, 57, 58, 59, 60, 61, 62, 63, 64, 65, 66, 67, 68, 69, 70, 71, 72, 73, 74, 75, 76, 77, 78, 79, 80, 81, 82, 83, 84, 85, 86, 87, 88, 89, 90, 91, 92, 93, 94, 95, 96, 97, 98, 99, 100, 101]) rfl ps.length
          (fun i s => i ≤ ps.length ∧ s.σ 30 = .v (vi i) ∧ s.h = h ∧ s.L 1 = (1, [x, y, vi w]) ∧ ∀ z ∈ (ps.zip hs).take i, okP w (noC ⟨ps, hs, w⟩) z.1 z.2) 0 (by simp [upd]) fun i s ⟨gi, g30, gh, gL, hall⟩ hM J hJ => ?_
        by_cases hn : i < ps.length
        · have hn2 : i < hs.length := by omega
          have hz : (ps.zip hs)[i]'(by simp; omega) = (ps[i], hs[i]) := by simp
          have hbad : ∀ no, noC ⟨ps, hs, w⟩ = no → ¬ okP w no ps[i] hs[i] → R (.bool false) h := fun no hne hno => bad (by
            subst hne
            simp only [goodC, decide_eq_false_iff_not]
            intro hg
            have := hg.2.2.2 (ps[i], hs[i]) (by rw [← hz]; exact List.getElem_mem _)
            exact hno this)
          have hgood : ∀ no, noC ⟨ps, hs, w⟩ = no → okP w no ps[i] hs[i] → ∀ z ∈ (ps.zip hs).take (i + 1), okP w (noC ⟨ps, hs, w⟩) z.1 z.2 := fun no hne ho => (all_take_succ (by simp; omega)).2 ⟨hall, by rw [hz, hne]; exact ho⟩
          by_cases hp3 : 0 ≤ ps[i] ∧ ps[i] ≤ 3
          · by_cases hh2 : 0 ≤ hs[i] ∧ hs[i] ≤ 2
            · have hp4 : ps[i] = 0 ∨ ps[i] = 1 ∨ ps[i] = 2 ∨ ps[i] = 3 := by omega
              have hh3 : hs[i] = 0 ∨ hs[i] = 1 ∨ hs[i] = 2 := by omega
              have hw3 : w = 0 ∨ w = 1 ∨ w = 2 := by omega
              have hno : (2 : Int) ∈ hs ∧ noC ⟨ps, hs, w⟩ = 1 ∨ (2 : Int) ∉ hs ∧ noC ⟨ps, hs, w⟩ = 0 := by
                by_cases h : (2 : Int) ∈ hs <;> simp [noC, h]
              rcases hp4 with ep | ep | ep | ep <;> rcases hh3 with eh | eh | eh <;> rcases hw3 with rfl | rfl | rfl <;> rcases hno with ⟨hno, hne⟩ | ⟨hno, hne⟩ <;>
                simp [g192_0, hM, g30, gh, gL, hn, hn2, hp.idx, hp.loadI, hh.idx, hh.loadI, l1Has_eq hh, hp.step hn, upd, ep, eh, hno] <;>
                first
                | exact hbad _ hne (by simp [okP, ep, eh])
                | exact hJ _ hn ⟨hn, by simp, rfl, by simp [upd, gL], hgood _ hne (by simp [okP, ep, eh])⟩
            · simp [g192_0, hM, g30, gh, gL, hn, hn2, hp.idx, hp.loadI, hh.idx, hh.loadI, l1Has_eq hh, upd, hp3, hh2, -Bool.decide_and]
              exact hbad _ rfl fun h => hh2 h.2.1
          · simp [g192_0, hM, g30, gh, gL, hn, hn2, hp.idx, hp.loadI, hh.idx, hh.loadI, l1Has_eq hh, upd, hp3, -Bool.decide_and]
            exact hbad _ rfl fun h => hp3 h.1
        · have : goodC ⟨ps, hs, w⟩ = true := by
            rw [List.take_of_length_le (by simp; omega)] at hall
            simp only [goodC, decide_eq_true_eq]
            exact ⟨h1, h2, h3, hall⟩
          rw [this] at hR
          simp [g192_0, hM, g30, gh, hn]
          exact hR
      · simp [g192, fillL, upd, hp.cells, hp.cell, hh.cells, hh.cell, hp.len, hh.len, h1', h2, h3, -Bool.decide_and]
        exact bad (by simp [goodC, h3])
    · have h2' : ¬ (hs.length : Int) = ps.length := by omega
      simp [g192, fillL, upd, hp.cells, hp.cell, hh.cells, hh.cell, hp.len, hh.len, h1', h2', -Bool.decide_and]
      exact bad (by simp [goodC, h2])
  · have h1' : ¬ (1 ≤ (ps.length : Int) ∧ (ps.length : Int) ≤ 5) := by omega
    simp [g192, fillL, upd, hp.cells, hp.cell, hh.cells, hh.cell, hp.len, hh.len, h1', -Bool.decide_and]
    exact bad (by simp [goodC, h1])
end GL

namespace GL
open Go

/-- all of a list, laid anew -/
theorem appNew {α : Type} [Flat α] {h : Heap} {v : V} {xs : List α} (hs : Sl h v xs) (hl : xs.length ≤ 2 ^ 20) {k bytes : Nat} (hk : k = Flat.sz α) (hb : bytes ≤ 2 ^ 8) :
    rdS (h ++ [⟨.own, []⟩]) k v xs.length = some (flats xs) ∧ ∃ r h', appH k bytes (.slice h.length 0 0 (.k 0)) xs.length (flats xs) (h ++ [⟨.own, []⟩]) = some (r, h') ∧ ∃ F, SdF h' r xs F ∧ Fresh h.length h' F ∧ Keeps h h' ∧ h.length ≤ h'.length := by
  have hs' := hs.keeps (Keeps.append h [⟨.own, []⟩])
  have e1 := hs'.rdS xs.length (Nat.le_refl _)
  rw [List.take_length] at e1
  refine ⟨by rw [hk]; exact e1, ?_⟩
  by_cases h0 : xs.length = 0
  · have : xs = [] := List.length_eq_zero_iff.1 h0
    subst this
    exact ⟨.slice h.length 0 0 (.k 0), h ++ [⟨.own, []⟩], by simp [appH, lenV], [], ⟨by simp, .inr ⟨h.length, 0, .k 0, rfl, Nat.le_refl _, .inl ⟨rfl, rfl⟩⟩⟩, Fresh.nil, Keeps.append h _, by simp⟩
  · have ho : Out h.length (h ++ [⟨.own, []⟩]) (.slice h.length 0 0 (.k 0)) ([] : List α) := Out.empty (Nat.le_refl _) (by simp)
    obtain ⟨r, h', e, o', k', l', b'⟩ := ho.app xs (by omega) hb (by simp; omega) hk rfl rfl
    simp only [List.nil_append] at o'
    have hlen : h.length < h'.length := by simp at l'; omega
    obtain ⟨F, hF, hF2, hF3⟩ := o'.sl.sdF o'.cap
    refine ⟨r, h', e, F, hF, ⟨hF.flatF.2.1, fun b hb => ?_, fun b hb => ?_⟩, Keeps.far (n := h.length) (Keeps.append h _) k' (Nat.le_refl _) fun i hi ⟨_, _, _, e⟩ => by cases e; omega, by omega⟩
    · exact (o'.ge (hF2 b hb).2).1
    · obtain ⟨_, _, ⟨rfl, rfl⟩ | ⟨b1, rfl, hb1, _⟩ | ⟨b1, rfl, rfl, _⟩⟩ := o'
      · simp at h0
      · have := (hF2 b hb).1; simp [bOf] at this; subst this; exact ⟨_, hb1⟩
      · simp at h0

theorem cloneI_ok {h : Heap} {v : V} {xs : List Int} (hs : Sl h v xs) (hl : xs.length ≤ 2 ^ 20) : ∃ r h', call p 389 [v] h = some (r, h') ∧ ∃ F, SdF h' r xs F ∧ Fresh h.length h' F ∧ Keeps h h' ∧ h.length ≤ h'.length := by
  refine go (fn := g389) rfl rfl fun R hR => ?_
  obtain ⟨e1, r, h', e2, F, q1, q2, q3, q4⟩ := appNew hs hl (k := 1) (bytes := 8) rfl (by decide)
  have hlen := hs.len
  rcases hs with ⟨_, ⟨rfl, rfl⟩ | ⟨b, off, cap, rfl, _⟩⟩
  · simp [g389]
    exact hR _ _ ⟨[], SdF.nil, Fresh.nil, Keeps.refl _, Nat.le_refl _⟩
  · simp [g389, fillL, e1, e2]
    exact hR _ _ ⟨F, q1, q2, q3, q4⟩

theorem cloned_ok {h : Heap} {v : V} {c : Cm} {F : List Nat} (hc : CmV h v c F) (h1 : c.parts.length ≤ 2 ^ 20) (h2 : c.heard.length ≤ 2 ^ 20) :
    ∃ r h', call p 294 [v] h = some (r, h') ∧ ∃ G, CmV h' r c G ∧ Fresh h.length h' G ∧ Keeps h h' ∧ h.length ≤ h'.length := by
  obtain ⟨x, y, F1, F2, rfl, _, hp, hh⟩ := hc
  obtain ⟨a, ha, e1, G1, p1, p2, p3, p4⟩ := cloneI_ok hp.sl h1
  obtain ⟨b, hb, e2, G2, q1, q2, q3, q4⟩ := cloneI_ok (hh.keep p3).sl h2
  refine go (fn := g294) rfl rfl fun R hR => ?_
  simp [g294, fillL, upd, hp.cells, hp.cell, hh.cells, hh.cell, e1, e2, p1.cells, p1.cell, q1.cells, q1.cell, resV, mkV]
  exact hR _ _ ⟨G1 ++ G2, ⟨a, b, G1, G2, rfl, rfl, p1.keep q3, q1⟩, p2.app q2 q3 p4, p3.trans q3, by omega⟩
theorem begin_two (σ : Nat → T) (L : Nat → Nat × List V) (h : Heap) (wt : Nat → Option (ROp × List T × V)) (fl : Nat → Bool) (b : Nat) :
    S.begin ⟨σ, L, h, wt, fl, b⟩ 2 = ⟨σ, L, h ++ [deadBlk, deadBlk], fun _ => none, fun _ => false, h.length⟩ := by simp [S.begin]
theorem xop_m {c : CallF} {σ : Nat → T} {L : Nat → Nat × List V} {h : Heap} {wt : Nat → Option (ROp × List T × V)} {fl : Nat → Bool} {b ix d : Nat} {as : List Opd} {o : MOp} {slot : Nat} : xop c ⟨ix, some d, none, .m o slot, as⟩ ⟨σ, L, h, wt, fl, b⟩ = (mop o (as.map (S.ev ⟨σ, L, h, wt, fl, b⟩)) (h.take b)).bind fun r =>
    if fl slot = false ∧ isDead h (b + slot) = true then some ⟨upd σ d (.v (r.2 (b + slot))), L, h.set (b + slot) r.1, wt, upd fl slot true, b⟩ else none := rfl
theorem isDeadA (h l : Heap) (j : Nat) : isDead (h ++ l) (h.length + j) = isDead l j := by
  simp [isDead, List.getElem?_append_right]
theorem setA (h l : Heap) (j : Nat) (x : Blk) : (h ++ l).set (h.length + j) x = h ++ l.set j x := by
  simp [List.set_append_right]
theorem appH_first {H : Heap} {b k n bytes : Nat} {ys : List V} (hn : 0 < n) (hl : n ≤ 2 ^ 20) (hb : bytes ≤ 2 ^ 8) : appH k bytes (.slice b 0 0 (.k 0)) n ys H = some (.slice H.length 0 n (.o k), H ++ [⟨.own, ys⟩]) := by
  have hbb : n * bytes ≤ 2 ^ 20 * 2 ^ 8 := Nat.mul_le_mul hl hb
  have hgt : ¬ (0 + n ≤ 0) := by omega
  simp only [appH, Nat.ne_of_gt hn, if_false, hgt]
  rw [if_pos ⟨by unfold room; rw [Nat.zero_add]; omega, by unfold room; omega⟩]
  simp [rdS]
theorem sdF_new {α : Type} [Flat α] {h : Heap} {b : Nat} {xs : List α} {k : Nat} (hb : h[b]? = some ⟨.own, flats xs⟩) (hl : xs.length < 2 ^ 63) (hk : k = Flat.sz α) : SdF h (.slice b 0 xs.length (.o k)) xs [b] := by
  subst hk
  refine ⟨hl, .inr ⟨b, 0, _, rfl, rfl, .inr ⟨_, _, [], rfl, hb, by simp, ?_, Reps.flat.2 ⟨rfl, rfl⟩⟩⟩⟩
  show cut (flats xs) 0 (xs.length * Flat.sz α) = _
  simp only [cut, flats_len, Nat.zero_add, List.drop_zero]
  rw [if_pos (Nat.le_refl _), List.take_of_length_le (by rw [flats_len]; exact Nat.le_refl _)]

theorem l16Own_ok {h : Heap} {v : V} {c : Cm} {F : List Nat} (hc : CmV h v c F) (h1 : c.parts.length ≤ 2 ^ 20) (h2 : c.heard.length ≤ 2 ^ 20) (n1 : 0 < c.parts.length) (n2 : 0 < c.heard.length) :
    ∃ r h', call p 291 [v] h = some (r, h') ∧ ∃ G, CmV h' r c G ∧ Fresh h.length h' G ∧ Keeps h h' ∧ h.length ≤ h'.length := by
  obtain ⟨x, y, F1, F2, rfl, _, hp, hh⟩ := hc
  have k1 : Keeps h (h ++ [⟨.own, []⟩, deadBlk]) := Keeps.append h _
  have k2 : Keeps h (h ++ [⟨.own, []⟩, ⟨.own, []⟩, ⟨.own, flats c.parts⟩]) := Keeps.append h _
  have e1 := (hp.keep k1).sl.rdS _ (Nat.le_refl _)
  have e2 := (hh.keep k2).sl.rdS _ (Nat.le_refl _)
  rw [List.take_length] at e1 e2
  have e1' : rdS (h ++ [⟨.own, []⟩, deadBlk]) 1 x c.parts.length = some (flats c.parts) := e1
  have e2' : rdS (h ++ [⟨.own, []⟩, ⟨.own, []⟩, ⟨.own, flats c.parts⟩]) 1 y c.heard.length = some (flats c.heard) := e2
  refine go (fn := g291) rfl rfl fun R hR => ?_
  have iD : isDead [⟨.own, []⟩, deadBlk, ⟨.own, flats c.parts⟩] 1 = true := rfl
  have iD0 : isDead [deadBlk, deadBlk] 0 = true := rfl
  have a0 := isDeadA h [deadBlk, deadBlk] 0
  have s0 := setA h [deadBlk, deadBlk] 0 ⟨.own, []⟩
  have a1 := isDeadA h [⟨.own, []⟩, deadBlk, ⟨.own, flats c.parts⟩] 1
  have s1 := setA h [⟨.own, []⟩, deadBlk, ⟨.own, flats c.parts⟩] 1 ⟨.own, []⟩
  simp only [Nat.add_zero, List.set_cons_zero, List.set_cons_succ] at a0 s0 a1 s1
  simp [g291, fillL, upd, begin_two, xop_m, a0, s0, a1, s1, iD, iD0, hp.cells, hp.cell, hh.cells, hh.cell, hp.len, hh.len, e1', e2', appH_first n1 h1, appH_first n2 h2, resV, mkV]
  have f1 : SdF (h ++ [⟨.own, []⟩, ⟨.own, []⟩, ⟨.own, flats c.parts⟩, ⟨.own, flats c.heard⟩]) (.slice (h.length + 2) 0 c.parts.length (.o 1)) c.parts [h.length + 2] := sdF_new (by simp) (by omega) rfl
  have f2 : SdF (h ++ [⟨.own, []⟩, ⟨.own, []⟩, ⟨.own, flats c.parts⟩, ⟨.own, flats c.heard⟩]) (.slice (h.length + 3) 0 c.heard.length (.o 1)) c.heard [h.length + 3] := sdF_new (by simp) (by omega) rfl
  refine ⟨by simp only [allDead, List.all_cons, List.all_nil, isDeadA]; rfl, ?_⟩
  refine hR _ _ ⟨[h.length + 2] ++ [h.length + 3], ⟨_, _, _, _, rfl, rfl, f1, f2⟩, ⟨by simp, by simp, ?_⟩, Keeps.append h _, by simp⟩
  intro b hb
  simp at hb
  rcases hb with rfl | rfl
  · exact ⟨flats c.parts, by simp⟩
  · exact ⟨flats c.heard, by simp⟩

theorem isOver_eq (n : Int) (h : Heap) : call p 305 [vi n] h = some (.bool (decide (n = 2 ∨ n = 3)), h) := by
  refine go_eq (fn := g305) rfl rfl fun R hR => ?_
  by_cases h1 : n = 2 <;> by_cases h2 : n = 3 <;> simp [g305, h1, h2] <;> simpa [h1, h2] using hR
theorem l16Over_eq (n : Int) (h : Heap) : call p 306 [vi n] h = some (.bool (decide (n = 2 ∨ n = 3)), h) := by
  refine go_eq (fn := g306) rfl rfl fun R hR => ?_
  by_cases h1 : n = 2 <;> by_cases h2 : n = 3 <;> simp [g306, h1, h2] <;> simpa [h1, h2] using hR
theorem isOne_eq {h : Heap} {x y : V} {w : V} {ps : List Int} {F : List Nat} (hp : SdF h x ps F) (n : Int) (hy : y.cells = [y] ∧ y.cell = true) (hw : ∃ m, w = vi m) : call p 303 [.agg [x, y, w], vi n] h = some (.bool (decide (0 ≤ n ∧ n < ps.length)), h) := by
  obtain ⟨m, rfl⟩ := hw
  have hb := hp.bd
  have w : IntKind.i64.wrap ((ps.length : Int) - 1) = (ps.length : Int) - 1 := by rw [IntWalk.i64_in] <;> omega
  refine go_eq (fn := g303) rfl rfl fun R hR => ?_
  have e : (decide (0 ≤ n ∧ n ≤ (ps.length : Int) - 1)) = decide (0 ≤ n ∧ n < ps.length) := by congr 1; simp; omega
  simp [g303, fillL, upd, hp.len, hp.cells, hp.cell, hy, w, e, -Bool.decide_and]
  exact hR

/-- a function value that asks whether a number is one that is not 1 -/
theorem not1_eq (n : Int) (h : Heap) : call p 392 [vi n] h = some (.bool (decide (n ≠ 1)), h) := by
  refine go_eq (fn := g392) rfl rfl fun R hR => ?_
  simp [g392]; simpa using hR
theorem indexF_eq {h : Heap} {v : V} {xs : List Int} (hs : Sl h v xs) (f : Nat) (capt : List V) (q : Int → Bool) (hf : ∀ n h, call p f (vi n :: capt) h = some (.bool (q n), h)) : ∃ k : Int, call p 391 [v, .fn f capt] h = some (vi k, h) ∧ (0 ≤ k ↔ ∃ x ∈ xs, q x = true) := by
  have : ∃ r h', call p 391 [v, .fn f capt] h = some (r, h') ∧ ∃ k : Int, r = vi k ∧ h' = h ∧ (0 ≤ k ↔ ∃ x ∈ xs, q x = true) := by
    refine go (fn := g391) rfl rfl fun R hR => ?_
    simp [g391, hs.len]
    refine Wc_upM (M := [4, 5, 8, 9, 10, 11, 12, 13, 14, 15, 16, 17, 18]) rfl xs.length (fun i s => s.σ 8 = .v (vi i) ∧ s.h = h ∧ ∀ x ∈ xs.take i, q x = false) 0 (by simp) fun i s ⟨g8, gh, hall⟩ hM J hJ => ?_
    by_cases hn : i < xs.length
    · cases he : q xs[i] with
      | true =>
        simp [g391_0, hM, g8, gh, hn, hs.idx, hs.loadI, hf, he]
        exact hR _ _ ⟨i, rfl, rfl, by simp; exact ⟨xs[i], by simp, he⟩⟩
      | false =>
        simp [g391_0, hM, g8, gh, hn, hs.idx, hs.loadI, hf, he, hs.step hn]
        exact hJ _ hn ⟨by simp, rfl, (all_take_succ hn).2 ⟨hall, he⟩⟩
    · rw [List.take_of_length_le (by omega)] at hall
      simp [g391_0, hM, g8, gh, hn]
      exact hR _ _ ⟨-1, rfl, rfl, by simpa using hall⟩
  obtain ⟨_, _, e, k, rfl, rfl, hk⟩ := this
  exact ⟨k, e, hk⟩
theorem containsF_eq {h : Heap} {v : V} {xs : List Int} (hs : Sl h v xs) (f : Nat) (capt : List V) (q : Int → Bool) (hf : ∀ n h, call p f (vi n :: capt) h = some (.bool (q n), h)) : call p 304 [v, .fn f capt] h = some (.bool (xs.any q), h) := by
  obtain ⟨k, e, hk⟩ := indexF_eq hs f capt q hf
  refine go_eq (fn := g304) rfl rfl fun R hR => ?_
  have : decide (0 ≤ k) = xs.any q := by
    rw [Bool.eq_iff_iff]; simp [hk]
  simp [g304, e, this]
  exact hR
theorem l16Word_eq {h : Heap} {v : V} {xs : List Int} (hs : Sl h v xs) : call p 388 [v] h = some (vi (if xs.any (fun n => decide (n ≠ 1)) = true then 2 else 1), h) := by
  refine go_eq (fn := g388) rfl rfl fun R hR => ?_
  simp [g388, l1All_eq hs, -Bool.decide_and]
  by_cases hq : ∀ x ∈ xs, 1 ≤ x ∧ x ≤ 1
  · have : (xs.any fun n => decide (n ≠ 1)) = false := by simp; intro x hx; have := hq x hx; omega
    rw [this] at hR
    rw [if_pos hq]; simpa using hR
  · have : (xs.any fun n => decide (n ≠ 1)) = true := by
      simp
      apply Classical.byContradiction
      intro hno
      exact hq fun x hx => by
        have : x = 1 := Classical.byContradiction fun h => hno ⟨x, hx, h⟩
        omega
    rw [this] at hR
    rw [if_neg hq]; simpa using hR
end GL

namespace GL
open Go

structure Tk where
  kind : Int
  part : Int
  other : Int
abbrev tv (t : Tk) : V := .agg [vi t.kind, vi t.part, vi t.other]

/-- a commit in a block of its own -/
structure CmP (h : Heap) (c : Nat) (x y : V) (m : Cm) (F1 F2 : List Nat) : Prop where
  blk : h[c]? = some ⟨.own, [x, y, vi m.word]⟩
  parts : SdF h x m.parts F1
  heard : SdF h y m.heard F2
  out : c ∉ F1 ∧ c ∉ F2
  nodup : (F1 ++ F2).Nodup
  own : ∀ b ∈ F1 ++ F2, OwnB h b
/-- nothing else is touched -/
def CmS (h h' : Heap) (c : Nat) (F : List Nat) : Prop := KeepsP (fun b => b ≠ c ∧ b ∉ F) h h' ∧ h'.length = h.length
theorem CmS.refl (h : Heap) (c : Nat) (F : List Nat) : CmS h h c F := ⟨KeepsP.refl _ _, rfl⟩
theorem CmS.trans {h h1 h2 : Heap} {c : Nat} {F : List Nat} (a : CmS h h1 c F) (b : CmS h1 h2 c F) : CmS h h2 c F := ⟨a.1.trans b.1, by rw [b.2, a.2]⟩

section
variable {h : Heap} {c : Nat} {x y : V} {m : Cm} {F1 F2 : List Nat}
/-- its word is set -/
theorem CmP.setW (hc : CmP h c x y m F1 F2) (w : Int) : CmP (h.set c ⟨.own, [x, y, vi w]⟩) c x y ⟨m.parts, m.heard, w⟩ F1 F2 ∧ CmS h (h.set c ⟨.own, [x, y, vi w]⟩) c (F1 ++ F2) := by
  have hlt := get_lt hc.blk
  have hk : KeepsP (fun b => b ≠ c) h (h.set c ⟨.own, [x, y, vi w]⟩) := fun b blk hb h1 _ => by rw [List.getElem?_set_ne (Ne.symm hb)]; exact h1
  have ne : ∀ b ∈ F1 ++ F2, b ≠ c := fun b hb e => by
    subst e
    rcases List.mem_append.1 hb with hb | hb
    · exact hc.out.1 hb
    · exact hc.out.2 hb
  exact ⟨⟨by simp [hlt], hc.parts.keeps (hk.mono fun b hb => ne b (List.mem_append_left _ hb)), hc.heard.keeps (hk.mono fun b hb => ne b (List.mem_append_right _ hb)), hc.out, hc.nodup, fun b hb => (hc.own b hb).set hlt⟩, hk.mono fun b hb => hb.1, by simp⟩
/-- a part is set -/
theorem CmP.setP (hc : CmP h c x y m F1 F2) {k : Nat} (hk : k < m.parts.length) (n : Int) : ∃ h', wrH h (bOf x) (oOf x + k) [vi n] = some h' ∧ CmP h' c x y ⟨m.parts.set k n, m.heard, m.word⟩ F1 F2 ∧ CmS h h' c (F1 ++ F2) := by
  obtain ⟨f1, f2, f3⟩ := hc.parts.flatF
  have hne : m.parts ≠ [] := by intro e; rw [e] at hk; simp at hk
  have hF := f3 hne
  have hb : bOf x ∈ F1 := by rw [hF]; simp
  obtain ⟨h', e, s', k', l', o'⟩ := hc.parts.putF (hc.own _ (List.mem_append_left _ hb)) hk (x' := n) (o := 0) (ys := [vi n]) (by simp [Flat.cells, lay])
  simp [Flat.sz] at e
  have hnd := List.nodup_append.1 hc.nodup
  refine ⟨h', e, ⟨k' _ _ (fun e => hc.out.1 (by rw [e]; exact hb)) hc.blk (by simp), s', hc.heard.keeps (k'.mono fun b hb2 e => hnd.2.2 _ hb b hb2 e.symm), hc.out, hc.nodup, fun b hb => o' b (hc.own b hb)⟩, k'.mono fun b hb2 e => hb2.2 (by rw [e]; exact List.mem_append_left _ hb), l'⟩
/-- what is heard of a part is set -/
theorem CmP.setH (hc : CmP h c x y m F1 F2) {k : Nat} (hk : k < m.heard.length) (n : Int) : ∃ h', wrH h (bOf y) (oOf y + k) [vi n] = some h' ∧ CmP h' c x y ⟨m.parts, m.heard.set k n, m.word⟩ F1 F2 ∧ CmS h h' c (F1 ++ F2) := by
  obtain ⟨f1, f2, f3⟩ := hc.heard.flatF
  have hne : m.heard ≠ [] := by intro e; rw [e] at hk; simp at hk
  have hF := f3 hne
  have hb : bOf y ∈ F2 := by rw [hF]; simp
  obtain ⟨h', e, s', k', l', o'⟩ := hc.heard.putF (hc.own _ (List.mem_append_right _ hb)) hk (x' := n) (o := 0) (ys := [vi n]) (by simp [Flat.cells, lay])
  simp [Flat.sz] at e
  have hnd := List.nodup_append.1 hc.nodup
  refine ⟨h', e, ⟨k' _ _ (fun e => hc.out.2 (by rw [e]; exact hb)) hc.blk (by simp), hc.parts.keeps (k'.mono fun b hb2 e => hnd.2.2 b hb2 _ hb e), s', hc.out, hc.nodup, fun b hb => o' b (hc.own b hb)⟩, k'.mono fun b hb2 e => hb2.2 (by rw [e]; exact List.mem_append_right _ hb), l'⟩

theorem decide_ok (hc : CmP h c x y m F1 F2) : ∃ r h', call p 307 [.ptr c 0] h = some (r, h') ∧ r = .bool (decide (m.word = 0)) ∧
    CmP h' c x y ⟨m.parts, m.heard, if m.word = 0 then (if m.heard.any (fun n => decide (n ≠ 1)) = true then 2 else 1) else m.word⟩ F1 F2 ∧ CmS h h' c (F1 ++ F2) := by
  refine go (fn := g307) rfl rfl fun R hR => ?_
  by_cases hw : m.word = 0
  · obtain ⟨c1, s1⟩ := hc.setW 1
    obtain ⟨c2, s2⟩ := c1.setW 2
    have e1 := containsF_eq c1.heard.sl 392 [] (fun n => decide (n ≠ 1)) not1_eq
    have hlt := get_lt hc.blk
    cases hq : m.heard.any fun n => decide (n ≠ 1) with
    | true =>
      rw [hq] at e1
      simp [g307, rdH_at hc.blk, hw, wrH_at hc.blk, rdH_set hlt, wrH_set hlt, e1]
      refine hR _ _ ⟨by simp [hw], by rw [if_pos hw, if_pos hq]; simpa using c2, by simpa using s1.trans s2⟩
    | false =>
      rw [hq] at e1
      simp [g307, rdH_at hc.blk, hw, wrH_at hc.blk, rdH_set hlt, wrH_set hlt, e1]
      refine hR _ _ ⟨by simp [hw], by rw [if_pos hw, if_neg (by rw [hq]; simp)]; exact c1, s1⟩
  · simp [g307, rdH_at hc.blk, hw]
    exact hR _ _ ⟨by simp [hw], by simpa [hw] using hc, CmS.refl _ _ _⟩

theorem tell_ok (hc : CmP h c x y m F1 F2) {k : Nat} (hk : k < m.parts.length) : ∃ r h', call p 308 [.ptr c 0, vi k] h = some (r, h') ∧ r = .bool (decide (¬ ((m.parts[k] = 2 ∨ m.parts[k] = 3) ∨ m.word = 0))) ∧
    CmP h' c x y (if (m.parts[k] = 2 ∨ m.parts[k] = 3) ∨ m.word = 0 then m else ⟨m.parts.set k (if m.word = 2 then 3 else 2), m.heard, m.word⟩) F1 F2 ∧ CmS h h' c (F1 ++ F2) := by
  refine go (fn := g308) rfl rfl fun R hR => ?_
  by_cases h1 : m.parts[k] = 2 ∨ m.parts[k] = 3
  · simp [g308, rdH_at hc.blk, hc.parts.idx, hk, hc.parts.sl.loadI, isOver_eq, h1]
    exact hR _ _ ⟨by simp [h1], by simpa [h1] using hc, CmS.refl _ _ _⟩
  · by_cases hw : m.word = 0
    · simp [g308, rdH_at hc.blk, hc.parts.idx, hk, hc.parts.sl.loadI, isOver_eq, h1, hw]
      exact hR _ _ ⟨by simp [hw], by simpa [hw] using hc, CmS.refl _ _ _⟩
    · obtain ⟨h2, e2, c2, s2⟩ := hc.setP hk 2
      by_cases hw2 : m.word = 2
      · obtain ⟨h3, e3, c3, s3⟩ := c2.setP (k := k) (by simpa using hk) 3
        have hb2 := c2.blk
        simp only [hw2] at hb2
        simp [g308, rdH_at hc.blk, hc.parts.idx, hk, hc.parts.sl.loadI, isOver_eq, h1, hw2, e2, e3, rdH_at hb2]
        refine hR _ _ ⟨by simp [hw, h1], by simpa [hw2, h1] using c3, s2.trans s3⟩
      · simp [g308, rdH_at hc.blk, hc.parts.idx, hk, hc.parts.sl.loadI, isOver_eq, h1, hw, e2, rdH_at c2.blk, hw2]
        refine hR _ _ ⟨by simp [hw, h1], by simpa [hw, hw2, h1] using c2, s2⟩
end

def stepC (c : Cm) (t : Tk) : Option Cm :=
  if ¬ (0 ≤ t.part ∧ t.part < c.parts.length) ∨ (t.kind ≠ 5 ∧ t.other ≠ 0) then none else
  if t.kind = 1 then (if c.parts.getD t.part.toNat 0 = 0 ∧ c.word = 0 then some ⟨c.parts.set t.part.toNat 1, c.heard.set t.part.toNat 1, c.word⟩ else none)
  else if t.kind = 2 then (if c.parts.getD t.part.toNat 0 = 0 ∧ c.word ≠ 1 then some ⟨c.parts.set t.part.toNat 3, c.heard.set t.part.toNat 2, c.word⟩ else none)
  else if t.kind = 3 then (if t.part = 0 ∧ c.word = 0 then some ⟨c.parts, c.heard, if c.heard.any (fun n => decide (n ≠ 1)) = true then 2 else 1⟩ else none)
  else if t.kind = 4 then (if (c.parts.getD t.part.toNat 0 = 2 ∨ c.parts.getD t.part.toNat 0 = 3) ∨ c.word = 0 then none else some ⟨c.parts.set t.part.toNat (if c.word = 2 then 3 else 2), c.heard, c.word⟩)
  else if t.kind = 5 then (if (0 ≤ t.other ∧ t.other < c.parts.length) ∧ t.other ≠ t.part ∧ c.parts.getD t.part.toNat 0 = 1 ∧ (c.parts.getD t.other.toNat 0 = 2 ∨ c.parts.getD t.other.toNat 0 = 3) then some ⟨c.parts.set t.part.toNat (c.parts.getD t.other.toNat 0), c.heard, c.word⟩ else none)
  else none

theorem step_ok {h : Heap} {c : Nat} {x y : V} {m : Cm} {F1 F2 : List Nat} (hc : CmP h c x y m F1 F2) (hl : m.heard.length = m.parts.length) (t : Tk) :
    ∃ r h', call p 295 [.ptr c 0, tv t] h = some (r, h') ∧ r = .bool (stepC m t).isSome ∧ CmP h' c x y ((stepC m t).getD m) F1 F2 ∧ CmS h h' c (F1 ++ F2) := by
  refine go (fn := g295) rfl rfl fun R hR => ?_
  obtain ⟨tk, tp, to⟩ := t
  have noA : ∀ h', stepC m ⟨tk, tp, to⟩ = none → CmP h' c x y m F1 F2 → CmS h h' c (F1 ++ F2) → R (.bool false) h' := fun h' e h1 h2 => hR _ _ ⟨by rw [e]; rfl, by rw [e]; exact h1, h2⟩
  have no : stepC m ⟨tk, tp, to⟩ = none → R (.bool false) h := fun e => noA h e hc (CmS.refl _ _ _)
  have yes : ∀ m' h', stepC m ⟨tk, tp, to⟩ = some m' → CmP h' c x y m' F1 F2 → CmS h h' c (F1 ++ F2) → R (.bool true) h' := fun m' h' e h1 h2 => hR _ _ ⟨by rw [e]; rfl, by rw [e]; exact h1, h2⟩
  clear hR
  have one := fun (w n : Int) => isOne_eq (h := h) (w := vi w) hc.parts n ⟨hc.heard.cells, hc.heard.cell⟩ ⟨w, rfl⟩
  by_cases hp : 0 ≤ tp ∧ tp < m.parts.length
  · obtain ⟨k, rfl⟩ := Int.eq_ofNat_of_zero_le hp.1
    have hk : k < m.parts.length := by omega
    have hkh : k < m.heard.length := by omega
    have hgd : m.parts.getD k 0 = m.parts[k] := by simp [hk]
    by_cases ho : tk ≠ 5 ∧ to ≠ 0
    · simp [g295, fillL, upd, rdH_at hc.blk, one, hk, ho.1, ho.2]
      exact no (by simp [stepC, ho.1, ho.2])
    · have pre : ¬ (¬ (0 ≤ ((k : Nat) : Int) ∧ ((k : Nat) : Int) < m.parts.length) ∨ (tk ≠ 5 ∧ to ≠ 0)) := by
        rintro (h | h)
        · exact h hp
        · exact ho h
      simp only [stepC, pre, if_false, Int.toNat_natCast, hgd] at yes no noA
      by_cases k5 : tk = 5
      · subst k5
        simp only [show ¬ (5 : Int) = 1 by decide, show ¬ (5 : Int) = 2 by decide, show ¬ (5 : Int) = 3 by decide, show ¬ (5 : Int) = 4 by decide, if_false, if_true] at yes no noA
        by_cases q1 : 0 ≤ to ∧ to < m.parts.length
        · obtain ⟨j, rfl⟩ := Int.eq_ofNat_of_zero_le q1.1
          have hj : j < m.parts.length := by omega
          have hgj : m.parts.getD j 0 = m.parts[j] := by simp [hj]
          simp only [Int.toNat_natCast, hgj, q1, and_self, true_and] at yes no noA
          by_cases q2 : (j : Int) = k
          · simp [g295, fillL, upd, rdH_at hc.blk, one, hk, hj, hc.parts.idx, hc.parts.sl.loadI, q2]
            exact no (by simp [q2])
          · by_cases q3 : m.parts[k] = 1
            · by_cases q4 : m.parts[j] = 2 ∨ m.parts[j] = 3
              · obtain ⟨h2, e2, c2, s2⟩ := hc.setP hk m.parts[j]
                simp [g295, fillL, upd, rdH_at hc.blk, one, hk, hj, hc.parts.idx, hc.parts.sl.loadI, q2, q3, isOver_eq, q4, e2]
                exact yes _ _ (by simp [q2, q3, q4]) c2 s2
              · simp [g295, fillL, upd, rdH_at hc.blk, one, hk, hj, hc.parts.idx, hc.parts.sl.loadI, q2, q3, isOver_eq, q4]
                exact no (by simp [q4])
            · simp [g295, fillL, upd, rdH_at hc.blk, one, hk, hj, hc.parts.idx, hc.parts.sl.loadI, q2, q3]
              exact no (by simp [q3])
        · simp [g295, fillL, upd, rdH_at hc.blk, one, hk, hc.parts.idx, hc.parts.sl.loadI, q1, -Bool.decide_and]
          exact no (by simp [q1])
      · have to0 : to = 0 := Classical.byContradiction fun h => ho ⟨k5, h⟩
        subst to0
        simp only [k5, if_false] at yes no noA
        by_cases k1 : tk = 1
        · subst k1
          simp only [if_true] at yes no noA
          by_cases q1 : m.parts[k] = 0
          · by_cases q2 : m.word = 0
            · obtain ⟨h2, e2, c2, s2⟩ := hc.setP hk 1
              obtain ⟨h3, e3, c3, s3⟩ := c2.setH (k := k) hkh 1
              simp [g295, fillL, upd, rdH_at hc.blk, one, hk, hkh, hc.parts.idx, hc.heard.idx, hc.parts.sl.loadI, q1, q2, e2, e3]
              exact yes _ _ (by rw [if_pos ⟨q1, q2⟩]) c3 (s2.trans s3)
            · simp [g295, fillL, upd, rdH_at hc.blk, one, hk, hc.parts.idx, hc.parts.sl.loadI, q1, q2]
              exact no (by simp [q2])
          · simp [g295, fillL, upd, rdH_at hc.blk, one, hk, hc.parts.idx, hc.parts.sl.loadI, q1]
            exact no (by simp [q1])
        · simp only [k1, if_false] at yes no noA
          by_cases k2 : tk = 2
          · subst k2
            simp only [if_true] at yes no noA
            by_cases q1 : m.parts[k] = 0
            · by_cases q2 : m.word = 1
              · simp [g295, fillL, upd, rdH_at hc.blk, one, hk, hc.parts.idx, hc.parts.sl.loadI, q1, q2]
                exact no (by simp [q2])
              · obtain ⟨h2, e2, c2, s2⟩ := hc.setP hk 3
                obtain ⟨h3, e3, c3, s3⟩ := c2.setH (k := k) hkh 2
                simp [g295, fillL, upd, rdH_at hc.blk, one, hk, hkh, hc.parts.idx, hc.heard.idx, hc.parts.sl.loadI, q1, q2, e2, e3]
                exact yes _ _ (by rw [if_pos ⟨q1, q2⟩]) c3 (s2.trans s3)
            · simp [g295, fillL, upd, rdH_at hc.blk, one, hk, hc.parts.idx, hc.parts.sl.loadI, q1]
              exact no (by simp [q1])
          · simp only [k2, if_false] at yes no noA
            by_cases k3 : tk = 3
            · subst k3
              simp only [if_true] at yes no noA
              by_cases q1 : (k : Int) = 0
              · obtain ⟨_, h2, e2, rfl, c2, s2⟩ := decide_ok hc
                have k0 : k = 0 := by omega
                subst k0
                have i0 := hc.parts.idx 1 .i64 0 hk
                have l0 := hc.parts.sl.loadI 0 hk
                have one0 := fun w => one w 0
                simp [hk] at i0 l0 one0
                by_cases q2 : m.word = 0
                · rw [if_pos q2] at c2
                  simp [q2] at e2
                  simp [g295, fillL, upd, rdH_at hc.blk, one0, hk, i0, l0, e2]
                  exact yes _ _ (by rw [if_pos ⟨q1, q2⟩]) c2 s2
                · rw [if_neg q2] at c2
                  simp [q2] at e2
                  simp [g295, fillL, upd, rdH_at hc.blk, one0, hk, i0, l0, e2]
                  exact noA _ (by simp [q2]) c2 s2
              · have q1' : ¬ k = 0 := by omega
                simp [g295, fillL, upd, rdH_at hc.blk, one, hk, hc.parts.idx, hc.parts.sl.loadI, q1']
                exact no (by simp [q1'])
            · simp only [k3, if_false] at yes no noA
              by_cases k4 : tk = 4
              · subst k4
                simp only [if_true] at yes no noA
                obtain ⟨_, h2, e2, rfl, c2, s2⟩ := tell_ok hc hk
                by_cases q1 : (m.parts[k] = 2 ∨ m.parts[k] = 3) ∨ m.word = 0
                · rw [if_pos q1] at c2
                  simp only [q1, not_true_eq_false, decide_false] at e2
                  simp [g295, fillL, upd, rdH_at hc.blk, one, hk, hc.parts.idx, hc.parts.sl.loadI, e2]
                  exact noA _ (by rw [if_pos q1]) c2 s2
                · rw [if_neg q1] at c2
                  simp only [q1, not_false_eq_true, decide_true] at e2
                  simp [g295, fillL, upd, rdH_at hc.blk, one, hk, hc.parts.idx, hc.parts.sl.loadI, e2]
                  exact yes _ _ (by rw [if_neg q1]) c2 s2
              · simp [g295, fillL, upd, rdH_at hc.blk, one, hk, hc.parts.idx, hc.parts.sl.loadI, k1, k2, k3, k4, k5]
                exact no (by simp [k4])
  · simp [g295, fillL, upd, rdH_at hc.blk, one, hp, -Bool.decide_and]
    exact no (by simp only [stepC]; rw [if_pos (.inl hp)])
end GL

namespace GL
open Go

/-- a commit of one's own, by value -/
structure CmO (h : Heap) (x y : V) (ps hs : List Int) (F1 F2 : List Nat) : Prop where
  parts : SdF h x ps F1
  heard : SdF h y hs F2
  nodup : (F1 ++ F2).Nodup
  own : ∀ b ∈ F1 ++ F2, OwnB h b
def KS (h h' : Heap) (F : List Nat) : Prop := KeepsP (fun b => b ∉ F) h h' ∧ h'.length = h.length
theorem KS.refl (h : Heap) (F : List Nat) : KS h h F := ⟨KeepsP.refl _ _, rfl⟩
theorem KS.trans {h h1 h2 : Heap} {F : List Nat} (a : KS h h1 F) (b : KS h1 h2 F) : KS h h2 F := ⟨a.1.trans b.1, by rw [b.2, a.2]⟩

section
variable {h : Heap} {x y : V} {ps hs : List Int} {F1 F2 : List Nat}
theorem CmO.setP (hc : CmO h x y ps hs F1 F2) {k : Nat} (hk : k < ps.length) (n : Int) : ∃ h', wrH h (bOf x) (oOf x + k) [vi n] = some h' ∧ CmO h' x y (ps.set k n) hs F1 F2 ∧ KS h h' (F1 ++ F2) := by
  obtain ⟨f1, f2, f3⟩ := hc.parts.flatF
  have hne : ps ≠ [] := by intro e; rw [e] at hk; simp at hk
  have hF := f3 hne
  have hb : bOf x ∈ F1 := by rw [hF]; simp
  obtain ⟨h', e, s', k', l', o'⟩ := hc.parts.putF (hc.own _ (List.mem_append_left _ hb)) hk (x' := n) (o := 0) (ys := [vi n]) (by simp [Flat.cells, lay])
  simp [Flat.sz] at e
  have hnd := List.nodup_append.1 hc.nodup
  exact ⟨h', e, ⟨s', hc.heard.keeps (k'.mono fun b hb2 e => hnd.2.2 _ hb b hb2 e.symm), hc.nodup, fun b hb => o' b (hc.own b hb)⟩, k'.mono fun b hb2 e => hb2 (by rw [e]; exact List.mem_append_left _ hb), l'⟩
theorem CmO.setH (hc : CmO h x y ps hs F1 F2) {k : Nat} (hk : k < hs.length) (n : Int) : ∃ h', wrH h (bOf y) (oOf y + k) [vi n] = some h' ∧ CmO h' x y ps (hs.set k n) F1 F2 ∧ KS h h' (F1 ++ F2) := by
  obtain ⟨f1, f2, f3⟩ := hc.heard.flatF
  have hne : hs ≠ [] := by intro e; rw [e] at hk; simp at hk
  have hF := f3 hne
  have hb : bOf y ∈ F2 := by rw [hF]; simp
  obtain ⟨h', e, s', k', l', o'⟩ := hc.heard.putF (hc.own _ (List.mem_append_right _ hb)) hk (x' := n) (o := 0) (ys := [vi n]) (by simp [Flat.cells, lay])
  simp [Flat.sz] at e
  have hnd := List.nodup_append.1 hc.nodup
  exact ⟨h', e, ⟨hc.parts.keeps (k'.mono fun b hb2 e => hnd.2.2 b hb2 _ hb e), s', hc.nodup, fun b hb => o' b (hc.own b hb)⟩, k'.mono fun b hb2 e => hb2 (by rw [e]; exact List.mem_append_right _ hb), l'⟩
end

set_option maxHeartbeats 4000000 in
set_option maxRecDepth 20000 in
theorem l16Step_ok {h : Heap} {x y : V} {m : Cm} {F1 F2 : List Nat} (hc : CmO h x y m.parts m.heard F1 F2) (hl : m.heard.length = m.parts.length) (hw : 0 ≤ m.word ∧ m.word ≤ 2) (t : Tk) :
    ∃ r h', call p 292 [.agg [x, y, vi m.word], tv t] h = some (r, h') ∧ r = .tup [.agg [x, y, vi ((stepC m t).getD m).word], .bool (stepC m t).isSome] ∧ CmO h' x y ((stepC m t).getD m).parts ((stepC m t).getD m).heard F1 F2 ∧ KS h h' (F1 ++ F2) := by
  refine go (fn := g292) rfl rfl fun R hR => ?_
  obtain ⟨tk, tp, to⟩ := t
  have no : stepC m ⟨tk, tp, to⟩ = none → R (.tup [.agg [x, y, vi m.word], .bool false]) h := fun e => hR _ _ ⟨by rw [e]; rfl, by rw [e]; exact hc, KS.refl _ _⟩
  have yes : ∀ m' h', stepC m ⟨tk, tp, to⟩ = some m' → CmO h' x y m'.parts m'.heard F1 F2 → KS h h' (F1 ++ F2) → R (.tup [.agg [x, y, vi m'.word], .bool true]) h' := fun m' h' e h1 h2 => hR _ _ ⟨by rw [e]; rfl, by rw [e]; exact h1, h2⟩
  clear hR
  have c1 := hc.parts.cells
  have c2 := hc.parts.cell
  have c3 := hc.heard.cells
  have c4 := hc.heard.cell
  have ln := hc.parts.len
  have hb := hc.parts.bd
  have wl : IntKind.i64.wrap ((m.parts.length : Int) - 1) = (m.parts.length : Int) - 1 := by rw [IntWalk.i64_in] <;> omega
  by_cases hp : 0 ≤ tp ∧ tp < m.parts.length
  · obtain ⟨k, rfl⟩ := Int.eq_ofNat_of_zero_le hp.1
    have hk : k < m.parts.length := by omega
    have hkh : k < m.heard.length := by omega
    have hgd : m.parts.getD k 0 = m.parts[k] := by simp [hk]
    have hp' : 0 ≤ (k : Int) ∧ (k : Int) ≤ (m.parts.length : Int) - 1 := by omega
    have ix := hc.parts.idx 1 .i64 k hk
    have iy := hc.heard.idx 1 .i64 k hkh
    have lx := hc.parts.sl.loadI k hk
    simp only [Nat.mul_one] at ix iy
    by_cases ho : 0 ≤ to ∧ to ≤ (m.parts.length : Int) - 1
    · by_cases hko : tk ≠ 5 ∧ to ≠ 0
      · simp [g292, fillL, upd, resV, c1, c2, c3, c4, ln, wl, hp', ho, hko.1, hko.2, -Bool.decide_and]
        exact no (by simp only [stepC]; rw [if_pos (.inr hko)])
      · have pre : ¬ (¬ (0 ≤ ((k : Nat) : Int) ∧ ((k : Nat) : Int) < m.parts.length) ∨ (tk ≠ 5 ∧ to ≠ 0)) := by
          rintro (h | h)
          · exact h hp
          · exact hko h
        simp only [stepC, pre, if_false, Int.toNat_natCast, hgd] at yes no
        by_cases k5 : tk = 5
        · subst k5
          simp only [show ¬ (5 : Int) = 1 by decide, show ¬ (5 : Int) = 2 by decide, show ¬ (5 : Int) = 3 by decide, show ¬ (5 : Int) = 4 by decide, if_false, if_true] at yes no
          obtain ⟨j, rfl⟩ := Int.eq_ofNat_of_zero_le ho.1
          have hj : j < m.parts.length := by omega
          have hj' : 0 ≤ (j : Int) ∧ (j : Int) < m.parts.length := by omega
          have hgj : m.parts.getD j 0 = m.parts[j] := by simp [hj]
          have jx := hc.parts.idx 1 .i64 j hj
          have jl := hc.parts.sl.loadI j hj
          simp only [Nat.mul_one] at jx
          simp only [Int.toNat_natCast, hgj, hj', and_self, true_and] at yes no
          by_cases q2 : (j : Int) = k
          · simp [g292, fillL, upd, resV, c1, c2, c3, c4, ln, wl, hp', ho, ix, lx, q2, -Bool.decide_and]
            exact no (by simp [q2])
          · by_cases q3 : m.parts[k] = 1
            · by_cases q4 : m.parts[j] = 2 ∨ m.parts[j] = 3
              · obtain ⟨h2, e2, d2, s2⟩ := hc.setP hk m.parts[j]
                simp [g292, fillL, upd, resV, c1, c2, c3, c4, ln, wl, hp', ho, ix, lx, jx, jl, q2, q3, l16Over_eq, q4, e2, -Bool.decide_and]
                exact yes ⟨m.parts.set k m.parts[j], m.heard, m.word⟩ _ (by rw [if_pos ⟨q2, q3, q4⟩]) d2 s2
              · simp [g292, fillL, upd, resV, c1, c2, c3, c4, ln, wl, hp', ho, ix, lx, jx, jl, q2, q3, l16Over_eq, q4, -Bool.decide_and]
                exact no (by simp [q4])
            · simp [g292, fillL, upd, resV, c1, c2, c3, c4, ln, wl, hp', ho, ix, lx, q2, q3, -Bool.decide_and]
              exact no (by simp [q3])
        · have to0 : to = 0 := Classical.byContradiction fun h => hko ⟨k5, h⟩
          subst to0
          have h0' : 1 ≤ (m.parts.length : Int) := by omega
          simp only [k5, if_false] at yes no
          by_cases k1 : tk = 1
          · subst k1
            simp only [if_true] at yes no
            by_cases q1 : m.parts[k] = 0
            · by_cases q2 : m.word = 0
              · obtain ⟨h2, e2, d2, s2⟩ := hc.setP hk 1
                obtain ⟨h3, e3, d3, s3⟩ := d2.setH (k := k) hkh 1
                have yes' := yes ⟨m.parts.set k 1, m.heard.set k 1, m.word⟩ _ (by rw [if_pos ⟨q1, q2⟩]) d3 (s2.trans s3)
                simp only [q2] at yes'
                simp [g292, fillL, upd, resV, c1, c2, c3, c4, ln, wl, hp', h0', ix, lx, iy, q1, q2, e2, e3, -Bool.decide_and]
                exact yes'
              · simp [g292, fillL, upd, resV, c1, c2, c3, c4, ln, wl, hp', h0', ix, lx, q1, q2, -Bool.decide_and]
                exact no (by simp [q2])
            · simp [g292, fillL, upd, resV, c1, c2, c3, c4, ln, wl, hp', h0', ix, lx, q1, -Bool.decide_and]
              exact no (by simp [q1])
          · simp only [k1, if_false] at yes no
            by_cases k2 : tk = 2
            · subst k2
              simp only [if_true] at yes no
              by_cases q1 : m.parts[k] = 0
              · by_cases q2 : m.word = 1
                · have no' := no (by simp [q2])
                  simp only [q2] at no'
                  simp [g292, fillL, upd, resV, c1, c2, c3, c4, ln, wl, hp', h0', ix, lx, q1, q2, -Bool.decide_and]
                  exact no'
                · obtain ⟨h2, e2, d2, s2⟩ := hc.setP hk 3
                  obtain ⟨h3, e3, d3, s3⟩ := d2.setH (k := k) hkh 2
                  simp [g292, fillL, upd, resV, c1, c2, c3, c4, ln, wl, hp', h0', ix, lx, iy, q1, q2, e2, e3, -Bool.decide_and]
                  exact yes ⟨m.parts.set k 3, m.heard.set k 2, m.word⟩ _ (by rw [if_pos ⟨q1, q2⟩]) d3 (s2.trans s3)
              · simp [g292, fillL, upd, resV, c1, c2, c3, c4, ln, wl, hp', h0', ix, lx, q1, -Bool.decide_and]
                exact no (by simp [q1])
            · simp only [k2, if_false] at yes no
              by_cases k3 : tk = 3
              · subst k3
                simp only [if_true] at yes no
                by_cases q1 : (k : Int) = 0
                · by_cases q2 : m.word = 0
                  · have yes' := yes ⟨m.parts, m.heard, if m.heard.any (fun n => decide (n ≠ 1)) = true then 2 else 1⟩ h (by rw [if_pos ⟨q1, q2⟩]) hc (KS.refl _ _)
                    have ew := l16Word_eq hc.heard.sl
                    generalize (if (m.heard.any fun n => decide (n ≠ 1)) = true then (2 : Int) else 1) = w' at yes' ew
                    have k0 : k = 0 := by omega
                    subst k0
                    simp at ix lx
                    simp [g292, fillL, upd, resV, c1, c2, c3, c4, ln, wl, h0', ix, lx, q2, ew, -Bool.decide_and]
                    exact yes'
                  · have k0 : k = 0 := by omega
                    subst k0
                    simp at ix lx
                    simp [g292, fillL, upd, resV, c1, c2, c3, c4, ln, wl, h0', ix, lx, q2, -Bool.decide_and]
                    exact no (by simp [q2])
                · have q1' : ¬ k = 0 := by omega
                  simp [g292, fillL, upd, resV, c1, c2, c3, c4, ln, wl, hp', h0', ix, lx, q1', -Bool.decide_and]
                  exact no (by simp [q1'])
              · simp only [k3, if_false] at yes no
                by_cases k4 : tk = 4
                · subst k4
                  simp only [if_true] at yes no
                  by_cases q1 : m.parts[k] = 2 ∨ m.parts[k] = 3
                  · simp [g292, fillL, upd, resV, c1, c2, c3, c4, ln, wl, hp', h0', ix, lx, l16Over_eq, q1, -Bool.decide_and]
                    exact no (by simp [q1])
                  · have hw3 : m.word = 0 ∨ m.word = 1 ∨ m.word = 2 := by omega
                    rcases hw3 with q2 | q2 | q2
                    · have no' := no (by simp [q2])
                      simp only [q2] at no'
                      simp [g292, fillL, upd, resV, c1, c2, c3, c4, ln, wl, hp', h0', ix, lx, l16Over_eq, q1, q2, -Bool.decide_and]
                      exact no'
                    · obtain ⟨h2, e2, d2, s2⟩ := hc.setP hk 2
                      have yes' := yes ⟨m.parts.set k 2, m.heard, m.word⟩ _ (by rw [if_neg (by simp [q1, q2])]; simp [q2]) d2 s2
                      simp only [q2] at yes'
                      simp [g292, fillL, upd, resV, c1, c2, c3, c4, ln, wl, hp', h0', ix, lx, l16Over_eq, q1, q2, e2, -Bool.decide_and]
                      exact yes'
                    · obtain ⟨h2, e2, d2, s2⟩ := hc.setP hk 3
                      have yes' := yes ⟨m.parts.set k 3, m.heard, m.word⟩ _ (by rw [if_neg (by simp [q1, q2])]; simp [q2]) d2 s2
                      simp only [q2] at yes'
                      simp [g292, fillL, upd, resV, c1, c2, c3, c4, ln, wl, hp', h0', ix, lx, l16Over_eq, q1, q2, e2, -Bool.decide_and]
                      exact yes'
                · simp [g292, fillL, upd, resV, c1, c2, c3, c4, ln, wl, hp', h0', ix, lx, k1, k2, k3, k4, k5, -Bool.decide_and]
                  exact no (by simp [k4])
    · simp [g292, fillL, upd, resV, c1, c2, c3, c4, ln, wl, hp', ho, -Bool.decide_and]
      refine no ?_
      simp only [stepC]
      by_cases k5 : tk = 5
      · subst k5
        have : ¬ (0 ≤ to ∧ to < m.parts.length) := by omega
        simp [this]
      · have : to ≠ 0 := by omega
        simp [k5, this]
  · have hp' : ¬ (0 ≤ tp ∧ tp ≤ (m.parts.length : Int) - 1) := by omega
    simp [g292, fillL, upd, resV, c1, c2, c3, c4, ln, wl, hp', -Bool.decide_and]
    exact no (by simp only [stepC]; rw [if_pos (.inl hp)])
end GL

namespace GL
open Go

section
variable {h : Heap} {v w : V} {c d : Cm} {F G : List Nat}
theorem CmV.keeps {h' : Heap} (hc : CmV h v c F) (hk : KeepsP (fun b => b ∈ F) h h') : CmV h' v c F := by
  obtain ⟨x, y, F1, F2, rfl, rfl, hp, hh⟩ := hc
  exact ⟨x, y, F1, F2, rfl, rfl, hp.keeps (hk.mono fun b hb => List.mem_append_left _ hb), hh.keeps (hk.mono fun b hb => List.mem_append_right _ hb)⟩
theorem CmV.keep {h' : Heap} (hc : CmV h v c F) (hk : Keeps h h') : CmV h' v c F := hc.keeps (hk.p _)
theorem CmV.lt (hc : CmV h v c F) {b : Nat} (hb : b ∈ F) : b < h.length := by
  obtain ⟨x, y, F1, F2, rfl, rfl, hp, hh⟩ := hc
  rcases List.mem_append.1 hb with hb | hb
  · obtain ⟨blk, h1, _⟩ := hp.lt hb; exact get_lt h1
  · obtain ⟨blk, h1, _⟩ := hh.lt hb; exact get_lt h1

theorem szCommit_eq (hc : CmV h v c F) {left : Int} (hl : 0 ≤ left ∧ left ≤ 2 ^ 20) : ∃ r : Int, call p 180 [v, vi left] h = some (vi r, h) ∧ (r < 0 ∨ (c.parts.length + c.heard.length ≤ left)) := by
  obtain ⟨x, y, F1, F2, rfl, rfl, hp, hh⟩ := hc
  have e1 := szIntS_eq hp.sl hl
  by_cases h1 : left < c.parts.length
  · rw [if_pos h1] at e1
    refine ⟨-1, go_eq (fn := g180) rfl rfl fun R hR => ?_, .inl (by decide)⟩
    simp [g180, fillL, upd, hp.cells, hp.cell, hh.cells, hh.cell, e1]
    exact hR
  · rw [if_neg h1] at e1
    have e2 := szIntS_eq hh.sl (left := left - c.parts.length) (by omega)
    by_cases h2 : left - c.parts.length < c.heard.length
    · rw [if_pos h2] at e2
      refine ⟨-1, go_eq (fn := g180) rfl rfl fun R hR => ?_, .inl (by decide)⟩
      have n1 : ¬ left - (c.parts.length : Int) < 0 := by omega
      simp [g180, fillL, upd, hp.cells, hp.cell, hh.cells, hh.cell, e1, e2, n1]
      exact hR
    · rw [if_neg h2] at e2
      refine ⟨left - c.parts.length - c.heard.length, go_eq (fn := g180) rfl rfl fun R hR => ?_, .inr (by omega)⟩
      have n1 : ¬ left - (c.parts.length : Int) < 0 := by omega
      have n2 : ¬ left - (c.parts.length : Int) - c.heard.length < 0 := by omega
      simp [g180, fillL, upd, hp.cells, hp.cell, hh.cells, hh.cell, e1, e2, n1, n2]
      exact hR

theorem toCommit_ok (hc : CmV h v c F) (h1 : c.parts.length ≤ 2 ^ 20) (h2 : c.heard.length ≤ 2 ^ 20) : ∃ r h', call p 181 [v] h = some (r, h') ∧ ∃ G, CmV h' r c G ∧ Fresh h.length h' G ∧ Keeps h h' ∧ h.length ≤ h'.length := by
  obtain ⟨x, y, F1, F2, rfl, _, hp, hh⟩ := hc
  obtain ⟨a, ha, e1, G1, p1, p2, p3, p4⟩ := toIntS_ok hp.sl h1
  obtain ⟨b, hb, e2, G2, q1, q2, q3, q4⟩ := toIntS_ok (hh.keep p3).sl h2
  refine go (fn := g181) rfl rfl fun R hR => ?_
  simp [g181, fillL, upd, hp.cells, hp.cell, hh.cells, hh.cell, e1, e2, p1.cells, p1.cell, q1.cells, q1.cell, resV, mkV]
  exact hR _ _ ⟨G1 ++ G2, ⟨a, b, G1, G2, rfl, rfl, p1.keep q3, q1⟩, p2.app q2 q3 p4, p3.trans q3, by omega⟩

theorem eqCommit_eq (hc : CmV h v c F) (hd : CmV h w d G) : call p 185 [v, w] h = some (.bool (decide (c.parts = d.parts ∧ c.heard = d.heard ∧ c.word = d.word)), h) := by
  obtain ⟨x, y, F1, F2, rfl, _, hp, hh⟩ := hc
  obtain ⟨x', y', G1, G2, rfl, _, hp', hh'⟩ := hd
  have e1 := eqIntS_eq hp.sl hp'.sl
  have e2 := eqIntS_eq hh.sl hh'.sl
  refine go_eq (fn := g185) rfl rfl fun R hR => ?_
  by_cases h1 : c.parts = d.parts
  · by_cases h2 : c.heard = d.heard
    · by_cases h3 : c.word = d.word
      · simp [g185, fillL, upd, hp.cells, hp.cell, hh.cells, hh.cell, hp'.cells, hp'.cell, hh'.cells, hh'.cell, e1, e2, h1, h2, h3]
        simpa [h1, h2, h3] using hR
      · simp [g185, fillL, upd, hp.cells, hp.cell, hh.cells, hh.cell, hp'.cells, hp'.cell, hh'.cells, hh'.cell, e1, e2, h1, h2, h3]
        simpa [h1, h2, h3] using hR
    · simp [g185, fillL, upd, hp.cells, hp.cell, hh.cells, hh.cell, hp'.cells, hp'.cell, hh'.cells, hh'.cell, e1, e2, h1, h2]
      simpa [h1, h2] using hR
  · simp [g185, fillL, upd, hp.cells, hp.cell, hh.cells, hh.cell, hp'.cells, hp'.cell, hh'.cells, hh'.cell, e1, h1]
    simpa [h1] using hR

def mkC (c : Cm) (k : Int) : Cm := ⟨mkI k c.parts.length, mkI (k + c.parts.length) c.heard.length, c.word⟩

theorem markCommit_ok {lo : Nat} (hc : CmV h v c F) (hf : Fresh lo h F) (h1 : c.parts.length ≤ 2 ^ 20) (h2 : c.heard.length ≤ 2 ^ 20) :
    ∃ r h', call p 186 [v, vi 1] h = some (r, h') ∧ r = vi (1 + c.parts.length + c.heard.length) ∧ CmV h' v (mkC c 1) F ∧ KeepsP (fun b => b ∉ F) h h' ∧ h'.length = h.length ∧ Fresh lo h' F := by
  obtain ⟨x, y, F1, F2, rfl, rfl, hp, hh⟩ := hc
  have hnd := List.nodup_append.1 hf.nodup
  obtain ⟨_, a, e1, rfl, p1, p2, p3, p4⟩ := markIntS_ok hp (fun b hb => hf.own b (List.mem_append_left _ hb)) (k := 1) (by decide) (by omega)
  have hh' := hh.keeps (p2.mono fun b hb hb2 => hnd.2.2 b hb2 b hb rfl)
  obtain ⟨_, b, e2, rfl, q1, q2, q3, q4⟩ := markIntS_ok hh' (fun b hb => p4 b (hf.own b (List.mem_append_right _ hb))) (k := 1 + c.parts.length) (by omega) (by omega)
  refine go (fn := g186) rfl rfl fun R hR => ?_
  simp [g186, fillL, upd, hp.cells, hp.cell, hh.cells, hh.cell, e1, e2]
  refine hR _ _ ⟨rfl, ⟨x, y, F1, F2, rfl, rfl, p1.keeps (q2.mono fun b hb hb2 => hnd.2.2 b hb b hb2 rfl), q1⟩, (p2.mono fun b hb hb2 => hb (List.mem_append_left _ hb2)).trans (q2.mono fun b hb hb2 => hb (List.mem_append_right _ hb2)), by omega, ⟨hf.nodup, hf.ge, fun b hb => q4 b (p4 b (hf.own b hb))⟩⟩

theorem heldCommit_eq (hc : CmV h v (mkC c 1) F) (h1 : c.parts.length ≤ 2 ^ 20) (h2 : c.heard.length ≤ 2 ^ 20) : call p 187 [v, vi 1] h = some (vi (1 + c.parts.length + c.heard.length), h) := by
  obtain ⟨x, y, F1, F2, rfl, rfl, hp, hh⟩ := hc
  have e1 := heldIntS_eq hp.sl (by decide) (by omega)
  have e2 := heldIntS_eq hh.sl (by omega) (by omega)
  refine go_eq (fn := g187) rfl rfl fun R hR => ?_
  have n1 : ¬ 1 + (c.parts.length : Int) < 0 := by omega
  have n2 : ¬ 1 + (c.parts.length : Int) + c.heard.length < 0 := by omega
  simp [g187, fillL, upd, hp.cells, hp.cell, hh.cells, hh.cell, e1, e2, n1, n2]
  exact hR
end

theorem toTalk_eq (t : Tk) (h : Heap) : call p 182 [tv t] h = some (tv t, h) := by
  refine go_eq (fn := g182) rfl rfl fun R hR => ?_
  simp [g182, fillL, upd, resV, mkV]
  exact hR

def stepG (c : Cm) (t : Tk) : Option Cm := if goodC c = true then stepC c t else none
def zC : Cm := ⟨[], [], 0⟩
theorem zC_v (h : Heap) : CmV h (.agg [.nils, .nils, vi 0]) zC [] := ⟨.nils, .nils, [], [], rfl, rfl, SdF.nil, SdF.nil⟩

theorem goodC_len {c : Cm} (hg : goodC c = true) : (1 ≤ c.parts.length ∧ c.parts.length ≤ 5) ∧ c.heard.length = c.parts.length ∧ (0 ≤ c.word ∧ c.word ≤ 2) := by
  simp only [goodC, decide_eq_true_eq] at hg
  exact ⟨hg.1, hg.2.1, hg.2.2.1⟩

theorem wrH_last {h : Heap} {zs cs : List V} (hl : cs.length = zs.length) : wrH (h ++ [⟨.own, zs⟩]) h.length 0 cs = some (h ++ [⟨.own, cs⟩]) := by
  simp only [wrH, get_last, if_true]
  simp [lay, hl]

theorem StepCommitI_ok {h : Heap} {v : V} {c : Cm} {F : List Nat} (hc : CmV h v c F) (t : Tk) :
    ∃ r h', call p 184 [v, tv t] h = some (r, h') ∧ ∃ w G, r = .tup [w, .bool (stepG c t).isSome] ∧ CmV h' w ((stepG c t).getD zC) G ∧ Fresh h.length h' G ∧ Keeps h h' ∧ h.length ≤ h'.length := by
  refine go (fn := g184) rfl rfl fun R hR => ?_
  have e0 := GoodCommit_eq hc
  cases hg : goodC c with
  | false =>
    have hv := hc
    obtain ⟨x, y, F1, F2, rfl, rfl, hp, hh⟩ := hv
    rw [hg] at e0
    simp [g184, fillL, upd, hp.cells, hp.cell, hh.cells, hh.cell, e0, resV, mkV]
    refine hR _ _ ⟨.agg [.nils, .nils, vi 0], [], (by rw [show stepG c t = none by simp [stepG, hg]]; try rfl), by simpa [stepG, hg] using zC_v h, Fresh.nil, Keeps.refl _, Nat.le_refl _⟩
  | true =>
    obtain ⟨l1, l2, l3⟩ := goodC_len hg
    obtain ⟨r, h1, e1, G, c1, f1, k1, len1⟩ := cloned_ok hc (by omega) (by omega)
    obtain ⟨x, y, F1, F2, rfl, rfl, hp, hh⟩ := hc
    obtain ⟨a, b, G1, G2, rfl, rfl, ha, hb⟩ := c1
    rw [hg] at e0
    have kb : Keeps h1 (h1 ++ [⟨.own, [a, b, vi c.word]⟩]) := Keeps.append h1 _
    have out : ∀ b ∈ G1 ++ G2, b ≠ h1.length := fun b hb e => by have := (f1.own b hb).lt; omega
    have cp : CmP (h1 ++ [⟨.own, [a, b, vi c.word]⟩]) h1.length a b c G1 G2 := ⟨by simp, ha.keep kb, hb.keep kb, ⟨fun hm => out _ (List.mem_append_left _ hm) rfl, fun hm => out _ (List.mem_append_right _ hm) rfl⟩, f1.nodup, fun b hb => (f1.own b hb).keeps (kb.p fun _ => True) trivial⟩
    obtain ⟨_, h2, e2, rfl, c2, s2, l2'⟩ := step_ok cp l2 t
    have ew : wrH (h1 ++ [⟨.own, [.nils, .nils, vi 0]⟩]) h1.length 0 [a, b, vi c.word] = some (h1 ++ [⟨.own, [a, b, vi c.word]⟩]) := wrH_last rfl
    have kf : Keeps h h2 := Keeps.far (n := h.length) (k1.trans kb) s2 (Nat.le_refl _) fun i hi => ⟨by omega, fun hm => by have := f1.ge i hm; omega⟩
    have hlen : h.length ≤ h2.length := by rw [l2']; simp; omega
    have hst : stepG c t = stepC c t := by simp [stepG, hg]
    rw [← hst] at e2 c2
    cases hs : stepG c t with
    | none =>
      rw [hs] at e2
      simp at e2
      simp [g184, ew, fillL, upd, hp.cells, hp.cell, hh.cells, hh.cell, ha.cells, ha.cell, hb.cells, hb.cell, e0, e1, e2, resV, mkV]
      refine hR _ _ ⟨.agg [.nils, .nils, vi 0], [], (by rw [hs]; try rfl), by simpa [hs] using zC_v h2, Fresh.nil, kf, hlen⟩
    | some m =>
      rw [hs] at e2 c2
      simp at e2
      simp only [Option.getD_some] at c2
      simp [g184, ew, fillL, upd, hp.cells, hp.cell, hh.cells, hh.cell, ha.cells, ha.cell, hb.cells, hb.cell, e0, e1, e2, resV, mkV, rdH_at c2.blk]
      refine hR _ _ ⟨.agg [a, b, vi m.word], G1 ++ G2, (by rw [hs]; try rfl), by simpa [hs] using ⟨a, b, G1, G2, rfl, rfl, c2.parts, c2.heard⟩, ⟨c2.nodup, f1.ge, c2.own⟩, kf, hlen⟩

theorem stepC_len {c m : Cm} {t : Tk} (h : stepC c t = some m) : m.parts.length = c.parts.length ∧ m.heard.length = c.heard.length := by
  unfold stepC at h
  repeat' split at h
  all_goals (first | (cases h; done) | (injection h with h; subst h; simp))

theorem StepCommitS_ok {h : Heap} {v : V} {c : Cm} {F : List Nat} (hc : CmV h v c F) (t : Tk) :
    ∃ r h', call p 183 [v, tv t] h = some (r, h') ∧ ∃ w G, r = .tup [w, .bool (stepG c t).isSome] ∧ CmV h' w ((stepG c t).getD zC) G ∧ Fresh h.length h' G ∧ Keeps h h' ∧ h.length ≤ h'.length := by
  refine go (fn := g183) rfl rfl fun R hR => ?_
  have e0 := GoodCommitS_eq hc
  cases hg : goodC c with
  | false =>
    have hv := hc
    obtain ⟨x, y, F1, F2, rfl, rfl, hp, hh⟩ := hv
    rw [hg] at e0
    simp [g183, fillL, upd, hp.cells, hp.cell, hh.cells, hh.cell, e0, resV, mkV]
    refine hR _ _ ⟨.agg [.nils, .nils, vi 0], [], (by rw [show stepG c t = none by simp [stepG, hg]]; try rfl), by simpa [stepG, hg] using zC_v h, Fresh.nil, Keeps.refl _, Nat.le_refl _⟩
  | true =>
    obtain ⟨l1, l2, l3⟩ := goodC_len hg
    obtain ⟨r, h1, e1, G, c1, f1, k1, len1⟩ := l16Own_ok hc (by omega) (by omega) (by omega) (by omega)
    obtain ⟨x, y, F1, F2, rfl, rfl, hp, hh⟩ := hc
    obtain ⟨a, b, G1, G2, rfl, rfl, ha, hb⟩ := c1
    rw [hg] at e0
    obtain ⟨_, h2, e2, rfl, c2, s2, l2'⟩ := l16Step_ok (m := c) ⟨ha, hb, f1.nodup, f1.own⟩ l2 l3 t
    have kf : Keeps h h2 := Keeps.far (n := h.length) k1 s2 (Nat.le_refl _) fun i hi hm => by have := f1.ge i hm; omega
    have hst : stepG c t = stepC c t := by simp [stepG, hg]
    rw [← hst] at e2 c2
    cases hs : stepG c t with
    | none =>
      rw [hs] at e2
      simp at e2
      simp [g183, fillL, upd, hp.cells, hp.cell, hh.cells, hh.cell, ha.cells, ha.cell, hb.cells, hb.cell, e0, e1, e2, resV, mkV]
      refine hR _ _ ⟨.agg [.nils, .nils, vi 0], [], (by rw [hs]; try rfl), by simpa [hs] using zC_v h2, Fresh.nil, kf, by omega⟩
    | some m =>
      rw [hs] at e2 c2
      simp at e2
      simp only [Option.getD_some] at c2
      obtain ⟨m1, m2⟩ := stepC_len (hst ▸ hs)
      have cv : CmV h2 (.agg [a, b, vi m.word]) m (G1 ++ G2) := ⟨a, b, G1, G2, rfl, rfl, c2.parts, c2.heard⟩
      obtain ⟨r3, h3, e3, G3, c3, f3, k3, len3⟩ := l16Own_ok cv (by omega) (by omega) (by omega) (by omega)
      obtain ⟨a3, b3, G4, G5, rfl, rfl, ha3, hb3⟩ := c3
      simp [g183, fillL, upd, hp.cells, hp.cell, hh.cells, hh.cell, ha.cells, ha.cell, hb.cells, hb.cell, e0, e1, e2, e3, ha3.cells, ha3.cell, hb3.cells, hb3.cell, resV, mkV]
      refine hR _ _ ⟨.agg [a3, b3, vi m.word], G4 ++ G5, (by rw [hs]; try rfl), by simpa [hs] using ⟨a3, b3, G4, G5, rfl, rfl, ha3, hb3⟩, f3.mono (by omega), kf.trans k3, by omega⟩
end GL

namespace GL
open Go
instance : Flat Tk := ⟨3, fun t => [vi t.kind, vi t.part, vi t.other], fun _ => rfl, fun _ => rfl, by decide⟩
end GL

namespace GL
open Go

theorem stepG_lens {c : Cm} {t : Tk} : ((stepG c t).getD zC).parts.length ≤ 2 ^ 20 ∧ ((stepG c t).getD zC).heard.length ≤ 2 ^ 20 := by
  cases hs : stepG c t with
  | none => simp [zC]
  | some m =>
    unfold stepG at hs
    split at hs
    · rename_i hg
      obtain ⟨l1, l2, l3⟩ := goodC_len hg
      obtain ⟨m1, m2⟩ := stepC_len hs
      simp only [Option.getD_some]; omega
    · cases hs

set_option maxRecDepth 20000 in
theorem FnExactStepCommit_ok {h : Heap} {va : V} {c : Cm} {F : List Nat} (hc : CmV h va c F) (t : Tk) : ∃ r h', call p 179 [va, tv t] h = some (r, h') ∧ r = .bool true := by
  refine go (fn := g179) rfl rfl fun R hR => ?_
  obtain ⟨n, en, hn⟩ := szCommit_eq hc (left := 2 ^ 20) (by decide)
  have hv := hc
  obtain ⟨x, y, F1, F2, rfl, rfl, hp, hh⟩ := hv
  have en' : call p 180 [.agg [x, y, vi c.word], vi 1048576] h = some (vi n, h) := en
  by_cases hneg : n < 0
  · simp [g179, fillL, upd, hp.cells, hp.cell, hh.cells, hh.cell, en', hneg]
    exact hR _ _ rfl
  · have hsz : (c.parts.length : Int) + c.heard.length ≤ 2 ^ 20 := by rcases hn with h | h; exact absurd h hneg; exact h
    obtain ⟨r1, h1, e1, G1, c1, f1, k1, l1⟩ := toCommit_ok hc (by omega) (by omega)
    obtain ⟨_, h2, e2, w0, G2, rfl, c2, f2, k2, l2⟩ := StepCommitS_ok c1 t
    obtain ⟨x0, h3, e3, G3, c3, f3, k3, l3⟩ := toCommit_ok (hc.keep (k1.trans k2)) (by omega) (by omega)
    obtain ⟨_, h4, e4, g0, G4, rfl, c4, f4, k4, l4⟩ := StepCommitI_ok c3 t
    have c2' := c2.keep (k3.trans k4)
    have e5 := eqCommit_eq c4 c2'
    obtain ⟨r6, h5, e6, G6, c6, f6, k6, l6⟩ := toCommit_ok (hc.keep (((k1.trans k2).trans k3).trans k4)) (by omega) (by omega)
    have e7 := eqCommit_eq (c3.keep (k4.trans k6)) c6
    obtain ⟨_, h6, e8, rfl, c8, k8, l8, f8⟩ := markCommit_ok (c3.keep (k4.trans k6)) (f3.keeps ((k4.trans k6).p _)) (by omega) (by omega)
    have n4 : ∀ b ∈ G4, b ∉ G3 := fun b hb hb2 => by have := f4.ge b hb; have := c3.lt hb2; omega
    have n2 : ∀ b ∈ G2, b ∉ G3 := fun b hb hb2 => by have := f3.ge b hb2; have := c2.lt hb; omega
    have n24 : ∀ b ∈ G2, b ∉ G4 := fun b hb hb2 => by have := f4.ge b hb2; have := c2.lt hb; omega
    have c4' := (c4.keep k6).keeps (k8.mono n4)
    have c2'' := (c2'.keep k6).keeps (k8.mono n2)
    have e9 := eqCommit_eq c4' c2''
    have lens := stepG_lens (c := c) (t := t)
    obtain ⟨_, h7, e10, rfl, c10, k10, l10, f10⟩ := markCommit_ok c4' ((f4.keeps (k6.p _)).keeps (k8.mono n4)) lens.1 lens.2
    have e11 := heldCommit_eq c10 lens.1 lens.2
    have hF3 : ∀ b ∈ F1 ++ F2, b ∉ G3 := fun b hb hb2 => by have := f3.ge b hb2; have := hc.lt hb; omega
    have hF4 : ∀ b ∈ F1 ++ F2, b ∉ G4 := fun b hb hb2 => by have := f4.ge b hb2; have := hc.lt hb; omega
    have hc7 := (((hc.keep ((((k1.trans k2).trans k3).trans k4).trans k6)).keeps (k8.mono hF3)).keeps (k10.mono hF4))
    obtain ⟨r12, h8, e12, G12, c12, f12, k12, l12⟩ := toCommit_ok hc7 (by omega) (by omega)
    obtain ⟨_, h9, e13, h0, G13, rfl, c13, f13, k13, l13⟩ := StepCommitI_ok c12 t
    have e14 := eqCommit_eq c13 ((c2''.keeps (k10.mono n24)).keep (k12.trans k13))
    have e15 := heldCommit_eq (c10.keep (k12.trans k13)) lens.1 lens.2
    generalize (stepG c t).isSome = ok at *
    generalize (stepG c t).getD zC = m at *
    simp at e5 e7 e9 e14
    obtain ⟨a1, b1, _, _, rfl, _, p1, q1⟩ := c1
    obtain ⟨a2, b2, _, _, rfl, _, p2, q2⟩ := c2
    obtain ⟨a3, b3, _, _, rfl, _, p3, q3⟩ := c3
    obtain ⟨a4, b4, _, _, rfl, _, p4, q4⟩ := c4
    obtain ⟨a6, b6, _, _, rfl, _, p6, q6⟩ := c6
    obtain ⟨a12, b12, _, _, rfl, _, p12, q12⟩ := c12
    obtain ⟨a13, b13, _, _, rfl, _, p13, q13⟩ := c13
    have tt := toTalk_eq t
    have z1 : ¬ 1 + (c.parts.length : Int) + c.heard.length < 0 := by omega
    have z2 : ¬ 1 + (m.parts.length : Int) + m.heard.length < 0 := by omega
    simp [g179, fillL, upd, resV, mkV, hp.cells, hp.cell, hh.cells, hh.cell, p1.cells, p1.cell, q1.cells, q1.cell, p2.cells, p2.cell, q2.cells, q2.cell, p3.cells, p3.cell, q3.cells, q3.cell, p4.cells, p4.cell, q4.cells, q4.cell, p6.cells, p6.cell, q6.cells, q6.cell, p12.cells, p12.cell, q12.cells, q12.cell, p13.cells, p13.cell, q13.cells, q13.cell,
      en', hneg, e1, e2, e3, e4, e5, e6, e7, e8, e9, e10, e11, e12, e13, e14, e15, tt, z1, z2]
    exact hR _ _ rfl
end GL

/-! GL: laws of one to four arguments, whatever they are. -/
namespace GL
open Go

/-- an argument, in memory -/
def RepA {α : Type} [Data α] (h : Heap) (x : V) (a : α) (F : List Nat) (agg : Bool) : Prop := ∃ vs, x = (if agg = true then .agg vs else vs.headD .nils) ∧ (agg = false → vs = [x]) ∧ Data.rep h a vs F

section
variable {P : Program} {fid : Nat → FuncId} {w : World} {eqs : List (TypeId × List (Option IntKind))} {p : Prog} (hp : ProgOK P fid eqs p) {f : Nat}
variable {α0 α1 α2 α3 : Type} [Data α0] [Data α1] [Data α2] [Data α3] {x0 x1 x2 x3 : V} {s0 s1 s2 s3 : List (Blk × Option At)} {a0 : α0} {a1 : α1} {a2 : α2} {a3 : α3} {F0 F1 F2 F3 : List Nat} {g0 g1 g2 g3 : Bool} {v0 v1 v2 v3 : Value}

theorem ArgIn.rep {α : Type} [Data α] {x : V} {l m r t : List (Blk × Option At)} {a : α} {F : List Nat} {g : Bool} {v : Value} {n : Nat} (h : ArgIn w n x m a F g v) (hn : n = l.length) (ht : t = l ++ m ++ r) : RepA (sideH t) x a F g := by
  subst hn; subst ht; exact h.at

include hp
theorem law1 (i0 : ArgIn w 0 x0 s0 a0 F0 g0 v0) (hw : ∀ h, RepA h x0 a0 F0 g0 → ∃ r h', call p f [x0] h = some (r, h') ∧ r = .bool true) :
    Calls P (fid f) #[v0] w fun e w' => e = .returned (.bool true) ∧ RowKit.Below w.heap.size w w' :=
  callsA hp (vs := [v0]) (.cons i0 .nil) (hw _ (i0.rep (l := []) (r := []) rfl (by simp)))
theorem law2 (i0 : ArgIn w 0 x0 s0 a0 F0 g0 v0) (i1 : ArgIn w (0 + s0.length) x1 s1 a1 F1 g1 v1) (hw : ∀ h, RepA h x0 a0 F0 g0 → RepA h x1 a1 F1 g1 → ∃ r h', call p f [x0, x1] h = some (r, h') ∧ r = .bool true) :
    Calls P (fid f) #[v0, v1] w fun e w' => e = .returned (.bool true) ∧ RowKit.Below w.heap.size w w' :=
  callsA hp (vs := [v0, v1]) (.cons i0 (.cons i1 .nil)) (hw _ (i0.rep (l := []) (r := s1) rfl (by simp)) (i1.rep (l := s0) (r := []) (by simp) (by simp)))
theorem law3 (i0 : ArgIn w 0 x0 s0 a0 F0 g0 v0) (i1 : ArgIn w (0 + s0.length) x1 s1 a1 F1 g1 v1) (i2 : ArgIn w (0 + s0.length + s1.length) x2 s2 a2 F2 g2 v2)
    (hw : ∀ h, RepA h x0 a0 F0 g0 → RepA h x1 a1 F1 g1 → RepA h x2 a2 F2 g2 → ∃ r h', call p f [x0, x1, x2] h = some (r, h') ∧ r = .bool true) :
    Calls P (fid f) #[v0, v1, v2] w fun e w' => e = .returned (.bool true) ∧ RowKit.Below w.heap.size w w' :=
  callsA hp (vs := [v0, v1, v2]) (.cons i0 (.cons i1 (.cons i2 .nil))) (hw _ (i0.rep (l := []) (r := s1 ++ s2) rfl (by simp)) (i1.rep (l := s0) (r := s2) (by simp) (by simp)) (i2.rep (l := s0 ++ s1) (r := []) (by simp) (by simp)))
theorem law4 (i0 : ArgIn w 0 x0 s0 a0 F0 g0 v0) (i1 : ArgIn w (0 + s0.length) x1 s1 a1 F1 g1 v1) (i2 : ArgIn w (0 + s0.length + s1.length) x2 s2 a2 F2 g2 v2) (i3 : ArgIn w (0 + s0.length + s1.length + s2.length) x3 s3 a3 F3 g3 v3)
    (hw : ∀ h, RepA h x0 a0 F0 g0 → RepA h x1 a1 F1 g1 → RepA h x2 a2 F2 g2 → RepA h x3 a3 F3 g3 → ∃ r h', call p f [x0, x1, x2, x3] h = some (r, h') ∧ r = .bool true) :
    Calls P (fid f) #[v0, v1, v2, v3] w fun e w' => e = .returned (.bool true) ∧ RowKit.Below w.heap.size w w' :=
  callsA hp (vs := [v0, v1, v2, v3]) (.cons i0 (.cons i1 (.cons i2 (.cons i3 .nil)))) (hw _ (i0.rep (l := []) (r := s1 ++ s2 ++ s3) rfl (by simp)) (i1.rep (l := s0) (r := s2 ++ s3) (by simp) (by simp)) (i2.rep (l := s0 ++ s1) (r := s3) (by simp) (by simp)) (i3.rep (l := s0 ++ s1 ++ s2) (r := []) (by simp; omega) (by simp)))
end
end GL

namespace GL
open Go

instance cmData : Data Cm where
  sz := 3
  pos := by decide
  rep := fun h c cs F => ∃ x y F1 F2, cs = [x, y, vi c.word] ∧ F = F1 ++ F2 ∧ SdF h x c.parts F1 ∧ SdF h y c.heard F2
  len := by rintro h a cs F ⟨x, y, F1, F2, rfl, _⟩; rfl
  ok := by rintro h a cs F ⟨x, y, F1, F2, rfl, _, h1, h2⟩; simp [allCell, h1.cell, h2.cell, cell_int]
  keeps := by
    rintro h h' a cs F ⟨x, y, F1, F2, rfl, rfl, h1, h2⟩ hk
    exact ⟨x, y, F1, F2, rfl, rfl, h1.keeps (hk.mono fun b hb => List.mem_append_left _ hb), h2.keeps (hk.mono fun b hb => List.mem_append_right _ hb)⟩
  lt := by
    rintro h a cs F b ⟨x, y, F1, F2, rfl, rfl, h1, h2⟩ hb
    rcases List.mem_append.1 hb with hb | hb
    · exact h1.lt hb
    · exact h2.lt hb
def Cm.of (p : List Int × List Int × Int) : Cm := ⟨p.1, p.2.1, p.2.2⟩
theorem Cm.of_rep (h : Heap) (p : List Int × List Int × Int) (cs : List V) (F : List Nat) (hr : Data.rep h p cs F) : Data.rep h (Cm.of p) cs F := by
  obtain ⟨c, d, F1, F2, rfl, rfl, ⟨x, rfl, hx⟩, e, f, G1, G2, rfl, rfl, ⟨y, rfl, hy⟩, rfl, rfl⟩ := hr
  exact ⟨x, y, F1, G1, rfl, by simp, hx, hy⟩
def Tk.of (p : Int × Int × Int) : Tk := ⟨p.1, p.2.1, p.2.2⟩
theorem Tk.of_rep (h : Heap) (p : Int × Int × Int) (cs : List V) (F : List Nat) (hr : Data.rep h p cs F) : Data.rep h (Tk.of p) cs F := by
  obtain ⟨c, d, F1, F2, rfl, rfl, ⟨rfl, rfl⟩, e, f, G1, G2, rfl, rfl, ⟨rfl, rfl⟩, rfl, rfl⟩ := hr
  exact ⟨rfl, rfl⟩

theorem FnExactStepCommit_law {h : Heap} {x0 x1 : V} {c : Cm} {t : Tk} {F0 F1 : List Nat} (r0 : RepA h x0 c F0 true) (r1 : RepA h x1 t F1 true) : ∃ r h', call p 179 [x0, x1] h = some (r, h') ∧ r = .bool true := by
  obtain ⟨vs, rfl, _, x, y, G1, G2, rfl, rfl, hx, hy⟩ := r0
  obtain ⟨us, rfl, _, rfl, _⟩ := r1
  exact FnExactStepCommit_ok (c := c) (F := G1 ++ G2) ⟨x, y, G1, G2, rfl, rfl, hx, hy⟩ t
end GL

