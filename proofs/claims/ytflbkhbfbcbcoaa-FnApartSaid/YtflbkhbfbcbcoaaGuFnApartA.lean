import Derived.ChangeArms
import Derived.IntWalk
import Derived.WideShapes
import Derived.Test.YtflbkhbfbcbcoaaGp
/- What the functions of the law do, on the machine. -/
set_option linter.unusedSimpArgs false
set_option linter.unusedVariables false
set_option linter.unnecessarySimpa false
/-! truths -/
namespace GL
open Go

@[simp] theorem within_eq (n lo hi : Int) (h : Heap) : call p 107 [vi n, vi lo, vi hi] h = some (.bool (decide (lo ≤ n ∧ n ≤ hi)), h) := by
  apply W_eq
  refine call_W (fn := g107) rfl rfl ?_
  by_cases h1 : lo ≤ n <;> simp [g107, h1]

@[simp] theorem l1In_eq (n lo hi : Int) (h : Heap) : call p 98 [vi n, vi lo, vi hi] h = some (.bool (decide (lo ≤ n ∧ n ≤ hi)), h) := by
  apply W_eq
  refine call_W (fn := g98) rfl rfl ?_
  by_cases h1 : lo ≤ n <;> simp [g98, h1]

def isT (n : Int) : Prop := 0 ≤ n ∧ n ≤ 2
instance (n : Int) : Decidable (isT n) := inferInstanceAs (Decidable (_ ∧ _))

@[simp] theorem l1Most_eq (a b : Int) (h : Heap) : call p 90 [vi a, vi b] h = some (vi (max a b), h) := by
  apply W_eq
  refine call_W (fn := g90) rfl rfl ?_
  simp [g90]
  split <;> omega

end GL

/-! the cursor of the draws -/
namespace GL
open Go

/-- a cursor at block c: what it holds, and how far it has come at most -/
def Cur (h : Heap) (c N : Nat) : Prop := ∃ (v : V) (bs : List Byte) (n : Nat) (sd : Int), h[c]? = some ⟨.own, [v, vi n, .int .u64 sd]⟩ ∧ Sl h v bs ∧ (bs = [] ∨ bOf v < c) ∧ n ≤ N

theorem Cur.mono {h : Heap} {c N M : Nat} (hc : Cur h c N) (hn : N ≤ M) : Cur h c M := by
  obtain ⟨v, bs, n, sd, h1, h2, h3, h4⟩ := hc
  exact ⟨v, bs, n, sd, h1, h2, h3, by omega⟩

theorem Cur.keeps {h h' : Heap} {c N : Nat} (hc : Cur h c N) (hk : Keeps h h') : Cur h' c N := by
  obtain ⟨v, bs, n, sd, h1, h2, h3, h4⟩ := hc
  exact ⟨v, bs, n, sd, hk _ _ h1 (by simp), h2.keeps hk, h3, h4⟩

theorem Cur.lt {h : Heap} {c N : Nat} (hc : Cur h c N) : c < h.length := by
  obtain ⟨_, _, _, _, h1, _⟩ := hc; exact get_lt h1

theorem Cur.keepsP {h h' : Heap} {c N : Nat} {P : Nat → Prop} (hc : Cur h c N) (hk : KeepsP P h h') (hp : ∀ i, i ≤ c → P i) : Cur h' c N := by
  obtain ⟨v, bs, n, sd, h1, h2, h3, h4⟩ := hc
  refine ⟨v, bs, n, sd, hk _ _ (hp _ (Nat.le_refl _)) h1 (by simp), ?_, h3, h4⟩
  refine ⟨h2.1, ?_⟩
  rcases h2.2 with hs | ⟨b, off, cap, hv, hs⟩
  · exact .inl hs
  · refine .inr ⟨b, off, cap, hv, ?_⟩
    rcases hs with hs | ⟨blk, h6, h7, h8⟩
    · exact .inl hs
    · subst hv
      rcases h3 with h5 | h5
      · exact .inl h5
      · exact .inr ⟨blk, hk _ _ (hp _ (Nat.le_of_lt h5)) h6 h7, h7, h8⟩

theorem Cur.set {h : Heap} {c N n : Nat} {v : V} {bs : List Byte} {nb : Blk} {sd sd' : Int} (h1 : h[c]? = some ⟨.own, [v, vi n, .int .u64 sd]⟩) (h2 : Sl h v bs) (h3 : bs = [] ∨ bOf v < c) (hn : n ≤ N)
    (hb : nb = ⟨.own, [v, vi (n + 1 : Nat), .int .u64 sd']⟩) : Cur (h.set c nb) c (N + 1) := by
  subst hb
  exact ⟨v, bs, n + 1, sd', by simp [get_lt h1], h2.but (h3.imp_right Nat.ne_of_lt) (KeepsBut.set _ _ _), h3, by omega⟩

theorem mod_byte (k : Nat) : ∃ x : Nat, x ≤ 255 ∧ IntKind.i64.wrap (IntKind.u64.wrap ((k &&& 255 % 2 ^ IntKind.u64.bits : Nat) : Int)) = x := by
  have h1 : 255 % 2 ^ IntKind.u64.bits = 2 ^ 8 - 1 := by decide
  refine ⟨k % 256, by omega, ?_⟩
  rw [h1, Nat.and_two_pow_sub_one_eq_mod, IntWalk.u64_in _ (by omega), IntWalk.i64_in _ (by omega)]

theorem next_ok {h : Heap} {c N : Nat} (hc : Cur h c N) (hN : N < 2 ^ 62) : ∃ v h', call p 140 [.ptr c 0] h = some (v, h') ∧ ∃ x : Nat, v = vi x ∧ x ≤ 255 ∧ Cur h' c (N + 1) ∧ KeepsBut c h h' ∧ h'.length = h.length := by
  obtain ⟨v, bs, n, sd, h1, h2, h3, h4⟩ := hc
  refine go (fn := g140) rfl rfl fun R hR => ?_
  have hlt := get_lt h1
  have hw : IntKind.i64.wrap ((n : Int) + 1) = (n + 1 : Nat) := by rw [IntWalk.i64_in] <;> omega
  by_cases hn : n < bs.length
  · have hb0 := bs[n].lt
    have hw2 : IntKind.i64.wrap (bs[n].n : Int) = bs[n].n := IntWalk.i64_in _ (by omega)
    have hle : ((n : Int) + 1) ≤ bs.length := by omega
    simp [g140, rdH_at h1, wrH_at h1, rdH_set hlt, wrH_set hlt, h2.len, h2.idx, hn, h2.loadB, hw, hw2, hle]
    exact hR _ _ ⟨bs[n].n, rfl, by omega, Cur.set h1 h2 h3 h4 rfl, KeepsBut.set _ _ _, by simp⟩
  · have hle : ¬ ((n : Int) + 1) ≤ bs.length := by omega
    simp [g140, rdH_at h1, wrH_at h1, rdH_set hlt, wrH_set hlt, h2.len, hn, hw, hle, -Int.natCast_emod]
    obtain ⟨x, hx1, hx2⟩ := mod_byte (((IntKind.u64.wrap (IntKind.u64.wrap (IntKind.u64.wrap (sd * 6364136223846793005) + IntKind.u64.wrap 0) + 1442695040888963407)).fdiv (2 ^ min 40 IntKind.u64.bits) % 2 ^ IntKind.u64.bits).toNat)
    exact hR _ _ ⟨x, by rw [hx2], hx1, Cur.set h1 h2 h3 h4 rfl, KeepsBut.set _ _ _, by simp⟩

theorem pick_ok {h : Heap} {c N n : Nat} (hc : Cur h c N) (hN : N < 2 ^ 61) (hn : n < 2 ^ 40) :
    ∃ v h', call p 91 [.ptr c 0, vi n] h = some (v, h') ∧ ∃ x : Nat, v = vi x ∧ x < max n 1 ∧ Cur h' c (N + 2) ∧ KeepsBut c h h' ∧ h'.length = h.length := by
  refine go (fn := g91) rfl rfl fun R hR => ?_
  by_cases h1 : n ≤ 1
  · have h1' : (n : Int) ≤ 1 := by omega
    simp [g91, h1']
    exact hR _ _ ⟨0, rfl, by omega, hc.mono (by omega), KeepsBut.refl _ _, rfl⟩
  · have h1' : ¬ (n : Int) ≤ 1 := by omega
    obtain ⟨_, h2, e1, x, rfl, hx, c1, k1, l1⟩ := next_ok hc (by omega)
    have h0 : ¬ n = 0 := by omega
    by_cases h2 : 200 < n
    · have h2' : (200 : Int) < n := by omega
      obtain ⟨_, h3, e2, y, rfl, hy, c2, k2, l2⟩ := next_ok c1 (by omega)
      have w1 : IntKind.i64.wrap ((x : Int) * 256) = (x * 256 : Nat) := by rw [IntWalk.i64_in] <;> omega
      have w2 : IntKind.i64.wrap (((x * 256 : Nat) : Int) + y) = (x * 256 + y : Nat) := by rw [IntWalk.i64_in] <;> omega
      have w3 : (((x * 256 + y : Nat) : Int)).tmod n = ((x * 256 + y) % n : Nat) := by rw [Int.tmod_eq_emod_of_nonneg (by omega)]; rfl
      simp [g91, h1', e1, h2', e2, w1, w2, h0, w3, -Int.natCast_mul, -Int.natCast_add, -Int.natCast_emod]
      exact hR _ _ ⟨(x * 256 + y) % n, rfl, by have := Nat.mod_lt (x * 256 + y) (show n > 0 by omega); omega, c2, k1.trans k2, by omega⟩
    · have h2' : ¬ (200 : Int) < n := by omega
      have w3 : ((x : Int)).tmod n = (x % n : Nat) := by rw [Int.tmod_eq_emod_of_nonneg (by omega)]; rfl
      simp [g91, h1', e1, h2', h0, w3, -Int.natCast_emod]
      exact hR _ _ ⟨x % n, rfl, by have := Nat.mod_lt x (show n > 0 by omega); omega, c1.mono (by omega), k1, by omega⟩

theorem one_ok {h : Heap} {c N n : Nat} (hc : Cur h c N) (hN : N < 2 ^ 61) (hn : n < 2 ^ 40) :
    ∃ v h', call p 92 [.ptr c 0, vi n] h = some (v, h') ∧ ∃ b : Bool, v = .bool b ∧ Cur h' c (N + 2) ∧ KeepsBut c h h' ∧ h'.length = h.length := by
  obtain ⟨_, h2, e1, x, rfl, hx, c1, k1, l1⟩ := pick_ok hc hN hn
  refine go (fn := g92) rfl rfl fun R hR => ?_
  simp [g92, e1]
  exact hR _ _ ⟨_, rfl, c1, k1, l1⟩

theorem among_ok {h : Heap} {c N : Nat} {v : V} {xs : List Int} (hc : Cur h c N) (hN : N < 2 ^ 61) (hs : Sl h v xs) (hb : bOf v ≠ c) (h0 : 0 < xs.length) (hn : xs.length < 2 ^ 40) :
    ∃ r h', call p 93 [.ptr c 0, v] h = some (r, h') ∧ ∃ x ∈ xs, r = vi x ∧ Cur h' c (N + 2) ∧ KeepsBut c h h' ∧ h'.length = h.length := by
  obtain ⟨_, h2, e1, i, rfl, hi, c1, k1, l1⟩ := pick_ok hc hN hn
  have hs2 := hs.but (.inr hb) k1
  have hi' : i < xs.length := by omega
  refine go (fn := g93) rfl rfl fun R hR => ?_
  simp [g93, hs.len, e1, hs2.idx, hi', hs2.loadI]
  exact hR _ _ ⟨xs[i], by simp, rfl, c1, k1, l1⟩
end GL

namespace GL
open Go

theorem drawTwo {h : Heap} {v : V} {bs : List Byte} (hs : Sl h v bs) : Cur (h ++ [⟨.own, [v, vi 0, .int .u64 0]⟩]) h.length 0 := by
  refine ⟨v, bs, 0, 0, by simp, hs.keeps (Keeps.append h _), ?_, Nat.le_refl _⟩
  rcases hs.2 with ⟨_, h1⟩ | ⟨b, off, cap, rfl, h1 | ⟨blk, h1, _⟩⟩
  · exact .inl h1
  · exact .inl h1
  · exact .inr (get_lt h1)

end GL

namespace GL
open Go

end GL

namespace GL
open Go

theorem KeepsBut.out {c lo : Nat} {h h' : Heap} {α : Type} [Flat α] {v : V} {xs : List α} (hk : KeepsBut c h h') (ho : Out lo h v xs) (hc : c < lo) (hl : h.length ≤ h'.length) : Out lo h' v xs :=
  ho.keeps (P := fun i => i ≠ c) (fun b blk hb h1 h2 => hk b blk hb h1 h2) (fun i hi => by have := (ho.ge hi).1; omega) hl

theorem Keeps.out {lo : Nat} {h h' : Heap} {α : Type} [Flat α] {v : V} {xs : List α} (hk : Keeps h h') (ho : Out lo h v xs) (hl : h.length ≤ h'.length) : Out lo h' v xs :=
  ho.keeps (P := fun _ => True) (fun b blk _ h1 h2 => hk b blk h1 h2) (fun _ _ => trivial) hl

/-- nothing that stood at first is touched -/
theorem Keeps.far {n : Nat} {h0 h h' : Heap} {P : Nat → Prop} (h1 : Keeps h0 h) (hk : KeepsP P h h') (hn : h0.length ≤ n) (hp : ∀ i, i < n → P i) : Keeps h0 h' := fun i blk hi hl =>
  hk i blk (hp i (by have := get_lt hi; omega)) (h1 i blk hi hl) hl
theorem KeepsBut.P {c : Nat} {h h' : Heap} (hk : KeepsBut c h h') : KeepsP (fun i => i ≠ c) h h' := fun b blk hb h1 h2 => hk b blk hb h1 h2

theorem Sl.lit {h : Heap} {α : Type} [Flat α] (l : List α) (n : Nat) (hn : n = l.length) (cs : List V) (hc : cs = flats l) (cap : Cap) (hb : l.length < 2 ^ 63) : Sl (h ++ [⟨.own, cs⟩]) (.slice h.length 0 n cap) l := by
  subst hn; subst hc
  exact Sl.whole _ (get_last _ _) (by simp) rfl hb

def DI (h0 : Heap) (k : Nat) (s : S) : Prop :=
  k ≤ 30 ∧ s.σ 5 = .v (vi k) ∧ s.σ 3 = .v (.ptr h0.length 0) ∧ ∃ v xs, s.σ 4 = .v v ∧ Out (h0.length + 1) s.h v (xs : List Int) ∧ xs.length ≤ 30 - k ∧ Cur s.h h0.length (1000 - 2 * k) ∧ Keeps h0 s.h

theorem DI.start {h0 h : Heap} {σ : Nat → T} {L : Nat → Nat × List V} {wt : Nat → Option (ROp × List T × V)} {fl : Nat → Bool} {b N n : Nat} (hn : n ≤ 30) (h5 : σ 5 = .v (vi n)) (h3 : σ 3 = .v (.ptr h0.length 0)) (h4 : σ 4 = .v .nils)
    (hc : Cur h h0.length N) (hN : N ≤ 900) (hk : Keeps h0 h) : DI h0 n ⟨σ, L, h, wt, fl, b⟩ :=
  ⟨hn, h5, h3, .nils, [], h4, Out.nil (by have := hc.lt; show h0.length + 1 ≤ h.length; omega), by simp, hc.mono (by omega), hk⟩

end GL

namespace GL
open Go

end GL

/-! values -/
namespace GL
open Go

structure Val where
  null : Bool
  n : Int
instance : Flat Val := ⟨2, fun x => [.bool x.null, vi x.n], fun _ => rfl, fun _ => rfl, by decide⟩
end GL

namespace GL
open Go

theorem KeepsBut.lit {c : Nat} {h : Heap} (l : Heap) : KeepsBut c h (h ++ l) := (Keeps.append h l).but c

end GL

namespace GL
open Go

theorem Out.one {lo : Nat} {h : Heap} {v : V} {xs : List Int} (ho : Out lo h v xs) (x : Int) (hx : xs.length ≤ 2 ^ 20) :
    ∃ v' h', appH 1 8 v 1 [vi x] (h ++ [⟨.own, [vi x]⟩]) = some (v', h') ∧ Out lo h' v' (xs ++ [x]) ∧ KeepsP (fun i => ¬ vB v i) h h' ∧ h.length < h'.length := by
  have o3 : Out lo (h ++ [⟨.own, [vi x]⟩]) v xs := (Keeps.append h _).out ho (by simp)
  obtain ⟨v', h', e4, o4, k4, l4, b4⟩ := o3.app [x] (by simp) (bytes := 8) (by decide) (by simp; omega) (k := 1) rfl (n := 1) rfl (ys := [vi x]) rfl
  exact ⟨v', h', e4, o4, fun i blk hi h1 h2 => k4 i blk hi (Keeps.append h _ i blk h1 h2) h2, by simp at l4; omega⟩

theorem Out.far {lo : Nat} {h0 h h' : Heap} {α : Type} [Flat α] {v : V} {xs : List α} (ho : Out lo h v xs) (hk : Keeps h0 h) (hp : KeepsP (fun i => ¬ vB v i) h h') (hl : h0.length ≤ lo) : Keeps h0 h' :=
  Keeps.far hk hp hl fun i hi hv => by have := (ho.ge hv).1; omega

end GL

namespace GL
open Go

theorem sameInts_eq {h : Heap} {v w : V} {xs ys : List Int} (hs : Sl h v xs) (ht : Sl h w ys) : call p 24 [v, w] h = some (.bool (decide (xs = ys)), h) := by
  refine go_eq (fn := g24) rfl rfl fun R hR => ?_
  by_cases hl : xs.length = ys.length
  · simp [g24, hs.len, ht.len, hl]
    refine Wc_upJ xs.length (fun i s => s.σ 0 = .v v ∧ s.σ 1 = .v w ∧ s.σ 12 = .v (vi xs.length) ∧ s.σ 13 = .v (vi i) ∧ s.h = h ∧ xs.take i = ys.take i) 0 (by simp [hl]) fun i s ⟨g0, g1, g12, g13, gh, hall⟩ J hJ => ?_
    by_cases hn : i < xs.length
    · have hn' : i < ys.length := by omega
      by_cases he : xs[i] = ys[i]
      · have : xs.take (i + 1) = ys.take (i + 1) := by
          rw [List.take_succ_eq_append_getElem hn, List.take_succ_eq_append_getElem hn', hall, he]
        simp [g24_0, g0, g1, g12, g13, gh, hn, hn', hs.idx, hs.loadI, ht.idx, ht.loadI, he, hs.step hn]
        exact hJ _ hn ⟨by simp [g0], by simp [g1], by simp [g12], by simp, rfl, this⟩
      · have hne : ¬ xs = ys := fun e => he (by subst e; rfl)
        simp [g24_0, g0, g1, g12, g13, gh, hn, hn', hs.idx, hs.loadI, ht.idx, ht.loadI, he]
        simpa [hne] using hR
    · have : xs = ys := by
        rw [List.take_of_length_le (by omega), List.take_of_length_le (by omega)] at hall; exact hall
      simp [g24_0, g12, g13, gh, hn]
      simpa [this] using hR
  · have hne : ¬ xs = ys := fun e => hl (by rw [e])
    have hl' : ¬ (xs.length : Int) = ys.length := by omega
    simp only [hne, decide_false] at hR
    simp [g24, hs.len, ht.len]
    rw [if_neg hl']
    exact hR
end GL

namespace GL
open Go

end GL

namespace GL
open Go

end GL

namespace GL
open Go

end GL

/-! sums -/
namespace GL
open Go

structure Sm where
  rows : Int
  known : Int
  total : Int
  low : Val
  high : Val
/-- a sum's cells -/
abbrev sc (s : Sm) : List V := [vi s.rows, vi s.known, vi s.total, .bool s.low.null, vi s.low.n, .bool s.high.null, vi s.high.n]

end GL

/-! GL: what code does not touch. -/
namespace GL
open Go

def xmods : List AOper → List Nat
  | [] => []
  | o :: r => (match o.dst with | some t => [t] | none => []) ++ xmods r

/-- the slots that code may set -/
def mods : Code → List Nat
  | .reg _ ops => xmods ops
  | .seq a b => mods a ++ mods b
  | .cond _ a b => mods a ++ mods b
  | .block _ c => mods c
  | .loop c => mods c
  | _ => []

theorem put_mods (s : S) (d : Option Nat) (x : T) {k : Nat} (hk : k ∉ (match d with | some t => [t] | none => [])) : (s.put d x).σ k = s.σ k := by
  cases d with
  | none => rfl
  | some t =>
    have : k ≠ t := by simpa using hk
    simp [S.put, upd, this]

theorem xop_mods {c : CallF} {o : AOper} {s s' : S} (h : xop c o s = some s') {k : Nat} (hk : k ∉ (match o.dst with | some t => [t] | none => [])) : s'.σ k = s.σ k := by
  unfold xop at h
  obtain ⟨b, _, h⟩ := Option.bind_eq_some_iff.1 h
  split at h
  · unfold aop at h
    split at h
    · obtain ⟨x, _, h⟩ := Option.bind_eq_some_iff.1 h
      cases h; exact put_mods _ _ _ hk
    · obtain ⟨r, _, h⟩ := Option.bind_eq_some_iff.1 h
      cases h; exact put_mods { s with L := r.2 } _ _ hk
    · obtain ⟨r, _, h⟩ := Option.bind_eq_some_iff.1 h
      split at h
      · split at h
        · cases h; exact put_mods { s with wt := _ } _ _ hk
        · cases h
      · cases h; exact put_mods _ _ _ hk
    · obtain ⟨r, _, h⟩ := Option.bind_eq_some_iff.1 h
      split at h
      · cases h; exact put_mods { s with h := _ } _ _ hk
      · cases h
    · obtain ⟨r, _, h⟩ := Option.bind_eq_some_iff.1 h
      split at h
      · cases h; exact put_mods { s with h := _, fl := _ } _ _ hk
      · cases h
  · cases h; exact put_mods _ _ _ hk

theorem xops_mods {c : CallF} : ∀ {l : List AOper} {s s' : S}, xops c l s = some s' → ∀ {k : Nat}, k ∉ xmods l → s'.σ k = s.σ k
  | [], s, s', h, k, _ => by simp [xops] at h; rw [h]
  | o :: r, s, s', h, k, hk => by
    simp only [xops] at h
    obtain ⟨s1, h1, h⟩ := Option.bind_eq_some_iff.1 h
    rw [xops_mods h fun hm => hk (List.mem_append_right _ hm), xop_mods h1 fun hm => hk (List.mem_append_left _ hm)]

theorem den_mods {p : Prog} : ∀ {c : Code} {s : S} {e : Ex} {s' : S}, den p c s = some (e, s') → ∀ {k : Nat}, k ∉ mods c → s'.σ k = s.σ k := by
  intro c
  induction c with
  | skip => intro s e s' h k _; simp [den] at h; rw [h.2]
  | exit i => intro s e s' h k _; simp [den] at h; rw [h.2]
  | ret => intro s e s' h k _; simp [den] at h; rw [h.2]
  | bad => intro s e s' h k _; simp [den] at h
  | reg n l =>
    intro s e s' h k hk
    simp only [den] at h
    obtain ⟨s1, h1, h⟩ := Option.bind_eq_some_iff.1 h
    cases h
    exact (xops_mods h1 hk).trans rfl
  | seq a b iha ihb =>
    intro s e s' h k hk
    simp only [den] at h
    obtain ⟨⟨e1, s1⟩, h1, h⟩ := Option.bind_eq_some_iff.1 h
    have ha := iha h1 (k := k) fun hm => hk (List.mem_append_left _ hm)
    cases e1 with
    | norm => rw [ihb h fun hm => hk (List.mem_append_right _ hm), ha]
    | exit i => cases h; exact ha
    | ret => cases h; exact ha
  | cond c a b iha ihb =>
    intro s e s' h k hk
    simp only [den] at h
    split at h
    · exact iha h fun hm => hk (List.mem_append_left _ hm)
    · exact ihb h fun hm => hk (List.mem_append_right _ hm)
    · cases h
  | block i c ih =>
    intro s e s' h k hk
    simp only [den] at h
    obtain ⟨⟨e1, s1⟩, h1, h⟩ := Option.bind_eq_some_iff.1 h
    have ha := ih h1 (k := k) hk
    cases e1 with
    | norm => cases h; exact ha
    | ret => cases h; exact ha
    | exit j =>
      simp only at h
      split at h <;> (cases h; exact ha)
  | loop c ih =>
    intro s e s' h k hk
    obtain ⟨n, h0⟩ := den_loop.1 h
    clear h
    revert h0
    induction n generalizing s with
    | zero => intro h; simp [loopN] at h
    | succ n ihn =>
      intro h
      simp only [loopN] at h
      obtain ⟨⟨e1, s1⟩, h1, h⟩ := Option.bind_eq_some_iff.1 h
      have ha := ih h1 (k := k) hk
      cases e1 with
      | norm => exact (ihn h).trans ha
      | exit i => cases h; exact ha
      | ret => cases h; exact ha

/-- a loop that counts up to n, with what it leaves alone -/
theorem Wc_upM {p : Prog} {c : Code} {s0 : S} {Q : Ex → S → Prop} {M : List Nat} (hm : ((mods c).all fun k => M.contains k) = true) (n : Nat) (I : Nat → S → Prop) (i : Nat) (h0 : I i s0)
    (hb : ∀ i s, I i s → (∀ k, k ∉ M → s.σ k = s0.σ k) → ∀ J : S → Prop, (∀ s', i < n → I (i + 1) s' → J s') → Wc p c s (stepK J Q)) : Wc p (.loop c) s0 Q := by
  have hm' : ∀ k, k ∉ M → k ∉ mods c := fun k hk hc => hk (by simpa using List.all_eq_true.1 hm k hc)
  refine Wc_up n (fun i s => I i s ∧ ∀ k, k ∉ M → s.σ k = s0.σ k) i ⟨h0, fun _ _ => rfl⟩ fun i s ⟨hI, hM⟩ => ?_
  obtain ⟨⟨e, s'⟩, h1, hq⟩ := hb i s hI hM (fun s' => i < n ∧ I (i + 1) s') fun s' h1 h2 => ⟨h1, h2⟩
  refine ⟨(e, s'), h1, ?_⟩
  cases e with
  | norm => exact ⟨hq.1, hq.2, fun k hk => (den_mods h1 (hm' k hk)).trans (hM k hk)⟩
  | exit x => exact hq
  | ret => exact hq

/-- a loop that goes down, with what it leaves alone -/
theorem Wc_dnM {p : Prog} {c : Code} {s0 : S} {Q : Ex → S → Prop} {M : List Nat} (hm : ((mods c).all fun k => M.contains k) = true) (I : Nat → S → Prop) (k0 : Nat) (h0 : I k0 s0)
    (hb : ∀ k s, I k s → (∀ k, k ∉ M → s.σ k = s0.σ k) → ∀ J : S → Prop, (∀ j s', j < k → I j s' → J s') → Wc p c s (stepK J Q)) : Wc p (.loop c) s0 Q := by
  have hm' : ∀ k, k ∉ M → k ∉ mods c := fun k hk hc => hk (by simpa using List.all_eq_true.1 hm k hc)
  refine Wc_loop (fun i s => I i s ∧ ∀ k, k ∉ M → s.σ k = s0.σ k) k0 ⟨h0, fun _ _ => rfl⟩ fun i s ⟨hI, hM⟩ => ?_
  obtain ⟨⟨e, s'⟩, h1, hq⟩ := hb i s hI hM (fun s' => ∃ j, j < i ∧ I j s') fun j s' h1 h2 => ⟨j, h1, h2⟩
  refine ⟨(e, s'), h1, ?_⟩
  cases e with
  | norm => exact let ⟨j, h2, h3⟩ := hq; ⟨j, h2, h3, fun k hk => (den_mods h1 (hm' k hk)).trans (hM k hk)⟩
  | exit x => exact hq
  | ret => exact hq
end GL

namespace GL
open Go

end GL

namespace GL
open Go

end GL

/-! GL: data with slices inside. -/
namespace GL
open Go

/-- data in memory: its cells, and the blocks that it lies in -/
class Data (α : Type) where
  sz : Nat
  pos : 0 < sz
  rep : Heap → α → List V → List Nat → Prop
  len : ∀ {h a cs F}, rep h a cs F → cs.length = sz
  ok : ∀ {h a cs F}, rep h a cs F → allCell cs = true
  keeps : ∀ {h h' a cs F}, rep h a cs F → KeepsP (fun b => b ∈ F) h h' → rep h' a cs F
  lt : ∀ {h a cs F b}, rep h a cs F → b ∈ F → ∃ blk, h[b]? = some blk ∧ blk.st ≠ .dead

theorem KeepsP.mono {P Q : Nat → Prop} {h h' : Heap} (hk : KeepsP P h h') (hq : ∀ b, Q b → P b) : KeepsP Q h h' := fun b blk hb => hk b blk (hq b hb)
theorem KeepsP.trans {P : Nat → Prop} {a b c : Heap} (h1 : KeepsP P a b) (h2 : KeepsP P b c) : KeepsP P a c := fun i blk hp h hl => h2 i blk hp (h1 i blk hp h hl) hl
theorem KeepsP.refl (P : Nat → Prop) (h : Heap) : KeepsP P h h := fun _ _ _ h _ => h
theorem Keeps.p {h h' : Heap} (hk : Keeps h h') (P : Nat → Prop) : KeepsP P h h' := fun b blk _ hb hl => hk b blk hb hl

instance flatData {α : Type} [Flat α] : Data α where
  sz := Flat.sz α
  pos := Flat.pos
  rep := fun _ a cs F => cs = Flat.cells a ∧ F = []
  len := by rintro h a cs F ⟨rfl, _⟩; exact Flat.len a
  ok := by rintro h a cs F ⟨rfl, _⟩; exact Flat.ok a
  keeps := fun h _ => h
  lt := by rintro h a cs F b ⟨_, rfl⟩ hb; cases hb

section
variable {α : Type} [Data α]

def Reps (h : Heap) : List α → List V → List Nat → Prop
  | [], cs, F => cs = [] ∧ F = []
  | x :: xs, cs, F => ∃ c r F1 F2, cs = c ++ r ∧ F = F1 ++ F2 ∧ Data.rep h x c F1 ∧ Reps h xs r F2

theorem Reps.nil {h : Heap} : Reps h ([] : List α) [] [] := ⟨rfl, rfl⟩
theorem Reps.one {h : Heap} {x : α} {c : List V} {F : List Nat} (hr : Data.rep h x c F) : Reps h [x] c F := ⟨c, [], F, [], by simp, by simp, hr, .nil⟩
theorem Reps.len {h : Heap} : ∀ {xs : List α} {cs : List V} {F : List Nat}, Reps h xs cs F → cs.length = xs.length * Data.sz α
  | [], cs, F, hr => by simp [hr.1]
  | x :: xs, cs, F, ⟨c, r, F1, F2, e, _, h1, h2⟩ => by
    subst e
    rw [List.length_append, Data.len h1, Reps.len h2, List.length_cons, Nat.add_mul]; omega
theorem Reps.ok {h : Heap} : ∀ {xs : List α} {cs : List V} {F : List Nat}, Reps h xs cs F → allCell cs = true
  | [], cs, F, hr => by rw [hr.1]; rfl
  | x :: xs, cs, F, ⟨c, r, F1, F2, e, _, h1, h2⟩ => by
    subst e
    have a := Data.ok h1
    have b := Reps.ok h2
    simp only [allCell, List.all_append, Bool.and_eq_true] at a b ⊢
    exact ⟨a, b⟩
theorem Reps.keeps {h h' : Heap} : ∀ {xs : List α} {cs : List V} {F : List Nat}, Reps h xs cs F → KeepsP (fun b => b ∈ F) h h' → Reps h' xs cs F
  | [], cs, F, hr, _ => hr
  | x :: xs, cs, F, ⟨c, r, F1, F2, e, f, h1, h2⟩, hk => by
    subst f
    exact ⟨c, r, F1, F2, e, rfl, Data.keeps h1 (hk.mono fun b hb => List.mem_append_left _ hb), Reps.keeps h2 (hk.mono fun b hb => List.mem_append_right _ hb)⟩
theorem Reps.lt {h : Heap} : ∀ {xs : List α} {cs : List V} {F : List Nat} {b : Nat}, Reps h xs cs F → b ∈ F → ∃ blk, h[b]? = some blk ∧ blk.st ≠ .dead
  | [], cs, F, b, hr, hb => by rw [hr.2] at hb; cases hb
  | x :: xs, cs, F, b, ⟨c, r, F1, F2, e, f, h1, h2⟩, hb => by
    subst f
    rcases List.mem_append.1 hb with hb | hb
    · exact Data.lt h1 hb
    · exact Reps.lt h2 hb
theorem Reps.append {h : Heap} : ∀ {xs ys : List α} {cs ds : List V} {F G : List Nat}, Reps h xs cs F → Reps h ys ds G → Reps h (xs ++ ys) (cs ++ ds) (F ++ G)
  | [], ys, cs, ds, F, G, hr, hs => by rw [hr.1, hr.2]; exact hs
  | x :: xs, ys, cs, ds, F, G, ⟨c, r, F1, F2, e, f, h1, h2⟩, hs => ⟨c, r ++ ds, F1, F2 ++ G, by simp [e], by simp [f], h1, Reps.append h2 hs⟩
theorem Reps.split {h : Heap} : ∀ {xs ys : List α} {cs : List V} {F : List Nat}, Reps h (xs ++ ys) cs F → ∃ c1 c2 F1 F2, cs = c1 ++ c2 ∧ F = F1 ++ F2 ∧ Reps h xs c1 F1 ∧ Reps h ys c2 F2
  | [], ys, cs, F, hr => ⟨[], cs, [], F, rfl, rfl, .nil, hr⟩
  | x :: xs, ys, cs, F, ⟨c, r, F1, F2, e, f, h1, h2⟩ => by
    obtain ⟨c1, c2, G1, G2, e2, f2, h3, h4⟩ := Reps.split (xs := xs) h2
    exact ⟨c ++ c1, c2, F1 ++ G1, G2, by simp [e, e2], by simp [f, f2], ⟨c, c1, F1, G1, rfl, rfl, h1, h3⟩, h4⟩
theorem Reps.cut2 {h : Heap} {xs : List α} {cs : List V} {F : List Nat} (hr : Reps h xs cs F) (i : Nat) (hi : i ≤ xs.length) :
    ∃ F1 F2, F = F1 ++ F2 ∧ Reps h (xs.take i) (cs.take (i * Data.sz α)) F1 ∧ Reps h (xs.drop i) (cs.drop (i * Data.sz α)) F2 := by
  rw [← List.take_append_drop i xs] at hr
  obtain ⟨c1, c2, F1, F2, e, f, h1, h2⟩ := hr.split
  have hl := h1.len
  have ht : (xs.take i).length = i := by simp; omega
  rw [ht] at hl
  subst e
  refine ⟨F1, F2, f, ?_, ?_⟩
  · rw [← hl, List.take_left']; exact h1; rfl
  · rw [← hl, List.drop_left']; exact h2; rfl
theorem Reps.get {h : Heap} {xs : List α} {cs : List V} {F : List Nat} (hr : Reps h xs cs F) (i : Nat) (hi : i < xs.length) :
    ∃ F1 F2 F3, F = F1 ++ F2 ++ F3 ∧ Data.rep h xs[i] ((cs.drop (i * Data.sz α)).take (Data.sz α)) F2 ∧ Reps h (xs.take i) (cs.take (i * Data.sz α)) F1 ∧ Reps h (xs.drop (i + 1)) (cs.drop ((i + 1) * Data.sz α)) F3 := by
  obtain ⟨F1, F2, f, h1, h2⟩ := hr.cut2 i (by omega)
  rw [List.drop_eq_getElem_cons hi] at h2
  obtain ⟨c, r, G1, G2, e, g, h3, h4⟩ := h2
  have hl := Data.len h3
  refine ⟨F1, G1, G2, by simp [f, g], ?_, h1, ?_⟩
  · rw [e, ← hl, List.take_left']; exact h3; rfl
  · have : cs.drop ((i + 1) * Data.sz α) = (cs.drop (i * Data.sz α)).drop (Data.sz α) := by rw [List.drop_drop, Nat.add_mul, Nat.one_mul]
    rw [this, e, ← hl, List.drop_left']; exact h4; rfl

/-- a capacity that may be: at least the length, or unknown -/
def capW (k n : Nat) : Cap → Prop
  | .k c => n ≤ c
  | .o k' => k' = k
def capOK (k : Nat) : V → Prop
  | .slice _ _ n cap => capW k n cap
  | _ => True

/-- a slice that holds these, and the blocks that it all lies in -/
def SdF (h : Heap) (v : V) (xs : List α) (F : List Nat) : Prop :=
  xs.length < 2 ^ 63 ∧ ((v = .nils ∧ xs = [] ∧ F = []) ∨ ∃ b off cap, v = .slice b off xs.length cap ∧ capW (Data.sz α) xs.length cap ∧ ((xs = [] ∧ F = []) ∨ ∃ blk cs G, F = b :: G ∧ h[b]? = some blk ∧ blk.st ≠ .dead ∧ cut blk.cells off (xs.length * Data.sz α) = some cs ∧ Reps h xs cs G))

variable {h h' : Heap} {v : V} {xs : List α} {F : List Nat}
theorem SdF.len (hs : SdF h v xs F) : lenV v = some xs.length := by
  rcases hs with ⟨_, ⟨rfl, rfl, _⟩ | ⟨b, off, cap, rfl, _⟩⟩ <;> rfl
theorem SdF.cells (hs : SdF h v xs F) : v.cells = [v] := by
  rcases hs with ⟨_, ⟨rfl, rfl, _⟩ | ⟨b, off, cap, rfl, _⟩⟩ <;> rfl
theorem SdF.cell (hs : SdF h v xs F) : v.cell = true := by
  rcases hs with ⟨_, ⟨rfl, rfl, _⟩ | ⟨b, off, cap, rfl, _⟩⟩ <;> rfl
theorem SdF.bd (hs : SdF h v xs F) : xs.length < 2 ^ 63 := hs.1
theorem SdF.step (hs : SdF h v xs F) {i : Nat} (hi : i < xs.length) : IntKind.i64.wrap ((i : Int) + 1) = i + 1 := by
  have := hs.1
  exact IntWalk.i64_in _ (by omega)
theorem SdF.cap (hs : SdF h v xs F) : capOK (Data.sz α) v := by
  rcases hs with ⟨_, ⟨rfl, _, _⟩ | ⟨b, off, cap, rfl, hc, _⟩⟩
  · trivial
  · exact hc
theorem SdF.nil : SdF h .nils ([] : List α) [] := ⟨by simp, .inl ⟨rfl, rfl, rfl⟩⟩
theorem SdF.idx (hs : SdF h v xs F) (k : Nat) (kd : IntKind) (i : Nat) (hi : i < xs.length) : idxV k v (.int kd i) = some (.ptr (bOf v) (oOf v + i * k)) := by
  rcases hs with ⟨_, ⟨rfl, rfl, _⟩ | ⟨b, off, cap, rfl, _⟩⟩
  · simp at hi
  · simp [idxV, hi, bOf, oOf]
theorem SdF.keeps (hs : SdF h v xs F) (hk : KeepsP (fun b => b ∈ F) h h') : SdF h' v xs F := by
  refine ⟨hs.1, ?_⟩
  rcases hs.2 with hs | ⟨b, off, cap, hv, hc, hs⟩
  · exact .inl hs
  · refine .inr ⟨b, off, cap, hv, hc, ?_⟩
    rcases hs with hs | ⟨blk, cs, G, f, h1, h2, h3, h4⟩
    · exact .inl hs
    · subst f
      exact .inr ⟨blk, cs, G, rfl, hk _ _ (List.mem_cons_self ..) h1 h2, h2, h3, h4.keeps (hk.mono fun b hb => List.mem_cons_of_mem _ hb)⟩
theorem SdF.keep (hs : SdF h v xs F) (hk : Keeps h h') : SdF h' v xs F := hs.keeps (hk.p _)
theorem SdF.lt (hs : SdF h v xs F) {i : Nat} (hi : i ∈ F) : ∃ blk, h[i]? = some blk ∧ blk.st ≠ .dead := by
  rcases hs.2 with ⟨_, _, hs⟩ | ⟨b, off, cap, hv, _, hs⟩
  · rw [hs] at hi; cases hi
  · rcases hs with ⟨_, hs⟩ | ⟨blk, cs, G, f, h1, h2, h3, h4⟩
    · rw [hs] at hi; cases hi
    · subst f
      rcases List.mem_cons.1 hi with rfl | hi
      · exact ⟨blk, h1, h2⟩
      · exact h4.lt hi
/-- an element, where it lies -/
theorem SdF.load (hs : SdF h v xs F) (i : Nat) (hi : i < xs.length) : ∃ cs F1 F2 F3, rdH h (bOf v) (oOf v + i * Data.sz α) (Data.sz α) = some cs ∧ Data.rep h xs[i] cs F2 ∧ F = bOf v :: (F1 ++ F2 ++ F3) := by
  rcases hs with ⟨_, ⟨rfl, rfl, _⟩ | ⟨b, off, cap, rfl, _, hs⟩⟩
  · simp at hi
  · rcases hs with ⟨rfl, _⟩ | ⟨blk, cs, G, f, h1, h2, h3, h4⟩
    · simp at hi
    · obtain ⟨F1, F2, F3, g, h5, _, _⟩ := h4.get i hi
      refine ⟨_, F1, F2, F3, ?_, h5, by rw [f, g]; rfl⟩
      simp only [bOf, oOf, rdH, h1, h2, if_false]
      unfold cut at h3 ⊢
      split at h3
      case isFalse => cases h3
      rename_i hle
      have hb : (i + 1) * Data.sz α ≤ xs.length * Data.sz α := Nat.mul_le_mul_right _ hi
      rw [Nat.add_mul] at hb
      rw [if_pos (by omega)]
      simp only [Option.some.injEq] at h3 ⊢
      rw [← h3, List.drop_take, List.take_take, List.drop_drop]
      congr 1
      omega
/-- a part of a slice -/
theorem SdF.sub (hs : SdF h v xs F) {lo hi : Option Nat} {i j : Nat} (hlo : lo.getD 0 = i) (hhi : hi.getD xs.length = j) (hij : i ≤ j) (hj : j ≤ xs.length) {k : Nat} (hk : k = Data.sz α) :
    ∃ v' F', slcV k v lo hi none = some v' ∧ SdF h v' ((xs.take j).drop i) F' ∧ (∀ b ∈ F', b ∈ F) ∧ (∀ b, vB v' b → vB v b) := by
  subst hk
  have hbd := hs.1
  rcases hs with ⟨_, ⟨rfl, rfl, rfl⟩ | ⟨b, off, cap, rfl, hc, hs⟩⟩
  · simp at hj hhi
    subst hj
    have hi0 : i = 0 := by omega
    subst hi0
    refine ⟨.nils, [], ?_, by simpa using SdF.nil, by simp, fun b h => h⟩
    simp only [slcV, Option.getD_none, hlo, hhi, and_self, if_true]
  · have key : ∀ (off' : Nat) (cap' : Cap), (i < j → off' = off + i * Data.sz α) → capW (Data.sz α) (j - i) cap' →
        ∃ F', SdF h (.slice b off' (j - i) cap') ((xs.take j).drop i) F' ∧ ∀ x ∈ F', x ∈ F := by
      intro off' cap' ho hc'
      have hl : ((xs.take j).drop i).length = j - i := by simp; omega
      by_cases h0 : i < j
      · rcases hs with ⟨rfl, _⟩ | ⟨blk, cs, G, f, h1, h2, h3, h4⟩
        · simp at hj; omega
        · obtain ⟨G1, G2, g, h5, _⟩ := h4.cut2 j hj
          obtain ⟨G3, G4, g', _, h6⟩ := h5.cut2 i (by simp; omega)
          refine ⟨b :: G4, ⟨by rw [hl]; omega, .inr ⟨b, off', cap', by rw [hl], by rw [hl]; exact hc', .inr ⟨blk, _, G4, rfl, h1, h2, ?_, h6⟩⟩⟩, fun x hx => ?_⟩
          · rw [hl, ho h0]
            unfold cut at h3 ⊢
            split at h3
            case isFalse => cases h3
            simp only [Option.some.injEq] at h3
            have b1 : j * Data.sz α ≤ xs.length * Data.sz α := Nat.mul_le_mul_right _ hj
            have b2 : i * Data.sz α + (j - i) * Data.sz α = j * Data.sz α := by rw [← Nat.add_mul]; congr 1; omega
            rw [if_pos (by omega)]
            rw [← h3, List.take_take, List.drop_take, List.drop_drop]
            congr 2
            omega
          · rw [f, g, g']
            rcases List.mem_cons.1 hx with rfl | hx
            · exact List.mem_cons_self ..
            · exact List.mem_cons_of_mem _ (List.mem_append_left _ (List.mem_append_right _ hx))
      · have hnil : (xs.take j).drop i = [] := List.length_eq_zero_iff.1 (by rw [hl]; omega)
        exact ⟨[], ⟨by rw [hl]; omega, .inr ⟨b, off', cap', by rw [hl], by rw [hl]; exact hc', .inl ⟨hnil, rfl⟩⟩⟩, by simp⟩
    cases cap with
    | k c =>
      have hc : xs.length ≤ c := hc
      obtain ⟨F', h1, h2⟩ := key (if c = i then off else off + i * Data.sz α) (.k (c - i)) (fun h => by rw [if_neg (by omega)]) (by show j - i ≤ c - i; omega)
      refine ⟨_, F', ?_, h1, h2, ?_⟩
      · simp only [slcV, hlo, hhi, Option.getD_none]
        rw [if_pos ⟨hij, by omega, Nat.le_refl _⟩]
      · rintro b ⟨_, _, _, e⟩; cases e; exact ⟨_, _, _, rfl⟩
    | o k' =>
      have hc : k' = Data.sz α := hc
      obtain ⟨F', h1, h2⟩ := key (off + i * Data.sz α) (.o (Data.sz α)) (fun _ => rfl) rfl
      refine ⟨_, F', ?_, h1, h2, ?_⟩
      · simp only [slcV, hlo, hhi]
        rw [if_pos ⟨hc, hij, hj⟩]
      · rintro b ⟨_, _, _, e⟩; cases e; exact ⟨_, _, _, rfl⟩
/-- the first ones, all at once -/
theorem SdF.rdS (hs : SdF h v xs F) : ∃ cs G, GL.rdS h (Data.sz α) v xs.length = some cs ∧ Reps h xs cs G ∧ ∀ b ∈ G, b ∈ F := by
  rcases hs with ⟨_, ⟨rfl, rfl, _⟩ | ⟨b, off, cap, rfl, _, hs⟩⟩
  · exact ⟨[], [], by simp [GL.rdS], .nil, by simp⟩
  · rcases hs with ⟨rfl, _⟩ | ⟨blk, cs, G, f, h1, h2, h3, h4⟩
    · exact ⟨[], [], by simp [GL.rdS], .nil, by simp⟩
    · refine ⟨cs, G, ?_, h4, fun b hb => by rw [f]; exact List.mem_cons_of_mem _ hb⟩
      simp only [GL.rdS, Nat.le_refl, if_true]
      split
      · rename_i h0
        have := h4.len
        rw [h0] at this
        rw [List.length_eq_zero_iff.1 this]
      · simp only [rdH, h1, h2, if_false, h3]
end

section
variable {α : Type} [Flat α] {h : Heap} {v : V} {xs : List α} {F : List Nat}
theorem Reps.flat : ∀ {xs : List α} {cs : List V} {F : List Nat}, Reps h xs cs F ↔ cs = flats xs ∧ F = []
  | [], cs, F => by simp [Reps, flats]
  | x :: xs, cs, F => by
    constructor
    · rintro ⟨c, r, F1, F2, rfl, rfl, ⟨rfl, rfl⟩, h2⟩
      obtain ⟨rfl, rfl⟩ := Reps.flat.1 h2
      exact ⟨by simp [flats], rfl⟩
    · rintro ⟨rfl, rfl⟩
      exact ⟨Flat.cells x, flats xs, [], [], by simp [flats], rfl, ⟨rfl, rfl⟩, Reps.flat.2 ⟨rfl, rfl⟩⟩
theorem SdF.sl (hs : SdF h v xs F) : Sl h v xs := by
  refine ⟨hs.1, ?_⟩
  rcases hs.2 with hs | ⟨b, off, cap, hv, _, hs⟩
  · exact .inl ⟨hs.1, hs.2.1⟩
  · refine .inr ⟨b, off, cap, hv, ?_⟩
    rcases hs with ⟨hs, _⟩ | ⟨blk, cs, G, f, h1, h2, h3, h4⟩
    · exact .inl hs
    · exact .inr ⟨blk, h1, h2, by rw [(Reps.flat.1 h4).1] at h3; exact h3⟩
theorem Sl.sdF (hs : Sl h v xs) (hc : capOK (Flat.sz α) v) : ∃ F, SdF h v xs F ∧ (∀ b ∈ F, b = bOf v ∧ vB v b) ∧ F.length ≤ 1 := by
  rcases hs with ⟨hb, ⟨rfl, rfl⟩ | ⟨b, off, cap, rfl, hs⟩⟩
  · exact ⟨[], .nil, by simp, by simp⟩
  · rcases hs with rfl | ⟨blk, h1, h2, h3⟩
    · exact ⟨[], ⟨hb, .inr ⟨b, off, cap, rfl, hc, .inl ⟨rfl, rfl⟩⟩⟩, by simp, by simp⟩
    · exact ⟨[b], ⟨hb, .inr ⟨b, off, cap, rfl, hc, .inr ⟨blk, _, [], rfl, h1, h2, h3, Reps.flat.2 ⟨rfl, rfl⟩⟩⟩⟩, by simp [bOf, vB], by simp⟩
end

instance listData {α : Type} [Data α] : Data (List α) where
  sz := 1
  pos := by decide
  rep := fun h xs cs F => ∃ v, cs = [v] ∧ SdF h v xs F
  len := by rintro h a cs F ⟨v, rfl, _⟩; rfl
  ok := by rintro h a cs F ⟨v, rfl, hs⟩; simp [allCell, hs.cell]
  keeps := by rintro h h' a cs F ⟨v, rfl, hs⟩ hk; exact ⟨v, rfl, hs.keeps hk⟩
  lt := by rintro h a cs F b ⟨v, rfl, hs⟩ hb; exact hs.lt hb

section
variable {α : Type} [Data α] {h : Heap} {v : V} {xs : List α} {lo : Nat} {F : List Nat}
/-- a list that this very call has made, and may make longer -/
def Od (lo : Nat) (h : Heap) (v : V) (xs : List α) (F : List Nat) : Prop :=
  xs.length < 2 ^ 40 ∧ lo ≤ h.length ∧ ((v = .nils ∧ xs = [] ∧ F = []) ∨ (∃ b cs, v = .slice b 0 xs.length (.o (Data.sz α)) ∧ h[b]? = some ⟨.own, cs⟩ ∧ lo ≤ b ∧ Reps h xs cs F ∧ b ∉ F) ∨ ∃ b, v = .slice b 0 0 (.k 0) ∧ xs = [] ∧ F = [] ∧ lo ≤ b ∧ b < h.length)

theorem Od.nil (hl : lo ≤ h.length) : Od lo h .nils ([] : List α) [] := ⟨by simp, hl, .inl ⟨rfl, rfl, rfl⟩⟩
theorem Od.empty {b : Nat} (hl : lo ≤ b) (hb : b < h.length) : Od lo h (.slice b 0 0 (.k 0)) ([] : List α) [] := ⟨by simp, by omega, .inr (.inr ⟨b, rfl, rfl, rfl, hl, hb⟩)⟩
theorem Od.sd (ho : Od lo h v xs F) : ∃ F', SdF h v xs F' ∧ (F' = F ∨ (F' = bOf v :: F ∧ vB v (bOf v) ∧ bOf v ∉ F ∧ ∃ cs, h[bOf v]? = some ⟨.own, cs⟩)) := by
  obtain ⟨h1, _, ⟨rfl, rfl, rfl⟩ | ⟨b, cs, rfl, hb, _, hr, hn⟩ | ⟨b, rfl, rfl, rfl, _⟩⟩ := ho
  · exact ⟨[], .nil, .inl rfl⟩
  · refine ⟨b :: F, ⟨by omega, .inr ⟨b, 0, _, rfl, rfl, .inr ⟨_, cs, F, rfl, hb, by simp, ?_, hr⟩⟩⟩, .inr ⟨rfl, ⟨_, _, _, rfl⟩, hn, cs, hb⟩⟩
    simp only [cut, hr.len, Nat.zero_add, Nat.le_refl, if_true, List.drop_zero]
    rw [← hr.len, List.take_length]
  · exact ⟨[], ⟨by simp, .inr ⟨b, 0, _, rfl, Nat.le_refl _, .inl ⟨rfl, rfl⟩⟩⟩, .inl rfl⟩
theorem Od.keeps {h' : Heap} (ho : Od lo h v xs F) {P : Nat → Prop} (hk : KeepsP P h h') (hp : ∀ i, vB v i → P i) (hF : ∀ i ∈ F, P i) (hl : h.length ≤ h'.length) : Od lo h' v xs F := by
  obtain ⟨h1, h2, ⟨rfl, rfl, rfl⟩ | ⟨b, cs, rfl, hb, h3, hr, hn⟩ | ⟨b, rfl, rfl, rfl, h3, h4⟩⟩ := ho
  · exact ⟨h1, by omega, .inl ⟨rfl, rfl, rfl⟩⟩
  · exact ⟨h1, by omega, .inr (.inl ⟨b, cs, rfl, hk _ _ (hp b ⟨_, _, _, rfl⟩) hb (by simp), h3, hr.keeps (hk.mono hF), hn⟩)⟩
  · exact ⟨h1, by omega, .inr (.inr ⟨b, rfl, rfl, rfl, h3, by omega⟩)⟩
theorem Od.ge (ho : Od lo h v xs F) {i : Nat} (hi : vB v i) : lo ≤ i ∧ i < h.length := by
  obtain ⟨h1, h2, ⟨rfl, rfl, rfl⟩ | ⟨b, cs, rfl, hb, h3, hr, hn⟩ | ⟨b, rfl, rfl, rfl, h3, h4⟩⟩ := ho
  · obtain ⟨_, _, _, e⟩ := hi; cases e
  · obtain ⟨_, _, _, e⟩ := hi; cases e; exact ⟨h3, get_lt hb⟩
  · obtain ⟨_, _, _, e⟩ := hi; cases e; exact ⟨h3, h4⟩

theorem Od.app (ho : Od lo h v xs F) {zs : List α} {ys : List V} {G : List Nat} (hz : 0 < zs.length) (hr : Reps h zs ys G) (hG : ∀ b ∈ G, ¬ vB v b) {bytes : Nat} (hb : bytes ≤ 2 ^ 8) (hl : xs.length + zs.length ≤ 2 ^ 30) {k n : Nat} (hk : k = Data.sz α) (hn : n = zs.length) :
    ∃ v' h', appH k bytes v n ys h = some (v', h') ∧ Od lo h' v' (xs ++ zs) (F ++ G) ∧ KeepsP (fun i => ¬ vB v i) h h' ∧ h.length < h'.length ∧ (∀ i, vB v' i → i = h.length) := by
  subst hk; subst hn
  have hk0 := Data.pos (α := α)
  have hbb : (xs.length + zs.length) * bytes ≤ 2 ^ 30 * 2 ^ 8 := Nat.mul_le_mul hl hb
  have hGl : ∀ b ∈ G, b < h.length := fun b hb => by obtain ⟨blk, h1, _⟩ := hr.lt hb; exact get_lt h1
  obtain ⟨h1, h2, ⟨rfl, rfl, rfl⟩ | ⟨b, cs, rfl, hb2, h3, hr0, hn0⟩ | ⟨b, rfl, rfl, rfl, h3, h4⟩⟩ := ho
  · have hk : KeepsP (fun i => ¬ vB .nils i) h (h ++ [⟨.own, ys⟩]) := fun i blk _ hi hl => Keeps.append h _ i blk hi hl
    refine ⟨.slice h.length 0 zs.length (.o (Data.sz α)), h ++ [⟨.own, ys⟩], ?_, ⟨by simp at hl ⊢; omega, by simp; omega, .inr (.inl ⟨h.length, ys, by simp, by simp, h2, ?_, ?_⟩)⟩, hk, by simp, fun i hi => ?_⟩
    · simp only [List.length_nil, Nat.zero_add] at hbb hl
      simp only [appH, Nat.ne_of_gt hz, if_false]
      rw [if_pos ⟨by unfold room; omega, by unfold room; omega⟩]
    · simpa using hr.keeps (hk.mono hG)
    · simp only [List.nil_append]; intro h9; exact absurd (hGl _ h9) (by omega)
    · obtain ⟨_, _, _, e⟩ := hi; cases e; rfl
  · have hlen := hr0.len
    have hF : ∀ i ∈ F, ¬ vB (.slice b 0 xs.length (.o (Data.sz α))) i := fun i hi ⟨_, _, _, e⟩ => by cases e; exact hn0 hi
    have hFl : ∀ i ∈ F, i < h.length := fun i hi => by obtain ⟨blk, h1, _⟩ := hr0.lt hi; exact get_lt h1
    have hk : KeepsP (fun i => ¬ vB (.slice b 0 xs.length (.o (Data.sz α))) i) h (h.set b ⟨.dead, cs⟩ ++ [⟨.own, cs ++ ys⟩]) := fun i blk hi hb3 hl => by
      have hne : i ≠ b := fun e => hi ⟨_, _, _, by rw [e]⟩
      rw [List.getElem?_append_left (by simp; exact get_lt hb3), List.getElem?_set_ne (Ne.symm hne)]
      exact hb3
    refine ⟨.slice h.length 0 (xs.length + zs.length) (.o (Data.sz α)), h.set b ⟨.dead, cs⟩ ++ [⟨.own, cs ++ ys⟩], ?_, ⟨by simp; omega, by simp; omega, .inr (.inl ⟨h.length, cs ++ ys, by simp, by simp, h2, (hr0.keeps (hk.mono hF)).append (hr.keeps (hk.mono hG)), ?_⟩)⟩, hk, by simp, fun i hi => ?_⟩
    · have hgt : ¬ (0 + (xs.length + zs.length) * Data.sz α ≤ cs.length) := by
        rw [hlen, Nat.add_mul]
        have : 0 < zs.length * Data.sz α := Nat.mul_pos hz hk0
        omega
      have hcut : cut cs 0 (xs.length * Data.sz α) = some cs := by
        simp only [cut, hlen, Nat.zero_add, Nat.le_refl, if_true, List.drop_zero]
        rw [← hlen, List.take_length]
      simp only [appH, Nat.ne_of_gt hz, if_false, hb2, hk0, and_self, if_true, hgt, hcut, Option.bind_some]
      rw [if_pos ⟨by unfold room; omega, by unfold room; omega⟩]
    · intro h9
      rcases List.mem_append.1 h9 with h9 | h9
      · exact absurd (hFl _ h9) (by omega)
      · exact absurd (hGl _ h9) (by omega)
    · obtain ⟨_, _, _, e⟩ := hi; cases e; rfl
  · have hk : KeepsP (fun i => ¬ vB (.slice b 0 0 (.k 0)) i) h (h ++ [⟨.own, ys⟩]) := fun i blk _ hi hl => Keeps.append h _ i blk hi hl
    refine ⟨.slice h.length 0 zs.length (.o (Data.sz α)), h ++ [⟨.own, ys⟩], ?_, ⟨by simp at hl ⊢; omega, by simp; omega, .inr (.inl ⟨h.length, ys, by simp, by simp, h2, ?_, ?_⟩)⟩, hk, by simp, fun i hi => ?_⟩
    · simp only [List.length_nil, Nat.zero_add] at hbb hl
      have hgt : ¬ (0 + zs.length ≤ 0) := by omega
      simp only [appH, Nat.ne_of_gt hz, if_false, hgt]
      rw [if_pos ⟨by unfold room; rw [Nat.zero_add]; omega, by unfold room; omega⟩]
      simp [rdS]
    · simpa using hr.keeps (hk.mono hG)
    · simp only [List.nil_append]; intro h9; exact absurd (hGl _ h9) (by omega)
    · obtain ⟨_, _, _, e⟩ := hi; cases e; rfl
end
end GL

namespace GL
open Go

end GL

/-! the draws' frame: a cursor at the first new block, and all older blocks az they were -/
namespace GL
open Go

structure DC (h0 h : Heap) (N : Nat) : Prop where
  cur : Cur h h0.length N
  keep : Keeps h0 h

theorem DC.start {h : Heap} {v : V} {bs : List Byte} (hs : Sl h v bs) : DC h (h ++ [⟨.own, [v, vi 0, .int .u64 0]⟩]) 0 := ⟨drawTwo hs, Keeps.append h _⟩
theorem DC.mono {h0 h : Heap} {N M : Nat} (d : DC h0 h N) (hn : N ≤ M) : DC h0 h M := ⟨d.cur.mono hn, d.keep⟩
theorem DC.lt {h0 h : Heap} {N : Nat} (d : DC h0 h N) : h0.length < h.length := d.cur.lt
theorem DC.lit {h0 h : Heap} {N : Nat} (d : DC h0 h N) (l : Heap) : DC h0 (h ++ l) N := ⟨d.cur.keeps (Keeps.append h l), d.keep.trans (Keeps.append h l)⟩
theorem DC.keeps {h0 h h' : Heap} {N : Nat} (d : DC h0 h N) (hk : Keeps h h') : DC h0 h' N := ⟨d.cur.keeps hk, d.keep.trans hk⟩
/-- whatever is done to newer blocks -/
theorem DC.far {h0 h h' : Heap} {N : Nat} (d : DC h0 h N) {P : Nat → Prop} (hk : KeepsP P h h') (hp : ∀ i, i ≤ h0.length → P i) : DC h0 h' N :=
  ⟨d.cur.keepsP hk hp, Keeps.far (n := h0.length) d.keep hk (Nat.le_refl _) fun i hi => hp i (by omega)⟩
theorem DC.out {h0 h h' : Heap} {N : Nat} {α : Type} [Flat α] {v : V} {xs : List α} (d : DC h0 h N) (ho : Out (h0.length + 1) h v xs) (hk : KeepsP (fun i => ¬ vB v i) h h') : DC h0 h' N :=
  d.far hk fun i hi hv => by have := (ho.ge hv).1; omega
theorem DC.but {h0 h h' : Heap} {N M : Nat} (d : DC h0 h N) (hc : Cur h' h0.length M) (hk : KeepsBut h0.length h h') : DC h0 h' M :=
  ⟨hc, KeepsBut.keeps d.keep (Nat.le_refl _) hk⟩

theorem DC.next {h0 h : Heap} {N : Nat} (d : DC h0 h N) (hN : N < 2 ^ 62) : ∃ (x : Nat) (h' : Heap), call p 140 [.ptr h0.length 0] h = some (vi x, h') ∧ x ≤ 255 ∧ DC h0 h' (N + 1) ∧ KeepsBut h0.length h h' ∧ h'.length = h.length := by
  obtain ⟨_, h', e, x, rfl, hx, c, k, l⟩ := next_ok d.cur hN
  exact ⟨x, h', e, hx, d.but c k, k, l⟩
theorem DC.pick {h0 h : Heap} {N : Nat} (d : DC h0 h N) (hN : N < 2 ^ 61) (n : Int) (hn : 0 ≤ n ∧ n < 2 ^ 40) : ∃ (x : Nat) (h' : Heap), call p 91 [.ptr h0.length 0, vi n] h = some (vi x, h') ∧ (x : Int) < max n 1 ∧ DC h0 h' (N + 2) ∧ KeepsBut h0.length h h' ∧ h'.length = h.length := by
  obtain ⟨m, rfl⟩ := Int.eq_ofNat_of_zero_le hn.1
  obtain ⟨_, h', e, x, rfl, hx, c, k, l⟩ := pick_ok (n := m) d.cur hN (by omega)
  exact ⟨x, h', e, by omega, d.but c k, k, l⟩
theorem DC.one {h0 h : Heap} {N : Nat} (d : DC h0 h N) (hN : N < 2 ^ 61) (n : Int) (hn : 0 ≤ n ∧ n < 2 ^ 40) : ∃ (b : Bool) (h' : Heap), call p 92 [.ptr h0.length 0, vi n] h = some (.bool b, h') ∧ DC h0 h' (N + 2) ∧ KeepsBut h0.length h h' ∧ h'.length = h.length := by
  obtain ⟨m, rfl⟩ := Int.eq_ofNat_of_zero_le hn.1
  obtain ⟨_, h', e, b, rfl, c, k, l⟩ := one_ok (n := m) d.cur hN (by omega)
  exact ⟨b, h', e, d.but c k, k, l⟩
theorem DC.among {h0 h : Heap} {N : Nat} (d : DC h0 h N) (hN : N < 2 ^ 61) {v : V} {xs : List Int} (hs : Sl h v xs) (hb : bOf v ≠ h0.length) (h1 : 0 < xs.length) (hn : xs.length < 2 ^ 40) :
    ∃ (x : Int) (h' : Heap), call p 93 [.ptr h0.length 0, v] h = some (vi x, h') ∧ x ∈ xs ∧ DC h0 h' (N + 2) ∧ KeepsBut h0.length h h' ∧ h'.length = h.length := by
  obtain ⟨_, h', e, x, hx, rfl, c, k, l⟩ := among_ok d.cur hN hs hb h1 hn
  exact ⟨x, h', e, hx, d.but c k, k, l⟩
/-- one of some that stand there -/
theorem DC.amongL {h0 h : Heap} {N : Nat} (d : DC h0 h N) (hN : N < 2 ^ 61) (xs : List Int) (n : Nat) (hn : n = xs.length) (cs : List V) (hc : cs = flats xs) (cap : Cap) (h1 : 0 < xs.length) (h2 : xs.length < 2 ^ 40) :
    ∃ (x : Int) (h' : Heap), call p 93 [.ptr h0.length 0, .slice h.length 0 n cap] (h ++ [⟨.own, cs⟩]) = some (vi x, h') ∧ x ∈ xs ∧ DC h0 h' (N + 2) ∧ KeepsBut h0.length h h' ∧ h.length ≤ h'.length := by
  have := d.lt
  obtain ⟨x, h', e, hx, d', k, l⟩ := (d.lit [⟨.own, cs⟩]).among hN (Sl.lit xs n hn cs hc cap (by omega)) (by simp [bOf]; omega) h1 h2
  exact ⟨x, h', e, hx, d', (KeepsBut.lit _).trans k, by simp at l; omega⟩
end GL

namespace GL
open Go

theorem Out.cap {lo : Nat} {h : Heap} {v : V} {α : Type} [Flat α] {xs : List α} (ho : Out lo h v xs) : capOK (Flat.sz α) v := by
  obtain ⟨h1, _, ⟨rfl, rfl⟩ | ⟨b, rfl, hb, _⟩ | ⟨b, rfl, rfl, _⟩⟩ := ho
  · trivial
  · rfl
  · exact Nat.le_refl _

theorem KeepsBut.far {c : Nat} {g h h' : Heap} {P : Nat → Prop} (h1 : KeepsBut c g h) (hk : KeepsP P h h') (hp : ∀ i, i < g.length → i ≠ c → P i) : KeepsBut c g h' := fun i blk hc hi hl =>
  hk i blk (hp i (get_lt hi) hc) (h1 i blk hc hi hl) hl

/-- one more, in a draw -/
theorem Out.draw {α : Type} [Flat α] {h0 h g : Heap} {N lo : Nat} {v : V} {xs : List α} (d : DC h0 h N) (kb : KeepsBut h0.length g h) (ho : Out lo h v xs) (hlo : g.length ≤ lo) (hc : h0.length < lo) (x : α) (hx : xs.length ≤ 2 ^ 20)
    {k bytes : Nat} {cs : List V} (hk : k = Flat.sz α) (hb : bytes ≤ 2 ^ 8) (hcs : cs = Flat.cells x) :
    ∃ v' h', appH k bytes v 1 cs (h ++ [⟨.own, cs⟩]) = some (v', h') ∧ Out lo h' v' (xs ++ [x]) ∧ DC h0 h' N ∧ KeepsBut h0.length g h' ∧ h.length ≤ h'.length := by
  have o3 : Out lo (h ++ [⟨.own, cs⟩]) v xs := (Keeps.append h _).out ho (by simp)
  obtain ⟨v', h', e4, o4, k4, l4, b4⟩ := o3.app [x] (by simp) (bytes := bytes) hb (by simp; omega) (k := k) hk (n := 1) rfl (ys := cs) (by simp [flats, hcs])
  refine ⟨v', h', e4, o4, (d.lit _).far k4 fun i hi hv => ?_, (kb.trans (KeepsBut.lit _)).far k4 fun i hi _ hv => ?_, by simp at l4; omega⟩
  · have := (o3.ge hv).1; omega
  · have := (o3.ge hv).1; omega

end GL

/-! GL: lists of one's own, nested ones too, that are written in place. -/
namespace GL
open Go

def OwnB (h : Heap) (b : Nat) : Prop := ∃ cs, h[b]? = some ⟨.own, cs⟩

theorem OwnB.set {h : Heap} {b c : Nat} {cs : List V} (ho : OwnB h c) (hb : b < h.length) : OwnB (h.set b ⟨.own, cs⟩) c := by
  obtain ⟨ds, hd⟩ := ho
  by_cases e : c = b
  · subst e; exact ⟨cs, by simp [hb]⟩
  · exact ⟨ds, by rw [List.getElem?_set_ne (Ne.symm e)]; exact hd⟩
theorem OwnB.keeps {P : Nat → Prop} {h h' : Heap} {b : Nat} (ho : OwnB h b) (hk : KeepsP P h h') (hp : P b) : OwnB h' b := by
  obtain ⟨ds, hd⟩ := ho
  exact ⟨ds, hk b _ hp hd (by simp)⟩

theorem layLen {cs ys cs' : List V} {o : Nat} (h : lay cs o ys = some cs') : cs'.length = cs.length ∧ o + ys.length ≤ cs.length := by
  unfold lay at h
  split at h
  · cases h; refine ⟨?_, by assumption⟩; simp; omega
  · cases h
theorem layMid {a c b ys c' : List V} {o : Nat} (h : lay c o ys = some c') : lay (a ++ c ++ b) (a.length + o) ys = some (a ++ c' ++ b) := by
  unfold lay at h ⊢
  split at h
  · rename_i hl
    cases h
    rw [if_pos (by simp; omega)]
    simp only [Option.some.injEq]
    have e1 : (a ++ c ++ b).take (a.length + o) = a ++ c.take o := by
      rw [List.append_assoc, List.take_append, List.take_of_length_le (by omega), Nat.add_sub_cancel_left, List.take_append]
      rw [show o - c.length = 0 by omega]; simp
    have e2 : (a ++ c ++ b).drop (a.length + o + ys.length) = c.drop (o + ys.length) ++ b := by
      rw [List.append_assoc, Nat.add_assoc, List.drop_append, List.drop_of_length_le (by omega), Nat.add_sub_cancel_left, List.drop_append]
      rw [show o + ys.length - c.length = 0 by omega]; simp
    rw [e1, e2]; simp
  · cases h

section
variable {α : Type} [Data α] {h : Heap} {v : V} {xs : List α} {F : List Nat}
theorem SdF.put (hs : SdF h v xs F) (hn : F.Nodup) (ho : OwnB h (bOf v)) {i : Nat} (hi : i < xs.length) {x' : α} {o : Nat} {ys : List V}
    (hx : ∀ cs G, Data.rep h xs[i] cs G → (∀ c ∈ G, c ∈ F ∧ c ≠ bOf v) → ∃ cs', lay cs o ys = some cs' ∧ ∀ h', KeepsP (fun b => b ∈ G) h h' → Data.rep h' x' cs' G) :
    ∃ h', wrH h (bOf v) (oOf v + i * Data.sz α + o) ys = some h' ∧ SdF h' v (xs.set i x') F ∧ KeepsP (fun b => b ≠ bOf v) h h' ∧ h'.length = h.length ∧ ∀ b, OwnB h b → OwnB h' b := by
  have hlen0 := hs.1
  rcases hs with ⟨_, ⟨rfl, rfl, _⟩ | ⟨b, off, cap, rfl, hcap, hs⟩⟩
  · simp at hi
  · rcases hs with ⟨rfl, _⟩ | ⟨blk, cs, G, rfl, h1, h2, h3, h4⟩
    · simp at hi
    · obtain ⟨ds, hd⟩ := ho
      simp only [bOf, oOf] at hd ⊢
      rw [hd] at h1; cases h1
      have hbG : ∀ c ∈ G, c ≠ b := fun c hc e => by subst e; exact (List.nodup_cons.1 hn).1 hc
      obtain ⟨F1, F2, F3, rfl, r2, r1, r3⟩ := h4.get i hi
      obtain ⟨c', hl, hr⟩ := hx _ F2 r2 fun c hc => ⟨List.mem_cons_of_mem _ (by simp [hc]), by exact hbG c (by simp [hc])⟩
      have hcl := h4.len
      have hle : (i + 1) * Data.sz α ≤ xs.length * Data.sz α := Nat.mul_le_mul_right _ hi
      have hs1 : (i + 1) * Data.sz α = i * Data.sz α + Data.sz α := by rw [Nat.add_mul, Nat.one_mul]
      -- the cells that the slice holds, in three
      have hcs : cs = cs.take (i * Data.sz α) ++ (cs.drop (i * Data.sz α)).take (Data.sz α) ++ cs.drop ((i + 1) * Data.sz α) := by
        rw [hs1, ← List.drop_drop, List.append_assoc, List.take_append_drop, List.take_append_drop]
      unfold cut at h3
      split at h3
      case isFalse => cases h3
      rename_i hle2
      simp only at hle2
      simp only [Option.some.injEq] at h3
      have hds : ds = ds.take off ++ cs ++ ds.drop (off + xs.length * Data.sz α) := by
        rw [← h3, ← List.drop_drop, List.append_assoc, List.take_append_drop, List.take_append_drop]
      have hol : (ds.take off).length = off := by simp; omega
      have htl : (cs.take (i * Data.sz α)).length = i * Data.sz α := by simp; omega
      have hl2 := layMid (a := cs.take (i * Data.sz α)) (b := cs.drop ((i + 1) * Data.sz α)) hl
      rw [← hcs, htl] at hl2
      have hl3 := layMid (a := ds.take off) (b := ds.drop (off + xs.length * Data.sz α)) hl2
      rw [← hds, hol] at hl3
      have hb := get_lt hd
      have hk : KeepsP (fun c => c ≠ b) h (h.set b ⟨.own, ds.take off ++ (cs.take (i * Data.sz α) ++ c' ++ cs.drop ((i + 1) * Data.sz α)) ++ ds.drop (off + xs.length * Data.sz α)⟩) := fun c blk hc hb2 _ => by
        rw [List.getElem?_set_ne (Ne.symm hc)]; exact hb2
      refine ⟨_, by rw [wrH_at hd rfl, Nat.add_assoc, hl3]; rfl, ⟨by simpa using hlen0, .inr ⟨b, off, cap, by simp, by simpa using hcap, .inr ⟨⟨.own, ds.take off ++ (cs.take (i * Data.sz α) ++ c' ++ cs.drop ((i + 1) * Data.sz α)) ++ ds.drop (off + xs.length * Data.sz α)⟩, cs.take (i * Data.sz α) ++ c' ++ cs.drop ((i + 1) * Data.sz α), _, rfl, by simp [hb], by simp, ?_, ?_⟩⟩⟩, hk, by simp, fun c hc => hc.set hb⟩
      · have hll := (layLen hl2).1
        simp only [cut, List.length_set]
        rw [if_pos (by simp only [List.length_append] at hll ⊢; rw [hol, hll]; simp; omega)]
        rw [List.append_assoc, List.drop_append_of_le_length (by omega), List.drop_of_length_le (by omega), List.nil_append, List.take_append_of_le_length (by rw [hll]; omega), List.take_of_length_le (by rw [hll]; omega)]
      · have hset : xs.set i x' = xs.take i ++ [x'] ++ xs.drop (i + 1) := by
          rw [List.set_eq_take_append_cons_drop, if_pos hi]; simp
        rw [hset]
        refine ((r1.keeps (hk.mono fun c hc => ?_)).append (.one (hr _ (hk.mono fun c hc => ?_)))).append (r3.keeps (hk.mono fun c hc => ?_))
        · exact hbG c (by simp [hc])
        · exact hbG c (by simp [hc])
        · exact hbG c (by simp [hc])
end
/-- flat data -/
theorem SdF.putF {α : Type} [Flat α] {h : Heap} {v : V} {xs : List α} {F : List Nat} (hs : SdF h v xs F) (ho : OwnB h (bOf v)) {i : Nat} (hi : i < xs.length) {x' : α} {o : Nat} {ys : List V} (hx : lay (Flat.cells xs[i]) o ys = some (Flat.cells x')) :
    ∃ h', wrH h (bOf v) (oOf v + i * Flat.sz α + o) ys = some h' ∧ SdF h' v (xs.set i x') F ∧ KeepsP (fun b => b ≠ bOf v) h h' ∧ h'.length = h.length ∧ ∀ b, OwnB h b → OwnB h' b := by
  have hn : F.Nodup := by
    rcases hs with ⟨_, ⟨rfl, rfl, rfl⟩ | ⟨b, off, cap, rfl, _, ⟨_, rfl⟩ | ⟨blk, cs, G, rfl, _, _, _, hr⟩⟩⟩
    · exact List.nodup_nil
    · exact List.nodup_nil
    · rw [(Reps.flat.1 hr).2]; simp
  refine hs.put hn ho hi fun cs G hr _ => ?_
  obtain ⟨rfl, rfl⟩ := hr
  exact ⟨_, hx, fun _ _ => ⟨rfl, rfl⟩⟩
/-- where a flat list lies -/
theorem SdF.flatF {α : Type} [Flat α] {h : Heap} {v : V} {xs : List α} {F : List Nat} (hs : SdF h v xs F) : (∀ b ∈ F, b = bOf v) ∧ F.Nodup ∧ (xs ≠ [] → F = [bOf v]) := by
  rcases hs with ⟨_, ⟨rfl, rfl, rfl⟩ | ⟨b, off, cap, rfl, _, ⟨rfl, rfl⟩ | ⟨blk, cs, G, rfl, _, _, _, hr⟩⟩⟩
  · simp
  · simp
  · rw [(Reps.flat.1 hr).2]; simp [bOf]
end GL

/-! GL: what comes in: numbers, structs and slices of them, from the reading of the model. -/
namespace GL
open Go

def AgH (h : Heap) (b0 : Nat) (ss : List (Blk × Option At)) : Prop := ∀ i s, ss[i]? = some s → h[b0 + i]? = some s.1
def AgR (ρ : Rho) (b0 : Nat) (ss : List (Blk × Option At)) : Prop := ∀ i s, ss[i]? = some s → ρ (b0 + i) = s.2

theorem AgH.left {h : Heap} {b0 : Nat} {l r : List (Blk × Option At)} (ha : AgH h b0 (l ++ r)) : AgH h b0 l := fun i s hs =>
  ha i s (by rw [List.getElem?_append_left (by obtain ⟨hl, _⟩ := List.getElem?_eq_some_iff.1 hs; exact hl)]; exact hs)
theorem AgH.right {h : Heap} {b0 : Nat} {l r : List (Blk × Option At)} (ha : AgH h b0 (l ++ r)) : AgH h (b0 + l.length) r := fun i s hs => by
  rw [Nat.add_assoc]
  exact ha (l.length + i) s (by rw [List.getElem?_append_right (by omega), Nat.add_sub_cancel_left]; exact hs)
theorem AgR.left {h : Rho} {b0 : Nat} {l r : List (Blk × Option At)} (ha : AgR h b0 (l ++ r)) : AgR h b0 l := fun i s hs =>
  ha i s (by rw [List.getElem?_append_left (by obtain ⟨hl, _⟩ := List.getElem?_eq_some_iff.1 hs; exact hl)]; exact hs)
theorem AgR.right {h : Rho} {b0 : Nat} {l r : List (Blk × Option At)} (ha : AgR h b0 (l ++ r)) : AgR h (b0 + l.length) r := fun i s hs => by
  rw [Nat.add_assoc]
  exact ha (l.length + i) s (by rw [List.getElem?_append_right (by omega), Nat.add_sub_cancel_left]; exact hs)

/-- a block that is only read, az it lies in memory -/
def SideR (fid : Nat → FuncId) (ρ : Rho) (w : World) (s : Blk × Option At) : Prop :=
  s.1.st ≠ .own ∧ (s.1.st ≠ .dead → allCell s.1.cells = true ∧ ∃ a, s.2 = some a ∧ a.cb < w.heap.size ∧ ∀ (i : Nat) (v : V), s.1.cells[i]? = some v → ∃ x, w.cell? ⟨a.cb, a.co + i, none⟩ = some x ∧ RV fid ρ v x)

/-- cells that came in, az data, with the blocks that they lead to -/
def Opened {α : Type} [Data α] (w : World) (b0 : Nat) (vs : List V) (ss : List (Blk × Option At)) (x : α) (F : List Nat) (cs : List Value) : Prop :=
  (∀ h : Heap, AgH h b0 ss → Data.rep h x vs F) ∧ (∀ b ∈ F, b0 ≤ b ∧ b < b0 + ss.length) ∧
    ∀ (fid : Nat → FuncId) (ρ : Rho), AgR ρ b0 ss → RVs fid ρ vs cs ∧ ∀ s ∈ ss, SideR fid ρ w s

def OpenedL {α : Type} [Data α] (w : World) (b0 : Nat) (vs : List V) (ss : List (Blk × Option At)) (xs : List α) (F : List Nat) (cs : List Value) : Prop :=
  (∀ h : Heap, AgH h b0 ss → Reps h xs vs F) ∧ (∀ b ∈ F, b0 ≤ b ∧ b < b0 + ss.length) ∧
    ∀ (fid : Nat → FuncId) (ρ : Rho), AgR ρ b0 ss → RVs fid ρ vs cs ∧ ∀ s ∈ ss, SideR fid ρ w s

theorem RVs.app {fid : Nat → FuncId} {ρ : Rho} : ∀ {a b : List V} {c d : List Value}, RVs fid ρ a c → RVs fid ρ b d → RVs fid ρ (a ++ b) (c ++ d)
  | [], _, _, _, .nil, h => h
  | _ :: _, _, _, _, .cons h1 h2, h => .cons h1 (RVs.app h2 h)

/-- a type of the program's that is read az such data -/
class ArgT (P : Program) (t : TypeId) (α : Type) [Data α] : Prop where
  opens : ∀ {H : Type} {enc : TypeId × Value → H} {w : World} {fuel : Nat} {cs : List Value} {d : DataW H} {ps : List MemPlace},
    DataW.trod enc P w 0 (fun _ => true) true fuel t cs = some (d, ps) → ∀ b0, ∃ (vs : List V) (ss : List (Blk × Option At)) (x : α) (F : List Nat), Opened w b0 vs ss x F cs

theorem ArgT.int {P : Program} {t : TypeId} (h : P.underlying t = some (.int .i64)) : ArgT P t Int := ⟨fun {H enc w fuel cs d ps} ht b0 => by
  obtain ⟨n, rfl, _⟩ := DataW.trod_int h ht
  exact ⟨[vi n], [], n, [], fun _ _ => ⟨rfl, rfl⟩, by simp, fun fid ρ _ => ⟨.cons (.int _ _) .nil, by simp⟩⟩⟩
theorem ArgT.bool {P : Program} {t : TypeId} (h : P.underlying t = some .bool) : ArgT P t Bool := ⟨fun {H enc w fuel cs d ps} ht b0 => by
  obtain ⟨n, rfl, _⟩ := DataW.trod_bool h ht
  exact ⟨[.bool n], [], n, [], fun _ _ => ⟨rfl, rfl⟩, by simp, fun fid ρ _ => ⟨.cons (.bool _) .nil, by simp⟩⟩⟩

theorem mapM_get {α β : Type} {f : α → Option β} : ∀ {l : List α} {r : List β}, l.mapM f = some r → r.length = l.length ∧ ∀ i (hi : i < l.length) (hr : i < r.length), f l[i] = some r[i]
  | [], r, h => by simp at h; subst h; simp
  | x :: l, r, h => by
    rw [List.mapM_cons] at h
    simp only [bind, pure] at h
    obtain ⟨y, h1, h⟩ := Option.bind_eq_some_iff.1 h
    obtain ⟨ys, h2, h⟩ := Option.bind_eq_some_iff.1 h
    cases h
    obtain ⟨e, k⟩ := mapM_get h2
    refine ⟨by simp [e], fun i hi hr => ?_⟩
    cases i with
    | zero => exact h1
    | succ i => exact k i (by simpa using hi) (by simpa using hr)

theorem cell_spot {w : World} {a : Addr} {v : Value} (h : w.cell? a = some v) : a.spot = none ∧ a.block < w.heap.size := by
  simp only [World.cell?] at h
  split at h
  · rename_i cs T fr hob
    split at h
    · cases h
    · rename_i hsp
      exact ⟨by simpa using hsp, lt_heap hob⟩
  · cases h

/-- these values stand there in a row -/
def Row (w : World) (cb co : Nat) (cs : List Value) : Prop := ∀ i y, cs[i]? = some y → w.cell? ⟨cb, co + i, none⟩ = some y
theorem Row.app {w : World} {cb co : Nat} {a b : List Value} (h1 : Row w cb co a) (h2 : Row w cb (co + a.length) b) : Row w cb co (a ++ b) := fun i y hy => by
  rcases Nat.lt_or_ge i a.length with hi | hi
  · rw [List.getElem?_append_left hi] at hy; exact h1 i y hy
  · rw [List.getElem?_append_right hi] at hy
    have := h2 (i - a.length) y hy
    rwa [show co + a.length + (i - a.length) = co + i by omega] at this

theorem cells_row {w : World} {cb co n : Nat} {cs : List Value} (h : w.cells? 0 ⟨cb, co, none⟩ n = some cs) : cs.length = n ∧ Row w cb co cs := by
  simp only [World.cells?, Nat.zero_le, if_true] at h
  obtain ⟨e, k⟩ := mapM_get h
  simp at e
  refine ⟨e, fun i y hy => ?_⟩
  obtain ⟨hi, rfl⟩ := List.getElem?_eq_some_iff.1 hy
  have := k i (by simpa [e] using hi) hi
  rw [List.getElem_range, add_mk] at this
  exact this

section
variable {P : Program} {e : TypeId} {α : Type} [Data α] [A : ArgT P e α] {H : Type} {enc : TypeId × Value → H} {w : World} {fuel : Nat}

theorem opensL {k : Nat} (cb : Nat) : ∀ (css : List (List Value)) (co b0 : Nat), (∀ i (hi : i < css.length), w.cells? 0 ⟨cb, co + i * k, none⟩ k = some css[i] ∧ ∃ d ps, DataW.trod enc P w 0 (fun _ => true) true fuel e css[i] = some (d, ps)) →
    ∃ (vs : List V) (ss : List (Blk × Option At)) (xs : List α) (F : List Nat), xs.length = css.length ∧ OpenedL w b0 vs ss xs F css.flatten ∧ Row w cb co css.flatten
  | [], co, b0, _ => ⟨[], [], [], [], rfl, ⟨fun _ _ => .nil, by simp, fun _ _ _ => ⟨.nil, by simp⟩⟩, by intro i y h; simp at h⟩
  | c :: css, co, b0, hall => by
    obtain ⟨hc, d, ps, ht⟩ := hall 0 (by simp)
    simp only [Nat.zero_mul, Nat.add_zero, List.getElem_cons_zero] at hc ht
    obtain ⟨vs, ss, x, F, o1, o2, o3⟩ := A.opens ht b0
    obtain ⟨hl, hrow⟩ := cells_row hc
    obtain ⟨vs', ss', xs', F', hx, ⟨q1, q2, q3⟩, hrow'⟩ := opensL cb css (co + k) (b0 + ss.length) fun i hi => by
      have := hall (i + 1) (by simpa using hi)
      rw [show co + (i + 1) * k = co + k + i * k by rw [Nat.add_mul]; omega] at this
      simpa using this
    refine ⟨vs ++ vs', ss ++ ss', x :: xs', F ++ F', by simp [hx], ⟨fun h ha => ⟨vs, vs', F, F', rfl, rfl, o1 h ha.left, q1 h ha.right⟩, fun b hb => ?_, fun fid ρ ha => ?_⟩, ?_⟩
    · rcases List.mem_append.1 hb with hb | hb
      · have := o2 b hb; simp; omega
      · have := q2 b hb; simp; omega
    · obtain ⟨r1, r2⟩ := o3 fid ρ ha.left
      obtain ⟨r3, r4⟩ := q3 fid ρ ha.right
      refine ⟨by rw [List.flatten_cons]; exact r1.app r3, fun s hs => ?_⟩
      rcases List.mem_append.1 hs with hs | hs
      · exact r2 s hs
      · exact r4 s hs
    · rw [List.flatten_cons]
      exact hrow.app (by rw [hl]; exact hrow')

theorem ArgT.list {t : TypeId} (h : P.underlying t = some (.slice e)) (hsz : P.cellsOf e = Data.sz α) : ArgT P t (List α) := ⟨fun {H enc w fuel cs d ps} ht b0 => by
  rcases DataW.trod_slice h ht with ⟨rfl, _⟩ | ⟨a, len, cap, els, rest, f, rfl, rfl, _, _, hlc, hcm, le, ke, kr, _⟩
  · exact ⟨[.nils], [], [], [], fun _ _ => ⟨.nils, rfl, .nil⟩, by simp, fun fid ρ _ => ⟨.cons .nils .nil, by simp⟩⟩
  · have lr := (kr rfl).1
    replace kr := (kr rfl).2
    have hml : cap < 2 ^ 63 := by unfold maxLen at hcm; omega
    have hpos := Data.pos (α := α)
    by_cases h0 : cap = 0
    · subst h0
      have : len = 0 := by omega
      subst this
      refine ⟨[.slice b0 0 0 (.k 0)], [(deadBlk, some ⟨0, 0, 0⟩)], [], [], fun _ _ => ⟨_, rfl, by simp, .inr ⟨b0, 0, _, rfl, Nat.le_refl _, .inl ⟨rfl, rfl⟩⟩⟩, by simp, fun fid ρ hρ => ⟨.cons ?_ .nil, fun s hs => ?_⟩⟩
      · exact .slice (hρ 0 _ rfl) (Nat.le_refl _) (fun c0 h => by cases h; rfl) (fun k h => by cases h) (fun h => absurd rfl h)
      · simp at hs; subst hs
        exact ⟨by simp [deadBlk], fun h => absurd rfl h⟩
    · -- the cells of each element, the spare ones too
      have key : ∀ i, i < cap → ∃ c d ps, w.cells? 0 (a.add (i * P.cellsOf e)) (P.cellsOf e) = some c ∧ DataW.trod enc P w 0 (fun _ => true) true f e c = some (d, ps) := fun i hi => by
        rcases Nat.lt_or_ge i len with hi' | hi'
        · have := ke i hi'
          rw [List.getElem?_eq_getElem (by omega)] at this
          obtain ⟨c, h1, h2⟩ := Option.bind_eq_some_iff.1 this
          exact ⟨c, _, _, h1, h2⟩
        · have := kr (i - len) (by omega)
          rw [List.getElem?_eq_getElem (by omega)] at this
          obtain ⟨c, h1, h2⟩ := Option.bind_eq_some_iff.1 this
          rw [show len + (i - len) = i by omega] at h1
          exact ⟨c, _, _, h1, h2⟩
      obtain ⟨bk, off, spot⟩ := a
      have hspot : spot = none ∧ bk < w.heap.size := by
        obtain ⟨c, _, _, h1, _⟩ := key 0 (by omega)
        simp only [World.cells?, Nat.zero_le, if_true] at h1
        obtain ⟨l1, k1⟩ := mapM_get h1
        have := k1 0 (by simp; omega) (by simp at l1; omega)
        simp only [Nat.zero_mul, List.getElem_range, Addr.add, if_true] at this
        exact cell_spot this
      obtain ⟨rfl, hbk⟩ := hspot
      have hcss : ∃ css : List (List Value), css.length = cap ∧ ∀ i (hi : i < css.length), w.cells? 0 ⟨bk, off + i * Data.sz α, none⟩ (Data.sz α) = some css[i] ∧ ∃ d ps, DataW.trod enc P w 0 (fun _ => true) true f e css[i] = some (d, ps) := by
        rw [hsz] at key
        clear ht ke kr le lr h0 hlc hcm hml
        have : ∀ n, n ≤ cap → ∃ css : List (List Value), css.length = n ∧ ∀ i (hi : i < css.length), w.cells? 0 ⟨bk, off + i * Data.sz α, none⟩ (Data.sz α) = some css[i] ∧ ∃ d ps, DataW.trod enc P w 0 (fun _ => true) true f e css[i] = some (d, ps) := by
          intro n
          induction n with
          | zero => exact fun _ => ⟨[], rfl, fun i hi => by simp at hi⟩
          | succ n ih =>
            intro hn
            obtain ⟨css, hl, hc⟩ := ih (by omega)
            obtain ⟨c, d, ps, h1, h2⟩ := key n (by omega)
            rw [add_mk] at h1
            refine ⟨css ++ [c], by simp [hl], fun i hi => ?_⟩
            simp [hl] at hi
            by_cases hin : i < css.length
            · rw [List.getElem_append_left hin]; exact hc i hin
            · have : i = n := by omega
              subst this
              have e1 : (css ++ [c])[i]'(by simp [hl]) = c := by simp [hl]
              rw [e1]; exact ⟨h1, d, ps, h2⟩
        exact this cap (Nat.le_refl _)
      obtain ⟨css, hcl, hcs⟩ := hcss
      obtain ⟨vs, ss, xs, F, hx, ⟨o1, o2, o3⟩, hrow⟩ := opensL (P := P) (α := α) bk css off (b0 + 1) hcs
      have hxl : xs.length = cap := by omega
      have hsub : (xs.take len).length = len := by simp; omega
      have hF : ∀ h : Heap, AgH h (b0 + 1) ss → ∃ F1, (∀ b ∈ F1, b ∈ F) ∧ Reps h (xs.take len) (vs.take (len * Data.sz α)) F1 := fun h ha => by
        obtain ⟨F1, F2, f, h1, _⟩ := (o1 h ha).cut2 len (by omega)
        exact ⟨F1, fun b hb => by rw [f]; exact List.mem_append_left _ hb, h1⟩
      -- the blocks of the first ones are the same in any memory
      obtain ⟨F1, hF1, hR1⟩ : ∃ F1, (∀ b ∈ F1, b ∈ F) ∧ ∀ h : Heap, AgH h (b0 + 1) ss → Reps h (xs.take len) (vs.take (len * Data.sz α)) F1 := by
        let hh : Heap := List.replicate (b0 + 1) deadBlk ++ ss.map (·.1)
        have ha : AgH hh (b0 + 1) ss := fun i s hs => by
          show (List.replicate (b0 + 1) deadBlk ++ ss.map (·.1))[b0 + 1 + i]? = _
          rw [List.getElem?_append_right (by simp)]
          simp [hs]
        obtain ⟨F1, f1, r1⟩ := hF hh ha
        refine ⟨F1, f1, fun h ha' => r1.keeps fun b blk hb hbk hl => ?_⟩
        obtain ⟨g1, g2⟩ := o2 b (f1 b hb)
        obtain ⟨i, rfl⟩ : ∃ i, b = b0 + 1 + i := ⟨b - (b0 + 1), by omega⟩
        have hi : i < ss.length := by omega
        have e1 := ha i _ (List.getElem?_eq_getElem hi)
        have e2 := ha' i _ (List.getElem?_eq_getElem hi)
        rw [e1] at hbk; cases hbk; exact e2
      refine ⟨[.slice b0 0 len (.k cap)], (⟨.ro, vs⟩, some ⟨bk, off, cap * Data.sz α⟩) :: ss, xs.take len, b0 :: F1, fun h ha => ⟨_, rfl, by rw [hsub]; omega, .inr ⟨b0, 0, .k cap, by rw [hsub], by rw [hsub]; exact hlc, .inr ⟨⟨.ro, vs⟩, _, F1, rfl, ha 0 _ rfl, by simp, ?_, hR1 h ?_⟩⟩⟩, fun b hb => ?_, fun fid ρ ha => ?_⟩
      · rw [hsub]
        have hv : ∀ h : Heap, AgH h (b0 + 1) ss → vs.length = cap * Data.sz α := fun h ha => by rw [(o1 h ha).len, hxl]
        have hvl := hv h fun i s hs => by
          have := ha (i + 1) s (by simpa using hs)
          rwa [show b0 + (i + 1) = b0 + 1 + i by omega] at this
        have : len * Data.sz α ≤ cap * Data.sz α := Nat.mul_le_mul_right _ hlc
        simp only [cut, Nat.zero_add, List.drop_zero]
        rw [if_pos (by omega)]
      · intro i s hs
        have := ha (i + 1) s (by simpa using hs)
        rwa [show b0 + (i + 1) = b0 + 1 + i by omega] at this
      · rcases List.mem_cons.1 hb with rfl | hb
        · simp
        · have := o2 b (hF1 b hb); simp; omega
      · have ha' : AgR ρ (b0 + 1) ss := fun i s hs => by
          have := ha (i + 1) s (by simpa using hs)
          rwa [show b0 + (i + 1) = b0 + 1 + i by omega] at this
        obtain ⟨r1, r2⟩ := o3 fid ρ ha'
        refine ⟨.cons (.slice (ha 0 _ rfl) hlc (fun c0 h => by cases h; rfl) (fun k h => by cases h) fun _ => rfl) .nil, fun s hs => ?_⟩
        rcases List.mem_cons.1 hs with rfl | hs
        · refine ⟨by simp, fun _ => ⟨?_, ⟨bk, off, cap * Data.sz α⟩, rfl, hbk, fun i v hv => ?_⟩⟩
          · have hh : AgH (List.replicate (b0 + 1) deadBlk ++ ss.map (·.1)) (b0 + 1) ss := fun i s hs => by
              rw [List.getElem?_append_right (by simp)]
              simp [hs]
            exact (o1 _ hh).ok
          · obtain ⟨y, hy, hv'⟩ := r1.get hv
            exact ⟨y, hrow i y hy, hv'⟩
        · exact r2 s hs⟩
end
end GL

/-! GL: a law's call, from whatever comes in. -/
namespace GL
open Go

instance pairData {α β : Type} [Data α] [Data β] : Data (α × β) where
  sz := Data.sz α + Data.sz β
  pos := Nat.lt_of_lt_of_le (Data.pos (α := α)) (Nat.le_add_right _ _)
  rep := fun h x cs F => ∃ c d F1 F2, cs = c ++ d ∧ F = F1 ++ F2 ∧ Data.rep h x.1 c F1 ∧ Data.rep h x.2 d F2
  len := by rintro h a cs F ⟨c, d, F1, F2, rfl, rfl, h1, h2⟩; rw [List.length_append, Data.len h1, Data.len h2]
  ok := by
    rintro h a cs F ⟨c, d, F1, F2, rfl, rfl, h1, h2⟩
    have a := Data.ok h1
    have b := Data.ok h2
    simp only [allCell, List.all_append, Bool.and_eq_true] at a b ⊢
    exact ⟨a, b⟩
  keeps := by
    rintro h h' a cs F ⟨c, d, F1, F2, rfl, rfl, h1, h2⟩ hk
    exact ⟨c, d, F1, F2, rfl, rfl, Data.keeps h1 (hk.mono fun b hb => List.mem_append_left _ hb), Data.keeps h2 (hk.mono fun b hb => List.mem_append_right _ hb)⟩
  lt := by
    rintro h a cs F b ⟨c, d, F1, F2, rfl, rfl, h1, h2⟩ hb
    rcases List.mem_append.1 hb with hb | hb
    · exact Data.lt h1 hb
    · exact Data.lt h2 hb

theorem Opened.pair {α β : Type} [Data α] [Data β] {w : World} {b0 : Nat} {vs vs' : List V} {ss ss' : List (Blk × Option At)} {x : α} {y : β} {F F' : List Nat} {cs cs' : List Value}
    (o : Opened w b0 vs ss x F cs) (q : Opened w (b0 + ss.length) vs' ss' y F' cs') : Opened w b0 (vs ++ vs') (ss ++ ss') (x, y) (F ++ F') (cs ++ cs') := by
  obtain ⟨o1, o2, o3⟩ := o
  obtain ⟨q1, q2, q3⟩ := q
  refine ⟨fun h ha => ⟨vs, vs', F, F', rfl, rfl, o1 h ha.left, q1 h ha.right⟩, fun b hb => ?_, fun fid ρ ha => ?_⟩
  · rcases List.mem_append.1 hb with hb | hb
    · have := o2 b hb; simp; omega
    · have := q2 b hb; simp; omega
  · obtain ⟨r1, r2⟩ := o3 fid ρ ha.left
    obtain ⟨r3, r4⟩ := q3 fid ρ ha.right
    refine ⟨r1.app r3, fun s hs => ?_⟩
    rcases List.mem_append.1 hs with hs | hs
    · exact r2 s hs
    · exact r4 s hs
theorem Opened.map {α β : Type} [Data α] [Data β] {w : World} {b0 : Nat} {vs : List V} {ss : List (Blk × Option At)} {x : α} {F : List Nat} {cs : List Value} (f : α → β) (hf : ∀ h a cs F, Data.rep h a cs F → Data.rep h (f a) cs F)
    (o : Opened w b0 vs ss x F cs) : Opened w b0 vs ss (f x) F cs := ⟨fun h ha => hf _ _ _ _ (o.1 h ha), o.2⟩

/-- the fields from here on -/
def OpensF (P : Program) (fs : List Field) (off tot : Nat) (α : Type) [Data α] : Prop :=
  ∀ {H : Type} {enc : TypeId × Value → H} {w : World} {n : Nat} {cs : List Value}, cs.length = tot → (∀ f ∈ fs, ∃ y, DataW.trod enc P w 0 (fun _ => true) true n f.type ((cs.drop f.offset).take (P.cellsOf f.type)) = some y) →
    ∀ b0, ∃ (vs : List V) (ss : List (Blk × Option At)) (x : α) (F : List Nat), Opened w b0 vs ss x F (cs.drop off)

theorem OpensF.last {P : Program} {f : Field} {off tot : Nat} {α : Type} [Data α] (A : ArgT P f.type α) (h1 : f.offset = off) (h2 : off + P.cellsOf f.type = tot) : OpensF P [f] off tot α := fun {H enc w n cs} hl hf b0 => by
  obtain ⟨⟨d, ps⟩, hy⟩ := hf f (List.mem_cons_self ..)
  rw [h1, List.take_of_length_le (by simp; omega)] at hy
  exact A.opens hy b0
theorem OpensF.cons {P : Program} {f : Field} {fs : List Field} {off tot : Nat} {α β : Type} [Data α] [Data β] (A : ArgT P f.type α) (h1 : f.offset = off) (hr : OpensF P fs (off + P.cellsOf f.type) tot β) : OpensF P (f :: fs) off tot (α × β) := fun {H enc w n cs} hl hf b0 => by
  obtain ⟨⟨d, ps⟩, hy⟩ := hf f (List.mem_cons_self ..)
  rw [h1] at hy
  obtain ⟨vs, ss, x, F, o⟩ := A.opens hy b0
  obtain ⟨vs', ss', x', F', o'⟩ := hr hl (fun g hg => hf g (List.mem_cons_of_mem _ hg)) (b0 + ss.length)
  refine ⟨vs ++ vs', ss ++ ss', (x, x'), F ++ F', ?_⟩
  have := o.pair o'
  rwa [← List.drop_drop, List.take_append_drop] at this
/-- one argument -/
def ArgIn {α : Type} [Data α] (w : World) (b0 : Nat) (x : V) (ss : List (Blk × Option At)) (a : α) (F : List Nat) (agg : Bool) (v : Value) : Prop :=
  (∀ h : Heap, AgH h b0 ss → ∃ vs, x = (if agg = true then .agg vs else vs.headD .nils) ∧ (agg = false → vs = [x]) ∧ Data.rep h a vs F) ∧ (∀ b ∈ F, b0 ≤ b ∧ b < b0 + ss.length) ∧
    ∀ (fid : Nat → FuncId) (ρ : Rho), AgR ρ b0 ss → RV fid ρ x v ∧ ∀ s ∈ ss, SideR fid ρ w s

/-- all arguments -/
inductive ArgsIn (w : World) : Nat → List V → List (Blk × Option At) → List Value → Prop
  | nil {b0 : Nat} : ArgsIn w b0 [] [] []
  | cons {α : Type} [Data α] {b0 : Nat} {x : V} {ss ss' : List (Blk × Option At)} {a : α} {F : List Nat} {agg : Bool} {v : Value} {xs : List V} {vs : List Value} :
      ArgIn w b0 x ss a F agg v → ArgsIn w (b0 + ss.length) xs ss' vs → ArgsIn w b0 (x :: xs) (ss ++ ss') (v :: vs)

theorem ArgsIn.out {w : World} {b0 : Nat} {xs : List V} {ss : List (Blk × Option At)} {vs : List Value} (h : ArgsIn w b0 xs ss vs) (fid : Nat → FuncId) (ρ : Rho) (ha : AgR ρ b0 ss) : RVs fid ρ xs vs ∧ ∀ s ∈ ss, SideR fid ρ w s := by
  induction h with
  | nil => exact ⟨.nil, by simp⟩
  | cons h1 _ ih =>
    obtain ⟨_, _, h3⟩ := h1
    obtain ⟨r1, r2⟩ := h3 fid ρ ha.left
    obtain ⟨r3, r4⟩ := ih ha.right
    refine ⟨.cons r1 r3, fun s hs => ?_⟩
    rcases List.mem_append.1 hs with hs | hs
    · exact r2 s hs
    · exact r4 s hs

/-- what an argument is, at the start -/
theorem ArgIn.at {α : Type} [Data α] {w : World} {x : V} {l m r : List (Blk × Option At)} {a : α} {F : List Nat} {agg : Bool} {v : Value} (h : ArgIn w l.length x m a F agg v) :
    ∃ vs, x = (if agg = true then .agg vs else vs.headD .nils) ∧ (agg = false → vs = [x]) ∧ Data.rep (sideH (l ++ m ++ r)) a vs F := h.1 _ fun i s hs => by
  show (List.map (·.1) (l ++ m ++ r))[l.length + i]? = _
  have hi := (List.getElem?_eq_some_iff.1 hs).1
  rw [List.getElem?_map, List.append_assoc, List.getElem?_append_right (by omega), Nat.add_sub_cancel_left, List.getElem?_append_left hi, hs]
  rfl
end GL

namespace GL
open Go

theorem mem_take_succ {α : Type} {l : List α} {i : Nat} (hi : i < l.length) {x : α} : x ∈ l.take (i + 1) ↔ x ∈ l.take i ∨ x = l[i] := by
  rw [List.take_succ_eq_append_getElem hi, List.mem_append, List.mem_singleton]
theorem all_take_succ {α : Type} {l : List α} {i : Nat} (hi : i < l.length) {P : α → Prop} : (∀ x ∈ l.take (i + 1), P x) ↔ (∀ x ∈ l.take i, P x) ∧ P l[i] := by
  constructor
  · exact fun h => ⟨fun x hx => h x ((mem_take_succ hi).2 (.inl hx)), h _ ((mem_take_succ hi).2 (.inr rfl))⟩
  · rintro ⟨h1, h2⟩ x hx
    rcases (mem_take_succ hi).1 hx with hx | rfl
    · exact h1 x hx
    · exact h2

/-- blocks of one's own, made just now -/
structure Fresh (lo : Nat) (h : Heap) (F : List Nat) : Prop where
  nodup : F.Nodup
  ge : ∀ b ∈ F, lo ≤ b
  own : ∀ b ∈ F, OwnB h b
theorem Fresh.nil {lo : Nat} {h : Heap} : Fresh lo h [] := ⟨List.nodup_nil, by simp, by simp⟩
theorem Fresh.keeps {lo : Nat} {h h' : Heap} {F : List Nat} (hf : Fresh lo h F) (hk : KeepsP (fun b => b ∈ F) h h') : Fresh lo h' F := ⟨hf.nodup, hf.ge, fun b hb => (hf.own b hb).keeps hk hb⟩
theorem Fresh.mono {lo lo' : Nat} {h : Heap} {F : List Nat} (hf : Fresh lo h F) (hl : lo' ≤ lo) : Fresh lo' h F := ⟨hf.nodup, fun b hb => Nat.le_trans hl (hf.ge b hb), hf.own⟩
theorem OwnB.lt {h : Heap} {b : Nat} (ho : OwnB h b) : b < h.length := by obtain ⟨_, h1⟩ := ho; exact get_lt h1
theorem Fresh.app {lo : Nat} {h h' : Heap} {F G : List Nat} (hf : Fresh lo h F) (hg : Fresh h.length h' G) (hk : Keeps h h') (hl : lo ≤ h.length) : Fresh lo h' (F ++ G) := by
  have hf' := hf.keeps (hk.p _)
  refine ⟨List.nodup_append.2 ⟨hf.nodup, hg.nodup, fun a ha b hb e => ?_⟩, fun b hb => ?_, fun b hb => ?_⟩
  · have := (hf.own a ha).lt
    have := hg.ge b hb
    omega
  · rcases List.mem_append.1 hb with hb | hb
    · exact hf.ge b hb
    · have := hg.ge b hb; omega
  · rcases List.mem_append.1 hb with hb | hb
    · exact hf'.own b hb
    · exact hg.own b hb

end GL

namespace GL
open Go

structure Cm where
  parts : List Int
  heard : List Int
  word : Int

/-- a commit's value -/
def CmV (h : Heap) (v : V) (c : Cm) (F : List Nat) : Prop := ∃ x y F1 F2, v = .agg [x, y, vi c.word] ∧ F = F1 ++ F2 ∧ SdF h x c.parts F1 ∧ SdF h y c.heard F2

theorem indexI_eq {h : Heap} {v : V} {xs : List Int} (hs : Sl h v xs) (n : Int) : ∃ k : Int, call p 390 [v, vi n] h = some (vi k, h) ∧ (0 ≤ k ↔ n ∈ xs) := by
  have : ∃ r h', call p 390 [v, vi n] h = some (r, h') ∧ ∃ k : Int, r = vi k ∧ h' = h ∧ (0 ≤ k ↔ n ∈ xs) := by
    refine go (fn := g390) rfl rfl fun R hR => ?_
    simp [g390, hs.len]
    refine Wc_upM (M := [4, 5, 8, 9, 10, 11, 12, 13, 14, 15, 16, 17, 18]) rfl xs.length (fun i s => s.σ 8 = .v (vi i) ∧ s.h = h ∧ n ∉ xs.take i) 0 (by simp) fun i s ⟨g8, gh, hall⟩ hM J hJ => ?_
    by_cases hn : i < xs.length
    · by_cases he : n = xs[i]
      · simp [g390_0, hM, g8, gh, hn, hs.idx, hs.loadI, he]
        exact hR _ _ ⟨i, rfl, rfl, by simp [he]⟩
      · simp [g390_0, hM, g8, gh, hn, hs.idx, hs.loadI, he, hs.step hn]
        exact hJ _ hn ⟨by simp, rfl, by rw [mem_take_succ hn]; rintro (h | h); exact hall h; exact he h⟩
    · rw [List.take_of_length_le (by omega)] at hall
      simp [g390_0, hM, g8, gh, hn]
      exact hR _ _ ⟨-1, rfl, rfl, by simpa using hall⟩
  obtain ⟨_, _, e, k, rfl, rfl, hk⟩ := this
  exact ⟨k, e, hk⟩
theorem containsI_eq {h : Heap} {v : V} {xs : List Int} (hs : Sl h v xs) (n : Int) : call p 301 [v, vi n] h = some (.bool (decide (n ∈ xs)), h) := by
  obtain ⟨k, e, hk⟩ := indexI_eq hs n
  refine go_eq (fn := g301) rfl rfl fun R hR => ?_
  simp [g301, e, hk]
  exact hR
theorem l1Has_eq {h : Heap} {v : V} {xs : List Int} (hs : Sl h v xs) (n : Int) : call p 302 [v, vi n] h = some (.bool (decide (n ∈ xs)), h) := by
  refine go_eq (fn := g302) rfl rfl fun R hR => ?_
  simp [g302, hs.len]
  refine Wc_upM (M := [4, 6, 9, 10, 11, 12, 13, 14, 15, 16]) rfl xs.length (fun i s => s.σ 9 = .v (vi i) ∧ s.h = h ∧ n ∉ xs.take i) 0 (by simp) fun i s ⟨g9, gh, hall⟩ hM J hJ => ?_
  by_cases hn : i < xs.length
  · by_cases he : xs[i] = n
    · have : n ∈ xs := by rw [← he]; simp
      simp [g302_0, hM, g9, gh, hn, hs.idx, hs.loadI, he]
      simpa [this] using hR
    · simp [g302_0, hM, g9, gh, hn, hs.idx, hs.loadI, he, hs.step hn]
      exact hJ _ hn ⟨by simp, rfl, by rw [mem_take_succ hn]; rintro (h | h); exact hall h; exact he h.symm⟩
  · rw [List.take_of_length_le (by omega)] at hall
    simp [g302_0, hM, g9, gh, hn]
    simpa [hall] using hR

def okP (w no p h : Int) : Prop :=
  (0 ≤ p ∧ p ≤ 3) ∧ (0 ≤ h ∧ h ≤ 2) ∧ ¬ (h = 1 ∧ p = 0) ∧ ¬ (h = 2 ∧ p ≠ 3) ∧ ¬ (p = 2 ∧ w ≠ 1) ∧ ¬ (w = 1 ∧ h ≠ 1) ∧ ¬ (p = 3 ∧ w ≠ 2 ∧ ¬ (w = 0 ∧ no = 1))
instance (w no p h : Int) : Decidable (okP w no p h) := by unfold okP; infer_instance
end GL

namespace GL
open Go

/-- all of a list, laid anew -/
theorem appNew {α : Type} [Flat α] {h : Heap} {v : V} {xs : List α} (hs : Sl h v xs) (hl : xs.length ≤ 2 ^ 20) {k bytes : Nat} (hk : k = Flat.sz α) (hb : bytes ≤ 2 ^ 8) :
    rdS (h ++ [⟨.own, []⟩]) k v xs.length = some (flats xs) ∧ ∃ r h', appH k bytes (.slice h.length 0 0 (.k 0)) xs.length (flats xs) (h ++ [⟨.own, []⟩]) = some (r, h') ∧ ∃ F, SdF h' r xs F ∧ Fresh h.length h' F ∧ Keeps h h' ∧ h.length ≤ h'.length := by
  have hs' := hs.keeps (Keeps.append h [⟨.own, []⟩])
  have e1 := hs'.rdS xs.length (Nat.le_refl _)
  rw [List.take_length] at e1
  refine ⟨by rw [hk]; exact e1, ?_⟩
  by_cases h0 : xs.length = 0
  · have : xs = [] := List.length_eq_zero_iff.1 h0
    subst this
    exact ⟨.slice h.length 0 0 (.k 0), h ++ [⟨.own, []⟩], by simp [appH, lenV], [], ⟨by simp, .inr ⟨h.length, 0, .k 0, rfl, Nat.le_refl _, .inl ⟨rfl, rfl⟩⟩⟩, Fresh.nil, Keeps.append h _, by simp⟩
  · have ho : Out h.length (h ++ [⟨.own, []⟩]) (.slice h.length 0 0 (.k 0)) ([] : List α) := Out.empty (Nat.le_refl _) (by simp)
    obtain ⟨r, h', e, o', k', l', b'⟩ := ho.app xs (by omega) hb (by simp; omega) hk rfl rfl
    simp only [List.nil_append] at o'
    have hlen : h.length < h'.length := by simp at l'; omega
    obtain ⟨F, hF, hF2, hF3⟩ := o'.sl.sdF o'.cap
    refine ⟨r, h', e, F, hF, ⟨hF.flatF.2.1, fun b hb => ?_, fun b hb => ?_⟩, Keeps.far (n := h.length) (Keeps.append h _) k' (Nat.le_refl _) fun i hi ⟨_, _, _, e⟩ => by cases e; omega, by omega⟩
    · exact (o'.ge (hF2 b hb).2).1
    · obtain ⟨_, _, ⟨rfl, rfl⟩ | ⟨b1, rfl, hb1, _⟩ | ⟨b1, rfl, rfl, _⟩⟩ := o'
      · simp at h0
      · have := (hF2 b hb).1; simp [bOf] at this; subst this; exact ⟨_, hb1⟩
      · simp at h0

theorem cloneI_ok {h : Heap} {v : V} {xs : List Int} (hs : Sl h v xs) (hl : xs.length ≤ 2 ^ 20) : ∃ r h', call p 389 [v] h = some (r, h') ∧ ∃ F, SdF h' r xs F ∧ Fresh h.length h' F ∧ Keeps h h' ∧ h.length ≤ h'.length := by
  refine go (fn := g389) rfl rfl fun R hR => ?_
  obtain ⟨e1, r, h', e2, F, q1, q2, q3, q4⟩ := appNew hs hl (k := 1) (bytes := 8) rfl (by decide)
  have hlen := hs.len
  rcases hs with ⟨_, ⟨rfl, rfl⟩ | ⟨b, off, cap, rfl, _⟩⟩
  · simp [g389]
    exact hR _ _ ⟨[], SdF.nil, Fresh.nil, Keeps.refl _, Nat.le_refl _⟩
  · simp [g389, fillL, e1, e2]
    exact hR _ _ ⟨F, q1, q2, q3, q4⟩

end GL

/-! GL: nested lists of one's own: an element is written, or what it leads to. -/
namespace GL
open Go
section
variable {α : Type} [Data α] {h : Heap} {v : V} {xs : List α} {F : List Nat}

end
end GL

namespace GL
open Go

structure Rw where
  key : Int
  cols : List Val
instance rwData : Data Rw where
  sz := 2
  pos := by decide
  rep := fun h r cs F => ∃ x, cs = [vi r.key, x] ∧ SdF h x r.cols F
  len := by rintro h a cs F ⟨x, rfl, _⟩; rfl
  ok := by rintro h a cs F ⟨x, rfl, h1⟩; simp [allCell, h1.cell, cell_int]
  keeps := by rintro h h' a cs F ⟨x, rfl, h1⟩ hk; exact ⟨x, rfl, h1.keeps hk⟩
  lt := by rintro h a cs F b ⟨x, rfl, h1⟩ hb; exact h1.lt hb
section
variable {h : Heap} {v : V} {xs : List Rw} {F : List Nat}
end

theorem Fresh.sub {lo lo' : Nat} {h : Heap} {F G : List Nat} (hn : F.Nodup) (hs : ∀ b ∈ F, lo ≤ b ∧ OwnB h b) : Fresh lo h F := ⟨hn, fun b hb => (hs b hb).1, fun b hb => (hs b hb).2⟩

end GL

namespace GL
open Go

end GL

namespace GL
open Go

end GL

namespace GL
open Go

def upR (a b : Rw) : Prop := a.key < b.key
instance (a b : Rw) : Decidable (upR a b) := by unfold upR; infer_instance
end GL

namespace GL
open Go

end GL

namespace GL
open Go

/-- a list of one's own that grows, with all that it leads to -/
def OdF {α : Type} [Data α] (lo : Nat) (h : Heap) (v : V) (xs : List α) (G : List Nat) : Prop := Od lo h v xs G ∧ Fresh lo h G

section
variable {α : Type} [Data α] {lo : Nat} {h h1 : Heap} {v : V} {xs : List α} {G G' : List Nat}
theorem OdF.one (o : OdF lo h v xs G) (k1 : Keeps h h1) (l1 : h.length ≤ h1.length) (fr : Fresh h.length h1 G') {x : α} {cs : List V} (hr : Data.rep h1 x cs G') (hx : xs.length ≤ 2 ^ 20) {k bytes : Nat} (hk : k = Data.sz α) (hb : bytes ≤ 2 ^ 8) :
    ∃ v' h2, appH k bytes v 1 cs (h1 ++ [⟨.own, cs⟩]) = some (v', h2) ∧ OdF lo h2 v' (xs ++ [x]) (G ++ G') ∧ (∀ h0 : Heap, Keeps h0 h → h0.length ≤ lo → Keeps h0 h2) ∧ h1.length < h2.length := by
  obtain ⟨od, fg⟩ := o
  have hge := fun i (hi : vB v i) => od.ge hi
  have kl : Keeps h1 (h1 ++ [⟨.own, cs⟩]) := Keeps.append h1 _
  have od1 : Od lo (h1 ++ [⟨.own, cs⟩]) v xs G := od.keeps ((k1.trans kl).p fun _ => True) (fun _ _ => trivial) (fun _ _ => trivial) (by simp; omega)
  have hnv : ∀ b ∈ G', ¬ vB v b := fun b hb hv => by have := (hge b hv).2; have := fr.ge b hb; omega
  have hnvG : ∀ b ∈ G, ¬ vB v b := fun b hb hv => by
    obtain ⟨_, _, ⟨rfl, _⟩ | ⟨b1, cs1, rfl, _, _, _, hn⟩ | ⟨b1, rfl, _, hG, _⟩⟩ := od
    · obtain ⟨_, _, _, e⟩ := hv; cases e
    · obtain ⟨_, _, _, e⟩ := hv; cases e; exact hn hb
    · rw [hG] at hb; cases hb
  obtain ⟨v', h2, e, o2, kp, l2, b2⟩ := od1.app (zs := [x]) (G := G') (by simp) (.one (Data.keeps hr (kl.p _))) hnv hb (by simp; omega) hk rfl
  have k2 : KeepsP (fun i => ¬ vB v i) h1 h2 := fun i blk hi h3 h4 => kp i blk hi (kl i blk h3 h4) h4
  refine ⟨v', h2, e, ⟨o2, ?_⟩, fun h0 hk0 hl0 => Keeps.far (n := lo) (hk0.trans k1) k2 hl0 fun i hi hv => by have := (hge i hv).1; omega, by simp at l2; omega⟩
  have f1 := (fg.keeps (k1.p _)).keeps (k2.mono hnvG)
  have f2 := fr.keeps (k2.mono hnv)
  refine ⟨List.nodup_append.2 ⟨fg.nodup, fr.nodup, fun a ha b hb e => ?_⟩, fun b hb => ?_, fun b hb => ?_⟩
  · have := (fg.own a ha).lt; have := fr.ge b hb; omega
  · rcases List.mem_append.1 hb with hb | hb
    · exact fg.ge b hb
    · have := fr.ge b hb; have := od.2.1; omega
  · rcases List.mem_append.1 hb with hb | hb
    · exact f1.own b hb
    · exact f2.own b hb
theorem OdF.fresh (o : OdF lo h v xs G) : ∃ F, SdF h v xs F ∧ Fresh lo h F := by
  obtain ⟨od, fg⟩ := o
  have hge := fun i (hi : vB v i) => od.ge hi
  obtain ⟨F', hs, rfl | ⟨rfl, hv, hn, cs, hcs⟩⟩ := od.sd
  · exact ⟨_, hs, fg⟩
  · refine ⟨_, hs, List.nodup_cons.2 ⟨hn, fg.nodup⟩, fun b hb => ?_, fun b hb => ?_⟩
    · rcases List.mem_cons.1 hb with rfl | hb
      · exact (hge _ hv).1
      · exact fg.ge b hb
    · rcases List.mem_cons.1 hb with rfl | hb
      · exact ⟨cs, hcs⟩
      · exact fg.own b hb
theorem OdF.nil (hl : lo ≤ h.length) : OdF lo h .nils ([] : List α) [] := ⟨Od.nil hl, Fresh.nil⟩
theorem OdF.empty {b : Nat} (hl : lo ≤ b) (hb : b < h.length) : OdF lo h (.slice b 0 0 (.k 0)) ([] : List α) [] := ⟨Od.empty hl hb, Fresh.nil⟩
end

end GL

/-! GL: lists of one's own whose elements may share. -/
namespace GL
open Go
section
variable {α : Type} [Data α] {h : Heap} {v : V} {xs : List α} {F : List Nat}
end
end GL

namespace GL
open Go

/-- a row, and where it lies -/
structure An where
  r : Rw
  g : List Nat
instance anData : Data An where
  sz := 2
  pos := by decide
  rep := fun h a cs F => F = a.g ∧ Data.rep h a.r cs a.g
  len := by rintro h a cs F ⟨rfl, h1⟩; exact Data.len (α := Rw) h1
  ok := by rintro h a cs F ⟨rfl, h1⟩; exact Data.ok h1
  keeps := by rintro h h' a cs F ⟨rfl, h1⟩ hk; exact ⟨rfl, Data.keeps h1 hk⟩
  lt := by rintro h a cs F b ⟨rfl, h1⟩ hb; exact Data.lt h1 hb

section
variable {h : Heap} {v : V} {F : List Nat}
end

theorem eop_clear (c : CallF) (k : Nat) (z : List V) (b off n : Nat) (cap : Cap) (h : Heap) : eop c (.clear k z) [.v (.slice b off n cap)] h = if n = 0 then some (.tup [], h) else (wrH h b off (List.replicate n z).flatten).bind fun h' => some (.tup [], h') := rfl

end GL

/-! GL: laws of one to four arguments, whatever they are. -/
namespace GL
open Go

/-- an argument, in memory -/
def RepA {α : Type} [Data α] (h : Heap) (x : V) (a : α) (F : List Nat) (agg : Bool) : Prop := ∃ vs, x = (if agg = true then .agg vs else vs.headD .nils) ∧ (agg = false → vs = [x]) ∧ Data.rep h a vs F

section
variable {P : Program} {fid : Nat → FuncId} {w : World} {eqs : List (TypeId × List (Option IntKind))} {p : Prog} (hp : ProgOK P fid eqs p) {f : Nat}
variable {α0 α1 α2 α3 : Type} [Data α0] [Data α1] [Data α2] [Data α3] {x0 x1 x2 x3 : V} {s0 s1 s2 s3 : List (Blk × Option At)} {a0 : α0} {a1 : α1} {a2 : α2} {a3 : α3} {F0 F1 F2 F3 : List Nat} {g0 g1 g2 g3 : Bool} {v0 v1 v2 v3 : Value}

theorem ArgIn.rep {α : Type} [Data α] {x : V} {l m r t : List (Blk × Option At)} {a : α} {F : List Nat} {g : Bool} {v : Value} {n : Nat} (h : ArgIn w n x m a F g v) (hn : n = l.length) (ht : t = l ++ m ++ r) : RepA (sideH t) x a F g := by
  subst hn; subst ht; exact h.at

include hp
end
end GL

namespace GL
open Go

def Rw.of (p : Int × List Val) : Rw := ⟨p.1, p.2⟩
def Val.of (p : Bool × Int) : Val := ⟨p.1, p.2⟩
end GL

namespace GL
open Go

structure Pl where
  prom : Int
  taken : Int
  word : Int
deriving DecidableEq
instance : Flat Pl := ⟨3, fun x => [vi x.prom, vi x.taken, vi x.word], fun _ => rfl, fun _ => rfl, by decide⟩
theorem SdF.bIn {α : Type} [Data α] {h : Heap} {v : V} {xs : List α} {F : List Nat} (hs : SdF h v xs F) {i : Nat} (hi : i < xs.length) : bOf v ∈ F := by
  obtain ⟨_, _, _, _, _, _, hF⟩ := hs.load i hi
  rw [hF]; simp

theorem Out.fr {α : Type} [Flat α] {lo : Nat} {h : Heap} {v : V} {xs : List α} (ho : Out lo h v xs) : ∃ F, SdF h v xs F ∧ Fresh lo h F := by
  have ho0 := ho
  obtain ⟨_, _, ⟨rfl, rfl⟩ | ⟨b1, rfl, hb1, _⟩ | ⟨b1, rfl, rfl, _⟩⟩ := ho
  · exact ⟨[], SdF.nil, Fresh.nil⟩
  · obtain ⟨F, hF, hF2, hF3⟩ := ho0.sl.sdF ho0.cap
    refine ⟨F, hF, hF.flatF.2.1, fun b hb => (ho0.ge (hF2 b hb).2).1, fun b hb => ?_⟩
    have := (hF2 b hb).1; simp [bOf] at this; subst this; exact ⟨_, hb1⟩
  · exact ⟨[], ⟨by simp, .inr ⟨b1, 0, .k 0, rfl, Nat.le_refl _, .inl ⟨rfl, rfl⟩⟩⟩, Fresh.nil⟩

def manyB (n : Int) : Bool := decide (3 ≤ n ∧ n ≤ 9) && decide (n.tmod 2 = 1)
/-- rising, between two bounds -/
def risB (lo hi : Int) (xs : List Int) : Bool := decide ((∀ x ∈ xs, lo ≤ x ∧ x ≤ hi) ∧ xs.Pairwise (· < ·))
theorem ris_snoc {l : List Int} {x : Int} (hp : l.Pairwise (· < ·)) (hl : ∀ (h : 0 < l.length), l[l.length - 1] < x) : (l ++ [x]).Pairwise (· < ·) := by
  rw [List.pairwise_append]
  refine ⟨hp, by simp, fun a ha b hb => ?_⟩
  simp at hb; subst hb
  obtain ⟨i, hi, rfl⟩ := List.getElem_of_mem ha
  have h0 : 0 < l.length := by omega
  have := hl h0
  by_cases e : i = l.length - 1
  · subst e; exact this
  · have := (List.pairwise_iff_getElem.1 hp) i (l.length - 1) hi (by omega) (by omega)
    omega

theorem isRising_eq {h : Heap} {v : V} {xs : List Int} (hs : Sl h v xs) (lo hi : Int) : call p 385 [v, vi lo, vi hi] h = some (.bool (risB lo hi xs), h) := by
  have hbd := hs.bd
  refine go_eq (fn := g385) rfl rfl fun R hR => ?_
  simp [g385, hs.len]
  refine Wc_upM (M := [6, 7, 8, 11, 12, 13, 14, 15, 16, 17, 18, 19, 20, 21, 22, 23, 24, 25, 26, 27, 28, 29, 30, 31, 32, 33, 34]) rfl xs.length (fun i s => i ≤ xs.length ∧ s.σ 11 = .v (vi i) ∧ s.h = h ∧ (∀ x ∈ xs.take i, lo ≤ x ∧ x ≤ hi) ∧ (xs.take i).Pairwise (· < ·)) 0
    (by simp) fun i s ⟨gi, g11, gh, q1, q2⟩ hM J hJ => ?_
  by_cases hn : i < xs.length
  · have ht := List.take_succ_eq_append_getElem hn
    have bad : ¬ ((∀ x ∈ xs, lo ≤ x ∧ x ≤ hi) ∧ xs.Pairwise (· < ·)) → R (.bool false) h := fun hb => by
      have : risB lo hi xs = false := by simp only [risB, decide_eq_false_iff_not]; exact hb
      rw [this] at hR; exact hR
    by_cases h1 : lo ≤ xs[i] ∧ xs[i] ≤ hi
    · by_cases h0 : 0 < i
      · have w : IntKind.i64.wrap ((i : Int) - 1) = (i - 1 : Nat) := by rw [IntWalk.i64_in] <;> omega
        have hi1 : i - 1 < xs.length := by omega
        by_cases h2 : xs[i - 1] < xs[i]
        · have h2' : ¬ xs[i] ≤ xs[i - 1] := by omega
          simp [g385_0, hM, g11, gh, hn, hs.idx, hs.loadI, h1, h0, w, hi1, hs.idx 1 .i64 (i - 1) hi1, hs.loadI (i - 1) hi1, h2', hs.step hn, -Bool.decide_and]
          refine hJ _ hn ⟨hn, by simp, rfl, (all_take_succ hn).2 ⟨q1, h1⟩, ?_⟩
          rw [ht]
          refine ris_snoc q2 fun hp => ?_
          simp at hp
          have e : (xs.take i).length - 1 = i - 1 := by simp; omega
          simp only [e, List.getElem_take]; exact h2
        · have h2' : xs[i] ≤ xs[i - 1] := by omega
          simp [g385_0, hM, g11, gh, hn, hs.idx, hs.loadI, h1, h0, w, hi1, hs.idx 1 .i64 (i - 1) hi1, hs.loadI (i - 1) hi1, h2', -Bool.decide_and]
          exact bad fun ⟨_, b⟩ => h2 ((List.pairwise_iff_getElem.1 b) (i - 1) i hi1 hn (by omega))
      · simp [g385_0, hM, g11, gh, hn, hs.idx, hs.loadI, h1, h0, hs.step hn, -Bool.decide_and]
        refine hJ _ hn ⟨hn, by simp, rfl, (all_take_succ hn).2 ⟨q1, h1⟩, ?_⟩
        rw [ht]
        refine ris_snoc q2 fun hp => ?_
        simp at hp; omega
    · simp [g385_0, hM, g11, gh, hn, hs.idx, hs.loadI, h1, -Bool.decide_and]
      exact bad fun ⟨a, _⟩ => h1 (a _ (List.getElem_mem hn))
  · rw [List.take_of_length_le (by omega)] at q1 q2
    simp [g385_0, hM, g11, gh, hn]
    have : risB lo hi xs = true := by simp only [risB, decide_eq_true_eq]; exact ⟨q1, q2⟩
    rw [this] at hR; exact hR

theorem l1Rising_eq {h : Heap} {v : V} {xs : List Int} (hs : Sl h v xs) (lo hi : Int) : call p 337 [v, vi lo, vi hi] h = some (.bool (risB lo hi xs), h) := by
  have hbd := hs.bd
  refine go_eq (fn := g337) rfl rfl fun R hR => ?_
  simp [g337, hs.len]
  refine Wc_upM (M := [6, 7, 8, 11, 12, 13, 14, 15, 16, 17, 18, 19, 20, 21, 22, 23, 24, 25, 26, 27, 28, 29, 30, 31, 32, 33, 34]) rfl xs.length (fun i s => i ≤ xs.length ∧ s.σ 11 = .v (vi i) ∧ s.h = h ∧ (∀ x ∈ xs.take i, lo ≤ x ∧ x ≤ hi) ∧ (xs.take i).Pairwise (· < ·)) 0
    (by simp) fun i s ⟨gi, g11, gh, q1, q2⟩ hM J hJ => ?_
  by_cases hn : i < xs.length
  · have ht := List.take_succ_eq_append_getElem hn
    have bad : ¬ ((∀ x ∈ xs, lo ≤ x ∧ x ≤ hi) ∧ xs.Pairwise (· < ·)) → R (.bool false) h := fun hb => by
      have : risB lo hi xs = false := by simp only [risB, decide_eq_false_iff_not]; exact hb
      rw [this] at hR; exact hR
    by_cases h1 : lo ≤ xs[i] ∧ xs[i] ≤ hi
    · by_cases h0 : 0 < i
      · have w : IntKind.i64.wrap ((i : Int) - 1) = (i - 1 : Nat) := by rw [IntWalk.i64_in] <;> omega
        have hi1 : i - 1 < xs.length := by omega
        by_cases h2 : xs[i - 1] < xs[i]
        · have h2' : ¬ xs[i] ≤ xs[i - 1] := by omega
          simp [g337_0, hM, g11, gh, hn, hs.idx, hs.loadI, h1, h0, w, hi1, hs.idx 1 .i64 (i - 1) hi1, hs.loadI (i - 1) hi1, h2', hs.step hn, -Bool.decide_and]
          refine hJ _ hn ⟨hn, by simp, rfl, (all_take_succ hn).2 ⟨q1, h1⟩, ?_⟩
          rw [ht]
          refine ris_snoc q2 fun hp => ?_
          simp at hp
          have e : (xs.take i).length - 1 = i - 1 := by simp; omega
          simp only [e, List.getElem_take]; exact h2
        · have h2' : xs[i] ≤ xs[i - 1] := by omega
          simp [g337_0, hM, g11, gh, hn, hs.idx, hs.loadI, h1, h0, w, hi1, hs.idx 1 .i64 (i - 1) hi1, hs.loadI (i - 1) hi1, h2', -Bool.decide_and]
          exact bad fun ⟨_, b⟩ => h2 ((List.pairwise_iff_getElem.1 b) (i - 1) i hi1 hn (by omega))
      · simp [g337_0, hM, g11, gh, hn, hs.idx, hs.loadI, h1, h0, hs.step hn, -Bool.decide_and]
        refine hJ _ hn ⟨hn, by simp, rfl, (all_take_succ hn).2 ⟨q1, h1⟩, ?_⟩
        rw [ht]
        refine ris_snoc q2 fun hp => ?_
        simp at hp; omega
    · simp [g337_0, hM, g11, gh, hn, hs.idx, hs.loadI, h1, -Bool.decide_and]
      exact bad fun ⟨a, _⟩ => h1 (a _ (List.getElem_mem hn))
  · rw [List.take_of_length_le (by omega)] at q1 q2
    simp [g337_0, hM, g11, gh, hn]
    have : risB lo hi xs = true := by simp only [risB, decide_eq_true_eq]; exact ⟨q1, q2⟩
    rw [this] at hR; exact hR

end GL

namespace GL
open Go

theorem getD_at {ys : List Int} {p : Nat} (hp : p < ys.length) (d : Int) : ys.getD p d = ys[p] := by simp [hp]
/-- an element is laid anew: in a list of numbers of one's own -/
theorem SdF.putI {h : Heap} {v : V} {xs : List Int} {F : List Nat} (hs : SdF h v xs F) (ho : ∀ b ∈ F, OwnB h b) {i : Nat} (hi : i < xs.length) (x : Int) :
    ∃ h', wrH h (bOf v) (oOf v + i) [vi x] = some h' ∧ SdF h' v (xs.set i x) F ∧ KeepsP (fun b => b ≠ bOf v) h h' ∧ h'.length = h.length ∧ ∀ b, OwnB h b → OwnB h' b := by
  obtain ⟨h', e, r⟩ := hs.putF (ho _ (hs.bIn hi)) hi (x' := x) (o := 0) (ys := [vi x]) (by simp [Flat.cells, lay])
  refine ⟨h', ?_, r⟩
  simpa [Flat.sz] using e

theorem flats_ints (xs : List Int) : flats xs = xs.map (V.int .i64) := by
  induction xs with
  | nil => rfl
  | cons x xs ih =>
    simp only [flats, List.flatMap_cons, List.map_cons] at ih ⊢
    rw [ih]; rfl
theorem srtI_perm (xs : List Int) : (srtI xs).Perm xs := List.mergeSort_perm _ _
theorem srtI_le (xs : List Int) : (srtI xs).Pairwise (· ≤ ·) := by
  have := List.pairwise_mergeSort (le := fun (x y : Int) => decide (x ≤ y)) (fun a b c h1 h2 => by simp at *; omega) (fun a b => by simp; omega) xs
  exact this.imp fun h => by simpa using h
/-- slices.Sort -/
theorem sortI_ok {h : Heap} {v : V} {xs : List Int} {F : List Nat} (hs : SdF h v xs F) (ho : ∀ b ∈ F, OwnB h b) (hl : xs.length ≤ 2 ^ 20) :
    ∃ r h', call p 340 [v] h = some (r, h') ∧ ∃ ys, r = .tup [] ∧ SdF h' v ys F ∧ ys.Perm xs ∧ ys.Pairwise (· ≤ ·) ∧ KeepsP (fun b => b ∉ F) h h' ∧ h'.length = h.length ∧ ∀ b, OwnB h b → OwnB h' b := by
  rw [call_ext (e := sortE) rfl]
  by_cases h0 : xs = []
  · subst h0
    have hv : v = .nils ∨ ∃ b off m c, v = .slice b off m c := by
      rcases hs.2 with ⟨rfl, _⟩ | ⟨b, off, cap, rfl, _⟩
      · exact .inl rfl
      · exact .inr ⟨_, _, _, _, rfl⟩
    exact ⟨_, h, sortE_nil hv hs.len, [], rfl, hs, .refl _, by simp, KeepsP.refl _ _, rfl, fun _ h => h⟩
  · have hr := hs.sl.rdS xs.length (Nat.le_refl _)
    rw [List.take_length, flats_ints] at hr
    rcases hs with ⟨hb, ⟨_, e, _⟩ | ⟨b, off, cap, rfl, hc, hs⟩⟩
    · exact absurd e h0
    · rcases hs with ⟨e, _⟩ | ⟨blk, cs, G, rfl, h1, h2, h3, h4⟩
      · exact absurd e h0
      · obtain ⟨rfl, rfl⟩ := Reps.flat.1 h4
        obtain ⟨ds, hd⟩ := ho b (by simp)
        rw [hd] at h1
        injection h1 with h1
        subst h1
        have hcut := h3
        unfold cut at hcut
        split at hcut
        case isFalse => cases hcut
        rename_i hle
        have hle : off + xs.length ≤ ds.length := by simpa [Data.sz, Flat.sz] using hle
        have hyl : ((srtI xs).map (V.int .i64)).length = xs.length := by rw [List.length_map, srtI_length]
        have hw : wrH h b off ((srtI xs).map (V.int .i64)) = some (h.set b ⟨.own, ds.take off ++ (srtI xs).map (V.int .i64) ++ ds.drop (off + xs.length)⟩) := by
          simp only [wrH, hd, if_true, lay]
          rw [hyl, if_pos hle]; rfl
        have hbl := get_lt hd
        refine ⟨_, _, sortE_eq (by omega) hr h0 hw, srtI xs, rfl, ?_, srtI_perm xs, srtI_le xs, fun c bk hcn hb hl => ?_, by simp, fun c hc => OwnB.set hc hbl⟩
        · refine ⟨by rw [srtI_length]; exact hb, .inr ⟨b, off, cap, by rw [srtI_length], by rw [srtI_length]; exact hc, .inr ⟨_, flats (srtI xs), [], rfl, by rw [List.getElem?_set_self hbl], by simp, ?_, Reps.flat.2 ⟨rfl, rfl⟩⟩⟩⟩
          have hsz : Data.sz Int = 1 := rfl
          rw [srtI_length, hsz, Nat.mul_one, flats_ints]
          have hto : (ds.take off).length = off := by rw [List.length_take]; omega
          unfold cut
          rw [if_pos (by simp only [List.length_append, hto, hyl, List.length_drop]; omega), List.append_assoc, List.drop_append, hto, Nat.sub_self, List.drop_of_length_le (by omega)]
          simp only [List.nil_append, List.drop_zero]
          rw [List.take_append_of_le_length (by omega), List.take_of_length_le (by omega)]
        · have : c ≠ b := fun e => hcn (by rw [e]; simp)
          rw [List.getElem?_set_ne (Ne.symm this)]; exact hb
end GL

namespace GL
open Go

/-- the end of a list of one's own is laid anew -/
theorem SdF.putTail {h : Heap} {v : V} {zs : List Int} {F : List Nat} (hs : SdF h v zs F) (ho : OwnB h (bOf v)) {i : Nat} (hp : 0 < zs.length) (ys : List Int) (hl : i + ys.length = zs.length) :
    ∃ h', wrH h (bOf v) (oOf v + i) (flats ys) = some h' ∧ SdF h' v (zs.take i ++ ys) F ∧ KeepsP (fun b => b ≠ bOf v) h h' ∧ h'.length = h.length ∧ ∀ b, OwnB h b → OwnB h' b := by
  rcases hs with ⟨hlen0, ⟨rfl, rfl, _⟩ | ⟨b, off, cap, rfl, hcap, hs⟩⟩
  · simp at hp
  · rcases hs with ⟨rfl, _⟩ | ⟨blk, cs, G, rfl, h1, h2, h3, h4⟩
    · simp at hp
    · obtain ⟨rfl, rfl⟩ := Reps.flat.1 h4
      obtain ⟨ds, hd⟩ := ho
      simp only [bOf, oOf] at hd ⊢
      rw [hd] at h1; cases h1
      have fz : (flats zs).length = zs.length := by rw [flats_len]; simp [Flat.sz]
      have fy : (flats ys).length = ys.length := by rw [flats_len]; simp [Flat.sz]
      have ft : (flats (zs.take i)).length = i := by rw [flats_len]; simp [Flat.sz]; omega
      have hsz : Data.sz Int = 1 := rfl
      unfold cut at h3
      split at h3
      case isFalse => cases h3
      rename_i hle2
      simp only [Option.some.injEq] at h3
      rw [hsz, Nat.mul_one] at h3 hle2
      have hds : ds = ds.take off ++ flats zs ++ ds.drop (off + zs.length) := by
        rw [← h3, ← List.drop_drop, List.append_assoc, List.take_append_drop, List.take_append_drop]
      have hol : (ds.take off).length = off := by simp; simp only at hle2; omega
      have hspl : flats zs = flats (zs.take i) ++ flats (zs.drop i) := by rw [← flats_append, List.take_append_drop]
      have hlay : lay (flats zs) i (flats ys) = some (flats (zs.take i ++ ys)) := by
        unfold lay
        rw [if_pos (by omega), hspl, List.take_append_of_le_length (by omega), List.take_of_length_le (by omega), flats_append, List.drop_of_length_le (by rw [← hspl]; omega), List.append_nil]
      have hl3 := layMid (a := ds.take off) (b := ds.drop (off + zs.length)) hlay
      rw [← hds, hol] at hl3
      have hb := get_lt hd
      have hk : KeepsP (fun c => c ≠ b) h (h.set b ⟨.own, ds.take off ++ flats (zs.take i ++ ys) ++ ds.drop (off + zs.length)⟩) := fun c blk hc hb2 _ => by
        rw [List.getElem?_set_ne (Ne.symm hc)]; exact hb2
      have hnl : (zs.take i ++ ys).length = zs.length := by simp; omega
      have fn : (flats (zs.take i ++ ys)).length = zs.length := by rw [flats_len]; simp [Flat.sz]; omega
      refine ⟨_, by rw [wrH_at hd rfl, hl3]; rfl, ⟨by rw [hnl]; exact hlen0, .inr ⟨b, off, cap, by rw [hnl], by rw [hnl]; exact hcap, .inr ⟨⟨.own, ds.take off ++ flats (zs.take i ++ ys) ++ ds.drop (off + zs.length)⟩, flats (zs.take i ++ ys), [], rfl, by simp [hb], by simp, ?_, Reps.flat.2 ⟨rfl, rfl⟩⟩⟩⟩, hk, by simp, fun c hc => hc.set hb⟩
      rw [hnl, hsz, Nat.mul_one]
      simp only [cut]
      rw [if_pos (by simp only [List.length_append, fn, hol, List.length_drop]; simp only at hle2; omega), List.append_assoc, List.drop_append_of_le_length (by omega), List.drop_of_length_le (by omega), List.nil_append, List.take_append_of_le_length (by omega), List.take_of_length_le (by omega)]

theorem clearI {h : Heap} {v : V} {zs : List Int} {F : List Nat} (hs : SdF h v zs F) (ho : ∀ b ∈ F, OwnB h b) {i : Nat} (hi : i < zs.length) :
    ∃ v1 h' v2 F', slcV 1 v (some i) none none = some v1 ∧ eop (call p) (.clear 1 [vi 0]) [.v v1] h = some (.tup [], h') ∧ slcV 1 v none (some i) none = some v2 ∧ SdF h' v2 (zs.take i) F' ∧ (∀ x ∈ F', x ∈ F) ∧ KeepsP (fun b => b ≠ bOf v) h h' ∧ h'.length = h.length ∧ ∀ b, OwnB h b → OwnB h' b := by
  obtain ⟨h', e1, s1, k1, l1, o1⟩ := hs.putTail (ho _ (hs.bIn hi)) (i := i) (by omega) (List.replicate (zs.length - i) 0) (by simp; omega)
  obtain ⟨v2, F2, e2, s2, m2, _⟩ := s1.sub (lo := none) (hi := some i) (i := 0) (j := i) rfl rfl (Nat.zero_le _) (by simp; omega) (k := 1) rfl
  have ht : ((zs.take i ++ List.replicate (zs.length - i) (0 : Int)).take i).drop 0 = zs.take i := by
    rw [List.drop_zero, List.take_append_of_le_length (by simp; omega), List.take_of_length_le (by simp; omega)]
  rw [ht] at s2
  have hz : flats (List.replicate (zs.length - i) (0 : Int)) = (List.replicate (zs.length - i) [vi 0]).flatten := by
    generalize zs.length - i = n
    induction n with
    | zero => rfl
    | succ n ih => rw [List.replicate_succ, List.replicate_succ, List.flatten_cons, ← ih]; rfl
  rcases hs with ⟨hb, ⟨rfl, rfl, rfl⟩ | ⟨b, off, cap, rfl, hc, _⟩⟩
  · simp at hi
  · have s1' : ∃ cap1, slcV 1 (.slice b off zs.length cap) (some i) none none = some (.slice b (off + i) (zs.length - i) cap1) := by
      cases cap with
      | k c =>
        have hc : zs.length ≤ c := hc
        exact ⟨_, by simp only [slcV, Option.getD_some, Option.getD_none, Nat.mul_one]; rw [if_pos ⟨by omega, by omega, Nat.le_refl _⟩, if_neg (by omega)]⟩
      | o k' =>
        have hc : k' = 1 := hc
        exact ⟨_, by simp only [slcV, Option.getD_some, Option.getD_none, Nat.mul_one]; rw [if_pos ⟨hc, by omega, Nat.le_refl _⟩]⟩
    obtain ⟨cap1, s1'⟩ := s1'
    simp only [bOf, oOf] at e1
    refine ⟨_, h', v2, F2, s1', ?_, e2, s2, m2, k1, l1, o1⟩
    rw [eop_clear, if_neg (by omega), ← hz, e1]; rfl

theorem deleteI_ok {h : Heap} {v : V} {xs : List Int} {F : List Nat} {lo : Nat} (hs : SdF h v xs F) (fr : Fresh lo h F) {f : Nat} {capt : List V} {q : Int → Bool} (ha : ∀ h', KeepsP (fun b => b ∉ F) h h' → ∀ n, call p f (vi n :: capt) h' = some (.bool (q n), h')) :
    ∃ r h', call p 397 [v, .fn f capt] h = some (r, h') ∧ ∃ G, SdF h' r (xs.filter fun n => !q n) G ∧ Fresh lo h' G ∧ KeepsP (fun b => b ∉ F) h h' ∧ h'.length = h.length := by
  refine go (fn := g397) rfl rfl fun R hR => ?_
  have hbd := hs.bd
  have idx : ∃ k : Int, call p 391 [v, .fn f capt] h = some (vi k, h) ∧ ((k = -1 ∧ ∀ x ∈ xs, q x = false) ∨ ∃ (i : Nat) (hi : i < xs.length), k = i ∧ q xs[i] = true ∧ ∀ x ∈ xs.take i, q x = false) := by
    have : ∃ r h', call p 391 [v, .fn f capt] h = some (r, h') ∧ ∃ k : Int, r = vi k ∧ h' = h ∧ ((k = -1 ∧ ∀ x ∈ xs, q x = false) ∨ ∃ (i : Nat) (hi : i < xs.length), k = i ∧ q xs[i] = true ∧ ∀ x ∈ xs.take i, q x = false) := by
      refine go (fn := g391) rfl rfl fun R hR => ?_
      have hf := ha h (KeepsP.refl _ _)
      have hsl := hs.sl
      simp [g391, hs.len]
      refine Wc_upM (M := [4, 5, 8, 9, 10, 11, 12, 13, 14, 15, 16, 17, 18]) rfl xs.length (fun i s => s.σ 8 = .v (vi i) ∧ s.h = h ∧ ∀ x ∈ xs.take i, q x = false) 0 (by simp) fun i s ⟨g8, gh, hall⟩ hM J hJ => ?_
      by_cases hn : i < xs.length
      · cases he : q xs[i] with
        | true =>
          simp [g391_0, hM, g8, gh, hn, hsl.idx, hsl.loadI, hf, he]
          exact hR _ _ ⟨i, rfl, rfl, .inr ⟨i, hn, rfl, he, hall⟩⟩
        | false =>
          simp [g391_0, hM, g8, gh, hn, hsl.idx, hsl.loadI, hf, he, hsl.step hn]
          exact hJ _ hn ⟨by simp, rfl, (all_take_succ hn).2 ⟨hall, he⟩⟩
      · rw [List.take_of_length_le (by omega)] at hall
        simp [g391_0, hM, g8, gh, hn]
        exact hR _ _ ⟨-1, rfl, rfl, .inl ⟨rfl, hall⟩⟩
    obtain ⟨_, _, e, k, rfl, rfl, hk⟩ := this
    exact ⟨k, e, hk⟩
  obtain ⟨k, e1, ⟨rfl, hall⟩ | ⟨i0, hi0, rfl, hq0, hall0⟩⟩ := idx
  · have hf : xs.filter (fun r => !q r) = xs := List.filter_eq_self.2 fun r hr => by simp [hall r hr]
    simp [g397, e1]
    exact hR _ _ ⟨F, by rw [hf]; exact hs, fr, KeepsP.refl _ _, rfl⟩
  · have hbF := hs.bIn hi0
    have w0 : IntKind.i64.wrap ((i0 : Int) + 1) = (i0 + 1 : Nat) := by rw [IntWalk.i64_in] <;> omega
    have hn1 : ¬ (i0 : Int) = -1 := by omega
    simp [g397, e1, hn1, w0, -Int.natCast_add]
    refine Wc_upM (M := [5, 6, 7, 16, 17, 18, 19, 20, 21, 22, 23, 24, 25, 26, 27, 28, 29, 30, 31, 32, 33, 34, 35]) rfl xs.length (fun j s => j ≤ xs.length ∧ s.σ 6 = .v (vi j) ∧ KeepsP (fun b => b ≠ bOf v) h s.h ∧ s.h.length = h.length ∧ (∀ b, OwnB h b → OwnB s.h b) ∧ ∃ (i : Nat) (zs : List Int), i < j ∧ s.σ 5 = .v (vi i) ∧ SdF s.h v zs F ∧ zs.length = xs.length ∧ zs.take i = (xs.take j).filter (fun a => !q a) ∧ zs.drop j = xs.drop j) (i0 + 1)
      ⟨by omega, by simp, KeepsP.refl _ _, rfl, fun _ h => h, i0, xs, by omega, by simp, hs, rfl, ?_, rfl⟩ fun j s ⟨gj, g6, hk, hl, ho, i, zs, hij, g5, hz, hzl, htk, hdr⟩ hM J hJ => ?_
    · rw [List.take_succ_eq_append_getElem hi0, List.filter_append]
      have hf1 : (xs.take i0).filter (fun a => !q a) = xs.take i0 := List.filter_eq_self.2 fun a ha => by simp [hall0 a ha]
      rw [hf1]; simp [hq0]
    · have hkF : KeepsP (fun b => b ∉ F) h s.h := hk.mono fun b hb e => hb (by rw [e]; exact hbF)
      by_cases hj : j < xs.length
      · have hjz : j < zs.length := by omega
        have hzj : zs[j] = xs[j] := by
          have := congrArg (fun l => l[0]?) hdr
          simp only [List.getElem?_drop, Nat.add_zero, List.getElem?_eq_getElem hjz, List.getElem?_eq_getElem hj, Option.some.injEq] at this
          exact this
        have e2 := hz.sl.loadI j hjz
        have e3 := ha s.h hkF zs[j]
        have ix := hz.idx 1 .i64 j hjz
        have iw := hz.idx 1 .i64 i (by omega)
        simp only [Nat.mul_one] at ix iw
        have wj : IntKind.i64.wrap ((j : Int) + 1) = (j + 1 : Nat) := by rw [IntWalk.i64_in] <;> omega
        have wi : IntKind.i64.wrap ((i : Int) + 1) = (i + 1 : Nat) := by rw [IntWalk.i64_in] <;> omega
        have hdr' : zs.drop (j + 1) = xs.drop (j + 1) := by rw [← List.drop_drop, ← List.drop_drop, hdr]
        cases hq : q zs[j] with
        | true =>
          rw [hq] at e3
          simp [g397_0, hM, g6, g5, hs.len, hj, ix, e2, e3, wj, -Int.natCast_add]
          refine hJ _ hj ⟨hj, by simp, hk, hl, ho, i, zs, by omega, by simp [g5], hz, hzl, ?_, hdr'⟩
          rw [List.take_succ_eq_append_getElem hj, List.filter_append, ← htk]
          simp [← hzj, hq]
        | false =>
          rw [hq] at e3
          obtain ⟨h', e4, hz2, hk2, hl2, ho2⟩ := hz.putI (fun b hb => ho b (fr.own b hb)) (i := i) (by omega) zs[j]
          simp [g397_0, hM, g6, g5, hs.len, hj, ix, iw, e2, e3, wj, wi, e4, -Int.natCast_add]
          refine hJ _ hj ⟨hj, by simp, hk.trans hk2, by simp; omega, fun b hb => ho2 b (ho b hb), i + 1, zs.set i zs[j], by omega, by simp, hz2, by simp [hzl], ?_, ?_⟩
          · rw [List.take_succ_eq_append_getElem hj, List.filter_append, ← htk, List.take_succ_eq_append_getElem (by simp; omega), List.take_set_of_le (Nat.le_refl _)]
            simp [← hzj, hq]
          · rw [List.drop_set_of_lt (by omega)]; exact hdr'
      · have : j = xs.length := by omega
        subst this
        have htk' : zs.take i = xs.filter fun a => !q a := by rw [htk, List.take_of_length_le (by omega)]
        obtain ⟨v1, h', v2, F2, s1, s2, s3, q1, q2, k', l', o'⟩ := clearI hz (fun b hb => ho b (fr.own b hb)) (i := i) (by omega)
        have c0 : (0 : Int) ≤ i := by omega
        simp [g397_0, hM, g6, g5, hs.len, bounds, takeB, s1, s2, s3]
        rw [htk'] at q1
        have fr2 : Fresh lo h' F2 := by
          refine ⟨q1.flatF.2.1, fun b hb => fr.ge b (q2 b hb), fun b hb => o' b (ho b (fr.own b (q2 b hb)))⟩
        exact hR _ _ ⟨F2, q1, fr2, hkF.trans (k'.mono fun b hb e => hb (by rw [e]; exact hbF)), by omega⟩

/-- numbers of both lists -/
theorem both_ok {h : Heap} {v w : V} {az bs : List Int} (ha : Sl h v az) (hb : Sl h w bs) (hl : az.length ≤ 2 ^ 20) : ∃ r h', call p 336 [v, w] h = some (r, h') ∧ ∃ F, SdF h' r (az.filter fun n => decide (n ∈ bs)) F ∧ Fresh h.length h' F ∧ Keeps h h' ∧ h.length ≤ h'.length := by
  refine go (fn := g336) rfl rfl fun R hR => ?_
  have k0 : Keeps h (h ++ [⟨.own, [w]⟩]) := Keeps.append _ _
  obtain ⟨c, h1, e1, F, c1, f1, k1, l1⟩ := cloneI_ok (ha.keeps k0) hl
  have hw1 : h1[h.length]? = some ⟨.own, [w]⟩ := k1 _ _ (get_last _ _) (by simp)
  have nF : ∀ b ∈ F, b ≠ h.length := fun b hb e => by have := f1.ge b hb; simp at this; omega
  obtain ⟨r, h2, e2, G, p1, p2, p3, p4⟩ := deleteI_ok c1 f1 (f := 396) (capt := [.ptr h.length 0]) (q := fun n => !decide (n ∈ bs)) fun h' hk n => by
    have hw2 := hk _ _ (fun hm => nF _ hm rfl) hw1 (by simp)
    have hb2 : Sl h' w bs := by
      have hkk : Keeps h h' := Keeps.far (n := h.length) (k0.trans k1) hk (Nat.le_refl _) fun i hi hm => by have := f1.ge i hm; simp at this; omega
      exact hb.keeps hkk
    refine go_eq (fn := g396) rfl rfl fun R hR => ?_
    simp [g396, rdH_at hw2, containsI_eq hb2]; simpa using hR
  have hf : (az.filter fun n => !(!decide (n ∈ bs))) = az.filter fun n => decide (n ∈ bs) := by congr 1; funext n; simp
  rw [hf] at p1
  simp at l1
  simp [g336, hb.cells, hb.cell, fillL, e1, e2]
  exact hR _ _ ⟨G, p1, p2.mono (by simp), Keeps.far (n := h.length) (k0.trans k1) p3 (Nat.le_refl _) fun i hi hm => by have := f1.ge i hm; simp at this; omega, by omega⟩
theorem without_ok {h : Heap} {v w : V} {az bs : List Int} (ha : Sl h v az) (hb : Sl h w bs) (hl : az.length ≤ 2 ^ 20) : ∃ r h', call p 428 [v, w] h = some (r, h') ∧ ∃ F, SdF h' r (az.filter fun n => !decide (n ∈ bs)) F ∧ Fresh h.length h' F ∧ Keeps h h' ∧ h.length ≤ h'.length := by
  refine go (fn := g428) rfl rfl fun R hR => ?_
  have k0 : Keeps h (h ++ [⟨.own, [w]⟩]) := Keeps.append _ _
  obtain ⟨c, h1, e1, F, c1, f1, k1, l1⟩ := cloneI_ok (ha.keeps k0) hl
  have hw1 : h1[h.length]? = some ⟨.own, [w]⟩ := k1 _ _ (get_last _ _) (by simp)
  have nF : ∀ b ∈ F, b ≠ h.length := fun b hb e => by have := f1.ge b hb; simp at this; omega
  obtain ⟨r, h2, e2, G, p1, p2, p3, p4⟩ := deleteI_ok c1 f1 (f := 435) (capt := [.ptr h.length 0]) (q := fun n => decide (n ∈ bs)) fun h' hk n => by
    have hw2 := hk _ _ (fun hm => nF _ hm rfl) hw1 (by simp)
    have hb2 : Sl h' w bs := by
      have hkk : Keeps h h' := Keeps.far (n := h.length) (k0.trans k1) hk (Nat.le_refl _) fun i hi hm => by have := f1.ge i hm; simp at this; omega
      exact hb.keeps hkk
    refine go_eq (fn := g435) rfl rfl fun R hR => ?_
    simp [g435, rdH_at hw2, containsI_eq hb2]; simpa using hR
  simp at l1
  simp [g428, hb.cells, hb.cell, fillL, e1, e2]
  exact hR _ _ ⟨G, p1, p2.mono (by simp), Keeps.far (n := h.length) (k0.trans k1) p3 (Nat.le_refl _) fun i hi hm => by have := f1.ge i hm; simp at this; omega, by omega⟩
end GL

namespace GL
open Go

/-- a list that is made az long az it will be, and filled -/
def Gs (h : Heap) (lo : Nat) (w : V) (zs : List Int) (n : Nat) : Prop :=
  (n = 0 ∧ zs = [] ∧ w = .nils) ∨ ∃ b, w = .slice b 0 zs.length (.o 1) ∧ lo ≤ b ∧ h[b]? = some ⟨.own, flats zs ++ List.replicate (n - zs.length) (vi 0)⟩ ∧ zs.length ≤ n
theorem flatsI_len (xs : List Int) : (flats xs).length = xs.length := by rw [flats_len]; simp [Flat.sz]
theorem Gs.app {h : Heap} {lo : Nat} {w : V} {zs : List Int} {n : Nat} (g : Gs h lo w zs n) (ys : List Int) (hl : zs.length + ys.length ≤ n) (hlo : lo ≤ h.length) :
    ∃ w' h', appH 1 8 w ys.length (flats ys) h = some (w', h') ∧ Gs h' lo w' (zs ++ ys) n ∧ (∀ b blk, b < lo → h[b]? = some blk → h'[b]? = some blk) ∧ h'.length = h.length := by
  by_cases h0 : ys.length = 0
  · have hy : ys = [] := List.length_eq_zero_iff.1 h0
    subst hy
    refine ⟨w, h, ?_, by simpa using g, fun _ _ _ h => h, rfl⟩
    rcases g with ⟨_, _, rfl⟩ | ⟨b, rfl, _⟩ <;> simp [appH, lenV]
  · rcases g with ⟨rfl, rfl, rfl⟩ | ⟨b, rfl, hb, hc, hn⟩
    · exact absurd hl (by simp; omega)
    · have hbl := get_lt hc
      have e : lay (flats zs ++ List.replicate (n - zs.length) (vi 0)) zs.length (flats ys) = some (flats (zs ++ ys) ++ List.replicate (n - (zs ++ ys).length) (vi 0)) := by
        unfold lay
        rw [if_pos (by simp [flatsI_len]; omega)]
        rw [List.take_append_of_le_length (by simp [flatsI_len]), List.take_of_length_le (by simp [flatsI_len]), flatsI_len, List.drop_append, List.drop_of_length_le (by simp [flatsI_len]), List.nil_append, flatsI_len, flats_append, List.drop_replicate]
        congr 3; simp; omega
      refine ⟨.slice b 0 (zs ++ ys).length (.o 1), h.set b ⟨.own, flats (zs ++ ys) ++ List.replicate (n - (zs ++ ys).length) (vi 0)⟩, ?_, .inr ⟨b, rfl, hb, by simp [hbl], by simp; omega⟩, fun c blk hc hh => by rw [List.getElem?_set_ne (by omega)]; exact hh, by simp⟩
      simp only [appH, if_neg h0, hc, and_self, if_true, Nat.mul_one, Nat.zero_add, Nat.one_pos, Nat.zero_lt_one]
      rw [if_pos (by simp [flatsI_len]; omega), wrH_at hc rfl, e]
      simp
theorem Gs.sd {h : Heap} {lo : Nat} {w : V} {zs : List Int} {n : Nat} (g : Gs h lo w zs n) (hn : zs.length = n) (hl : n ≤ 2 ^ 40) : ∃ F, SdF h w zs F ∧ Fresh lo h F := by
  rcases g with ⟨_, rfl, rfl⟩ | ⟨b, rfl, hb, hc, _⟩
  · exact ⟨[], SdF.nil, Fresh.nil⟩
  · rw [hn, Nat.sub_self, List.replicate_zero, List.append_nil] at hc
    subst hn
    refine ⟨[b], ⟨by omega, .inr ⟨b, 0, .o 1, rfl, rfl, .inr ⟨_, flats zs, [], rfl, hc, by simp, ?_, Reps.flat.2 ⟨rfl, rfl⟩⟩⟩⟩, by simp, by simpa using hb, by simpa using ⟨_, hc⟩⟩
    have hsz : Data.sz Int = 1 := rfl
    simp only [cut, hsz, Nat.mul_one, Nat.zero_add, flatsI_len, Nat.le_refl, if_true, List.drop_zero]
    rw [List.take_of_length_le (by rw [flatsI_len]; exact Nat.le_refl _)]

theorem eop_appendZ (c : CallF) (k bytes : Nat) (z : List V) (s : V) (kd : IntKind) (n : Int) (h : Heap) : eop c (.appendZ k bytes z) [.v s, .v (.int kd n)] h = if 0 ≤ n ∧ n.toNat * bytes ≤ room ∧ n.toNat ≤ room then appH k bytes s n.toNat (List.replicate n.toNat z).flatten h else none := rfl
theorem pop_cap_nils : pop .cap [.v .nils] = some (.v (.int .i64 0)) := rfl
theorem appH_nils (k bytes n : Nat) (xs : List V) (h : Heap) : appH k bytes .nils n xs h = if n = 0 then some (.nils, h) else if n * bytes ≤ room ∧ n ≤ room then some (.slice h.length 0 n (.o k), h ++ [⟨.own, xs⟩]) else none := by
  simp only [appH]
  split
  · simp [lenV]
  · rfl
theorem grow_ok (h : Heap) (n : Nat) (hn : n ≤ 2 ^ 20) : ∃ r h', call p 436 [.nils, vi n] h = some (r, h') ∧ Gs h' h.length r [] n ∧ Keeps h h' ∧ h.length ≤ h'.length := by
  refine go (fn := g436) rfl rfl fun R hR => ?_
  have w0 : IntKind.i64.wrap (n : Int) = n := by rw [IntWalk.i64_in] <;> omega
  have wz : IntKind.i64.wrap 0 = 0 := by decide
  have c2 : (n : Int) * 8 ≤ (room : Int) := by unfold room; omega
  have c3 : n * 8 ≤ room := by unfold room; omega
  have c4 : n ≤ room := by unfold room; omega
  by_cases h0 : 0 < n
  · have h0' : ¬ n = 0 := by omega
    have hneg : ¬ (n : Int) < 0 := by omega
    simp [g436, w0, h0, h0', hneg, c2, c3, c4, wz, bounds, takeB, slcV, eop_appendZ, pop_cap_nils, appH_nils]
    exact hR _ _ ⟨.inr ⟨h.length, rfl, Nat.le_refl _, by simp [flats], by simp⟩, Keeps.append _ _, by simp⟩
  · have : n = 0 := by omega
    subst this
    simp [g436]
    exact hR _ _ ⟨.inl ⟨rfl, rfl, rfl⟩, Keeps.refl _, Nat.le_refl _⟩
end GL

namespace GL
open Go

theorem SdF.loadL {h : Heap} {v : V} {xss : List (List Int)} {F : List Nat} (hs : SdF h v xss F) (i : Nat) (hi : i < xss.length) : ∃ x F2, rdH h (bOf v) (oOf v + i) 1 = some [x] ∧ SdF h x xss[i] F2 ∧ (∀ b ∈ F2, b ∈ F) := by
  obtain ⟨cs, G1, G2, G3, e, ⟨x, rfl, hx⟩, hF⟩ := hs.load i hi
  refine ⟨x, G2, ?_, hx, fun b hb => by rw [hF]; simp [hb]⟩
  have hsz : Data.sz (List Int) = 1 := rfl
  rw [hsz, Nat.mul_one] at e
  exact e
theorem flat_take {xss : List (List Int)} {i : Nat} (hi : i < xss.length) : (xss.take (i + 1)).flatten = (xss.take i).flatten ++ xss[i] := by
  rw [List.take_succ_eq_append_getElem hi, List.flatten_append, List.flatten_singleton]
theorem flat_le (xss : List (List Int)) (i : Nat) : (xss.take i).flatten.length ≤ xss.flatten.length := by
  conv => rhs; rw [← List.take_append_drop i xss, List.flatten_append, List.length_append]
  omega

theorem concat_ok {h : Heap} {v : V} {xss : List (List Int)} {F : List Nat} (hs : SdF h v xss F) (hl : xss.flatten.length ≤ 2 ^ 20) :
    ∃ r h', call p 429 [v] h = some (r, h') ∧ ∃ G, SdF h' r xss.flatten G ∧ Fresh h.length h' G ∧ Keeps h h' ∧ h.length ≤ h'.length := by
  refine go (fn := g429) rfl rfl fun R hR => ?_
  obtain ⟨w0, h1, e1, g1, k1, l1⟩ := grow_ok h xss.flatten.length hl
  simp only [g429]
  simp [hs.len]
  refine Wc_upM (M := [3, 5, 11, 12, 13, 14, 15, 16, 17, 18, 19, 20, 21, 22]) rfl xss.length (fun i s => i ≤ xss.length ∧ s.σ 11 = .v (vi i) ∧ s.σ 3 = .v (vi (xss.take i).flatten.length) ∧ s.h = h) 0 (by simp) fun i s ⟨gi, g11, g3, gh⟩ hM J hJ => ?_
  by_cases hn : i < xss.length
  · obtain ⟨x, F2, e2, hx, _⟩ := hs.loadL i hn
    have ht := flat_take hn
    have hle := flat_le xss (i + 1)
    rw [ht, List.length_append] at hle
    have w1 : IntKind.i64.wrap (((xss.take i).flatten.length : Int) + (xss[i].length : Int)) = ((xss.take i).flatten.length + xss[i].length : Nat) := by rw [IntWalk.i64_in] <;> omega
    have hneg : ¬ (((xss.take i).flatten.length + xss[i].length : Nat) : Int) < 0 := by omega
    have ix := hs.idx 1 .i64 i hn
    simp only [Nat.mul_one] at ix
    simp [g429_0, hM, g11, g3, gh, hn, ix, e2, hx.len, w1, hneg, hs.step hn, -Int.natCast_add, -List.length_flatten]
    exact hJ _ hn ⟨hn, by simp, by rw [ht, List.length_append]; simp, rfl⟩
  · rw [List.take_of_length_le (by omega)] at g3
    simp [g429_0, hM, g11, g3, gh, hn, e1, hs.len, -List.length_flatten]
    refine Wc_upM (M := [6, 8, 27, 28, 29, 30, 31, 32, 33, 34]) rfl xss.length (fun i s => i ≤ xss.length ∧ s.σ 27 = .v (vi i) ∧ (∃ w, s.σ 6 = .v w ∧ Gs s.h h.length w (xss.take i).flatten xss.flatten.length) ∧ Keeps h s.h ∧ h.length ≤ s.h.length) 0 ⟨by omega, by simp, ⟨w0, by simp, by simpa using g1⟩, k1, l1⟩ fun i s ⟨gi, g27, ⟨w, g6, gs⟩, hk, hlen⟩ hM2 J hJ => ?_
    by_cases hn : i < xss.length
    · have hs2 := hs.keep hk
      obtain ⟨x, F2, e2, hx, _⟩ := hs2.loadL i hn
      have ht := flat_take hn
      have hle := flat_le xss (i + 1)
      rw [ht, List.length_append] at hle
      obtain ⟨w', h2, e3, gs2, keep, l2⟩ := gs.app xss[i] hle hlen
      have hk2 : Keeps h h2 := fun b blk hb hl => by
        have := get_lt hb
        exact keep b blk this (hk b blk hb hl)
      have ix := hs2.idx 1 .i64 i hn
      simp only [Nat.mul_one] at ix
      have rd := hx.sl.rdS xss[i].length (Nat.le_refl _)
      rw [List.take_length] at rd
      have rd' : rdS s.h 1 x xss[i].length = some (flats xss[i]) := rd
      simp [g429_1, hM2, hM, g27, g6, hn, ix, e2, hx.len, rd', e3, hs.step hn]
      exact hJ _ hn ⟨hn, by simp, ⟨w', by simp, by rw [ht]; exact gs2⟩, hk2, by show h.length ≤ h2.length; omega⟩
    · rw [List.take_of_length_le (by omega)] at gs
      obtain ⟨G, q1, q2⟩ := gs.sd rfl (by omega)
      simp [g429_1, hM2, hM, g27, g6, hn]
      exact hR _ _ ⟨G, q1, q2, hk, hlen⟩

/-- equal neighbours are made one -/
theorem compact_ok {h : Heap} {v : V} {zs : List Int} {F : List Nat} {lo : Nat} (hs : SdF h v zs F) (fr : Fresh lo h F) (hsort : zs.Pairwise (· ≤ ·)) :
    ∃ r h', call p 430 [v] h = some (r, h') ∧ ∃ ys G, SdF h' r ys G ∧ Fresh lo h' G ∧ ys.Pairwise (· < ·) ∧ (∀ x, x ∈ ys ↔ x ∈ zs) ∧ KeepsP (fun b => b ∉ F) h h' ∧ h'.length = h.length := by
  refine go (fn := g430) rfl rfl fun R hR => ?_
  have hbd := hs.bd
  by_cases h2 : zs.length < 2
  · have h2' : (zs.length : Int) < 2 := by omega
    simp [g430, hs.len, h2']
    refine hR _ _ ⟨zs, F, hs, fr, ?_, fun _ => Iff.rfl, KeepsP.refl _ _, rfl⟩
    rw [List.pairwise_iff_getElem]
    intro i j hi hj hij; omega
  · have h2' : ¬ (zs.length : Int) < 2 := by omega
    have hbF := hs.bIn (i := 0) (by omega)
    have srt : ∀ i j (hi : i < zs.length) (hj : j < zs.length), i ≤ j → zs[i] ≤ zs[j] := fun i j hi hj hij => by
      by_cases e : i = j
      · subst e; exact Int.le_refl _
      · exact (List.pairwise_iff_getElem.1 hsort) i j hi hj (by omega)
    simp only [g430]
    simp [hs.len, h2']
    refine Wc_upM (M := [2, 3, 4, 5, 10, 11, 12, 13, 14, 15, 16, 17, 18, 19, 20, 21, 22, 23, 24, 25, 26, 27, 28, 29, 30, 31, 32, 33, 34, 35, 36, 37, 38, 39, 40, 41, 42, 43, 44, 45, 46, 47, 48, 49, 50, 51, 52, 53, 54, 55, 56, 57, 58, 59]) rfl zs.length (fun k s => s.σ 3 = .v (vi k) ∧ s.h = h ∧ 1 ≤ k ∧ k ≤ zs.length ∧ (zs.take k).Pairwise (· < ·)) 1
      ⟨by simp, rfl, Nat.le_refl _, by omega, ?_⟩ fun k s ⟨g3, gh, k1, kl, q1⟩ hM J hJ => ?_
    · rw [List.pairwise_iff_getElem]
      intro i j hi hj hij; simp at hi hj; omega
    by_cases hn : k < zs.length
    · have wk : IntKind.i64.wrap ((k : Int) - 1) = (k - 1 : Nat) := by rw [IntWalk.i64_in] <;> omega
      have wk1 : IntKind.i64.wrap ((k : Int) + 1) = (k + 1 : Nat) := by rw [IntWalk.i64_in] <;> omega
      have hk1 : k - 1 < zs.length := by omega
      have ix := hs.idx 1 .i64 k hn
      have iy := hs.idx 1 .i64 (k - 1) hk1
      simp only [Nat.mul_one] at ix iy
      have l1 := hs.sl.loadI k hn
      have l2 := hs.sl.loadI (k - 1) hk1
      by_cases he : zs[k] = zs[k - 1]
      · -- from here on they are moved
        obtain ⟨v2, F2, s1, s2, m2, _⟩ := hs.sub (lo := some k) (hi := none) (i := k) (j := zs.length) rfl rfl (by omega) (Nat.le_refl _) (k := 1) rfl
        rw [List.take_length] at s2
        have len2 := s2.len
        rw [List.length_drop] at len2
        -- where the part lies
        have hpos : ∀ t, k + t < zs.length → bOf v2 = bOf v ∧ oOf v2 = oOf v + k := fun _ _ => by
          rcases hs with ⟨_, ⟨rfl, rfl, rfl⟩ | ⟨b, off, cap, rfl, hc, _⟩⟩
          · simp at hn
          · cases cap with
            | k c =>
              simp only [slcV, Option.getD_some, Option.getD_none, Nat.mul_one] at s1
              split at s1
              · split at s1
                · injection s1 with s1; subst s1; rename_i hh; have hc : zs.length ≤ c := hc; simp only [bOf, oOf]; omega
                · injection s1 with s1; subst s1; exact ⟨rfl, rfl⟩
              · cases s1
            | o k' =>
              simp only [slcV, Option.getD_some, Option.getD_none, Nat.mul_one] at s1
              split at s1
              · injection s1 with s1; subst s1; exact ⟨rfl, rfl⟩
              · cases s1
        obtain ⟨hb2, ho2⟩ := hpos 0 (by omega)
        simp [g430_1, hM, g3, gh, hn, hs.len, wk, ix, iy, l1, l2, he, bounds, takeB, s1]
        refine Wc_upM (M := [3, 5, 29, 30, 31, 32, 33, 34, 35, 36, 37, 38, 39, 40, 41, 42, 43, 44, 45, 46, 47, 48, 49, 50, 51, 52, 53]) rfl (zs.length - k) (fun j t => t.σ 5 = .v (vi j) ∧ 1 ≤ j ∧ j ≤ zs.length - k ∧ ∃ (m : Nat) (ys : List Int), t.σ 3 = .v (vi m) ∧ k ≤ m ∧ m ≤ k + j - 1 ∧ SdF t.h v ys F ∧ ys.length = zs.length ∧ ys.drop (k + j - 1) = zs.drop (k + j - 1) ∧ (ys.take m).Pairwise (· < ·) ∧ (∀ x, x ∈ ys.take m ↔ x ∈ zs.take (k + j)) ∧ KeepsP (fun b => b ≠ bOf v) h t.h ∧ t.h.length = h.length ∧ ∀ b, OwnB h b → OwnB t.h b) 1
          ⟨by simp, Nat.le_refl _, by omega, k, zs, by simp [g3], Nat.le_refl _, by omega, hs, rfl, rfl, q1, ?_, KeepsP.refl _ _, rfl, fun _ h => h⟩ fun j t ⟨g5, j1, jl, m, ys, g3', m1, m2', hy, hyl, hdr, hpw, hmem, hk, hl, ho⟩ hM2 J2 hJ2 => ?_
        · intro x
          rw [mem_take_succ hn]
          constructor
          · exact .inl
          · rintro (h | h)
            · exact h
            · rw [h, he]
              have : zs[k - 1] ∈ zs.take k := by
                rw [List.mem_take_iff_getElem]
                exact ⟨k - 1, by omega, rfl⟩
              exact this
        have hsub := hy.sub (lo := some k) (hi := none) (i := k) (j := ys.length) rfl rfl (by omega) (Nat.le_refl _) (k := 1) rfl
        have iy : ∀ q, q < zs.length - k → idxV 1 v2 (vi q) = some (.ptr (bOf v) (oOf v + (k + q))) := fun q hq => by
          have := s2.idx 1 .i64 q (by simp; omega)
          rw [hb2, ho2] at this
          simpa [Nat.add_assoc] using this
        have rd : ∀ q (hq : q < zs.length), k + j - 1 ≤ q → rdH t.h (bOf v) (oOf v + q) 1 = some [vi zs[q]] := fun q hq hge => by
          have a := hy.sl.loadI q (by omega)
          have b := congrArg (fun l => l[q - (k + j - 1)]?) hdr
          simp only [List.getElem?_drop] at b
          have e : k + j - 1 + (q - (k + j - 1)) = q := by omega
          rw [e, List.getElem?_eq_getElem (by omega), List.getElem?_eq_getElem hq] at b
          injection b with b
          rw [← b]; exact a
        by_cases hj : j < zs.length - k
        · have hkj : k + j < zs.length := by omega
          have hkj1 : k + j - 1 < zs.length := by omega
          have wj : IntKind.i64.wrap ((j : Int) - 1) = (j - 1 : Nat) := by rw [IntWalk.i64_in] <;> omega
          have wj1 : IntKind.i64.wrap ((j : Int) + 1) = (j + 1 : Nat) := by rw [IntWalk.i64_in] <;> omega
          have wm : IntKind.i64.wrap ((m : Int) + 1) = (m + 1 : Nat) := by rw [IntWalk.i64_in] <;> omega
          have i1 := iy j hj
          have i2 := iy (j - 1) (by omega)
          have r1 := rd (k + j) hkj (by omega)
          have r2 := rd (k + j - 1) hkj1 (Nat.le_refl _)
          have e0 : k + (j - 1) = k + j - 1 := by omega
          rw [e0] at i2
          have hdr' : ∀ ys' : List Int, ys'.drop (k + j - 1) = zs.drop (k + j - 1) → ys'.drop (k + (j + 1) - 1) = zs.drop (k + (j + 1) - 1) := fun ys' h => by
            have e : k + (j + 1) - 1 = k + j - 1 + 1 := by omega
            rw [e, ← List.drop_drop, ← List.drop_drop, h]
          have hjc : (j : Int) < ((zs.length - k : Nat) : Int) := by omega
          by_cases hne : zs[k + j] = zs[k + j - 1]
          · simp [g430_0, hM2, hM, g5, g3', len2, hjc, wj, i1, i2, r1, r2, hne, wj1, -Int.natCast_add]
            refine hJ2 _ hj ⟨by simp, by omega, by omega, m, ys, by simp [g3'], m1, by omega, hy, hyl, hdr' ys hdr, hpw, fun x => ?_, hk, hl, ho⟩
            rw [hmem x, ← Nat.add_assoc, mem_take_succ hkj]
            constructor
            · exact .inl
            · rintro (h | h)
              · exact h
              · rw [h, hne, List.mem_take_iff_getElem]
                exact ⟨k + j - 1, by omega, rfl⟩
          · obtain ⟨h3, e3, s3, k3, len3, o3⟩ := hy.putI (fun b hb => ho b (fr.own b hb)) (i := m) (by omega) zs[k + j]
            have im := hy.idx 1 .i64 m (by omega)
            simp only [Nat.mul_one] at im
            have hmk : m < ys.length := by omega
            have hlt : ∀ x ∈ ys.take m, x < zs[k + j] := fun x hx => by
              have := (hmem x).1 hx
              rw [List.mem_take_iff_getElem] at this
              obtain ⟨q, hq, rfl⟩ := this
              have a := srt q (k + j - 1) (by omega) hkj1 (by omega)
              have b := srt (k + j - 1) (k + j) hkj1 hkj (by omega)
              omega
            have htk : (ys.set m zs[k + j]).take (m + 1) = ys.take m ++ [zs[k + j]] := by
              rw [List.take_succ_eq_append_getElem (by simpa using hmk), List.take_set_of_le (Nat.le_refl _), List.getElem_set_self]
            simp [g430_0, hM2, hM, g5, g3', len2, hjc, wj, i1, i2, r1, r2, hne, im, e3, wm, wj1, -Int.natCast_add]
            refine hJ2 _ hj ⟨by simp, by omega, by omega, m + 1, _, by simp, by omega, by omega, s3, by simpa using hyl, ?_, ?_, fun x => ?_, hk.trans k3, by show h3.length = h.length; omega, fun b hb => o3 b (ho b hb)⟩
            · have e : k + (j + 1) - 1 = k + j - 1 + 1 := by omega
              rw [List.drop_set_of_lt (by omega)]
              exact hdr' ys hdr
            · rw [htk, List.pairwise_append]
              exact ⟨hpw, by simp, fun a ha b hb => by simp at hb; subst hb; exact hlt a ha⟩
            · rw [htk, List.mem_append, List.mem_singleton, hmem x, ← Nat.add_assoc, mem_take_succ hkj]
        · have hje : k + j = zs.length := by omega
          have hjc : ¬ (j : Int) < ((zs.length - k : Nat) : Int) := by omega
          have hml : m < ys.length := by omega
          obtain ⟨v1, h', v3, F3, c1, c2, c3, c4, c5, c6, c7, c8⟩ := clearI hy (fun b hb => ho b (fr.own b hb)) (i := m) hml
          have e3 : v.cells = [v] := hs.cells
          simp [g430_0, hM2, hM, g5, g3', len2, hjc, bounds, takeB, c1, c2, c3]
          rw [hje, List.take_length] at hmem
          refine hR _ _ ⟨ys.take m, F3, c4, ⟨c4.flatF.2.1, fun b hb => fr.ge b (c5 b hb), fun b hb => c8 b (ho b (fr.own b (c5 b hb)))⟩, hpw, hmem, (hk.trans c6).mono fun b hb e => hb (by rw [e]; exact hbF), by omega⟩
      · simp [g430_1, hM, g3, gh, hn, hs.len, wk, ix, iy, l1, l2, he, wk1, -Int.natCast_add]
        refine hJ _ hn ⟨by simp, rfl, by omega, hn, ?_⟩
        rw [List.take_succ_eq_append_getElem hn]
        refine ris_snoc q1 fun hp => ?_
        have e : (zs.take k).length - 1 = k - 1 := by simp; omega
        simp only [e, List.getElem_take]
        have := srt (k - 1) k hk1 hn (by omega)
        omega
    · have : k = zs.length := by omega
      subst this
      rw [List.take_length] at q1
      simp [g430_1, hM, g3, gh, hs.len]
      exact hR _ _ ⟨zs, F, hs, fr, q1, fun _ => Iff.rfl, KeepsP.refl _ _, rfl⟩
end GL

namespace GL
open Go

theorem SdF.lit {α : Type} [Data α] {h : Heap} {xs : List α} {cs : List V} {F : List Nat} (hr : Reps h xs cs F) (n : Nat) (hn : n = xs.length) (hl : xs.length < 2 ^ 63) :
    SdF (h ++ [⟨.own, cs⟩]) (.slice h.length 0 n (.k n)) xs (h.length :: F) := by
  subst hn
  have hr' := hr.keeps ((Keeps.append h [⟨.own, cs⟩]).p _)
  refine ⟨hl, .inr ⟨h.length, 0, .k xs.length, rfl, Nat.le_refl _, .inr ⟨⟨.own, cs⟩, cs, F, rfl, get_last _ _, by simp, ?_, hr'⟩⟩⟩
  simp only [cut, hr.len, Nat.zero_add, Nat.le_refl, if_true, List.drop_zero]
  rw [← hr.len, List.take_length]

theorem together_ok {h : Heap} {v w : V} {az bs : List Int} {F1 F2 : List Nat} (ha : SdF h v az F1) (hb : SdF h w bs F2) (hl : az.length + bs.length ≤ 2 ^ 20) :
    ∃ r h', call p 412 [v, w] h = some (r, h') ∧ ∃ ys G, SdF h' r ys G ∧ Fresh h.length h' G ∧ ys.Pairwise (· < ·) ∧ (∀ x, x ∈ ys ↔ x ∈ az ∨ x ∈ bs) ∧ Keeps h h' ∧ h.length ≤ h'.length := by
  refine go (fn := g412) rfl rfl fun R hR => ?_
  have hr : Reps h [az, bs] [v, w] (F1 ++ F2) := by
    have a : Reps h [az] [v] F1 := .one (show Data.rep h az [v] F1 from ⟨v, rfl, ha⟩)
    have b : Reps h [bs] [w] F2 := .one (show Data.rep h bs [w] F2 from ⟨w, rfl, hb⟩)
    exact a.append b
  have hs := SdF.lit hr 2 rfl (by simp)
  have k0 : Keeps h (h ++ [⟨.own, [v, w]⟩]) := Keeps.append _ _
  have hfl : [az, bs].flatten = az ++ bs := by simp
  obtain ⟨o, h1, e1, G, c1, f1, k1, l1⟩ := concat_ok hs (by rw [hfl]; simp; omega)
  rw [hfl] at c1
  obtain ⟨_, h2, e2, zs, rfl, c2, p2, s2, k2, l2, o2⟩ := sortI_ok c1 f1.own (by simp; omega)
  have f2 : Fresh (h.length + 1) h2 G := ⟨f1.nodup, fun b hb => by have := f1.ge b hb; simpa using this, fun b hb => o2 b (f1.own b hb)⟩
  obtain ⟨r, h3, e3, ys, G3, c3, f3, pw, hmem, k3, l3⟩ := compact_ok c2 f2 s2
  simp at l1
  have hge : ∀ b ∈ G, h.length + 1 ≤ b := fun b hb => by have := f1.ge b hb; simpa using this
  have kk := Keeps.far (n := h.length) (k0.trans k1) (k2.trans k3) (Nat.le_refl _) fun i hi hm => by have := hge i hm; omega
  simp [g412, ha.cells, ha.cell, hb.cells, hb.cell, fillL, e1, e2, e3]
  exact hR _ _ ⟨ys, G3, c3, f3.mono (by simp), pw, fun x => by rw [hmem x, p2.mem_iff, List.mem_append], kk, by omega⟩

theorem Out.appS {α : Type} [Flat α] {lo : Nat} {h : Heap} {v w : V} {xs zs : List α} (ho : Out lo h v xs) (hs : Sl h w zs) {bytes : Nat} (hb : bytes ≤ 2 ^ 8) (hl : xs.length + zs.length ≤ 2 ^ 30) {k n : Nat} (hk : k = Flat.sz α) (hn : n = zs.length) :
    ∃ ys v' h', GL.rdS h k w n = some ys ∧ appH k bytes v n ys h = some (v', h') ∧ Out lo h' v' (xs ++ zs) ∧ KeepsP (fun i => ¬ vB v i) h h' ∧ h.length ≤ h'.length := by
  subst hk; subst hn
  have e := hs.rdS zs.length (Nat.le_refl _)
  rw [List.take_length] at e
  by_cases h0 : zs.length = 0
  · have hz : zs = [] := List.length_eq_zero_iff.1 h0
    subst hz
    have := ho.sl.len
    exact ⟨_, v, h, e, by simp [appH, this], by simpa using ho, KeepsP.refl _ _, Nat.le_refl _⟩
  · obtain ⟨v', h', e1, o', k', l', _⟩ := ho.app zs (by omega) hb hl rfl rfl rfl
    exact ⟨_, v', h', e, e1, o', k', by omega⟩

/-- a number is put to its place, once -/
theorem l1Put_ok {h : Heap} {v : V} {xs : List Int} {F : List Nat} (hs : SdF h v xs F) (hr : xs.Pairwise (· < ·)) (hl : xs.length ≤ 2 ^ 20) (n : Int) :
    ∃ r h', call p 410 [v, vi n] h = some (r, h') ∧ ∃ ys G, SdF h' r ys G ∧ ys.Pairwise (· < ·) ∧ (∀ x, x ∈ ys ↔ x ∈ xs ∨ x = n) ∧ ys.length ≤ xs.length + 1 ∧ (∀ b ∈ G, b ∈ F ∨ h.length ≤ b) ∧ Keeps h h' ∧ h.length ≤ h'.length := by
  refine go (fn := g410) rfl rfl fun R hR => ?_
  have hsl := hs.sl
  simp only [g410]
  simp
  refine Wc_upM (M := [5, 7, 8, 9, 10, 11, 12, 13, 14, 15, 16, 17, 18, 19, 20]) rfl xs.length (fun i s => i ≤ xs.length ∧ s.σ 5 = .v (vi i) ∧ s.h = h ∧ ∀ y ∈ xs.take i, y < n) 0 (by simp) fun i s ⟨gi, g5, gh, hall⟩ hM J hJ => ?_
  by_cases hc : ∃ hn : i < xs.length, xs[i] < n
  · obtain ⟨hn, hlt⟩ := hc
    simp [g410_0, hM, g5, gh, hsl.len, hn, hsl.idx, hsl.loadI, hlt, hsl.step hn]
    exact hJ _ hn ⟨hn, by simp, rfl, (all_take_succ hn).2 ⟨hall, hlt⟩⟩
  · -- all behind are greater, or equal
    have hge : ∀ y ∈ xs.drop i, n ≤ y := fun y hy => by
      obtain ⟨q, hq, rfl⟩ := List.getElem_of_mem hy
      rw [List.length_drop] at hq
      rw [List.getElem_drop]
      have hi : i < xs.length := by omega
      have a : ¬ xs[i] < n := fun h => hc ⟨hi, h⟩
      by_cases e : q = 0
      · subst e; simp only [Nat.add_zero]; omega
      · have := (List.pairwise_iff_getElem.1 hr) i (i + q) hi (by omega) (by omega); omega
    have new : (∀ hi : i < xs.length, xs[i] ≠ n) → (xs.take i ++ [n] ++ xs.drop i).Pairwise (· < ·) := fun hne => by
      rw [List.append_assoc, List.pairwise_append]
      refine ⟨hr.sublist (List.take_sublist ..), ?_, fun a ha b hb => ?_⟩
      · rw [List.singleton_append, List.pairwise_cons]
        refine ⟨fun y hy => ?_, hr.sublist (List.drop_sublist ..)⟩
        have h1 := hge y hy
        obtain ⟨q, hq, rfl⟩ := List.getElem_of_mem hy
        rw [List.length_drop] at hq
        rw [List.getElem_drop] at h1 ⊢
        by_cases e : q = 0
        · subst e
          have := hne (by omega)
          simp only [Nat.add_zero] at h1 ⊢; omega
        · have hi : i < xs.length := by omega
          have := (List.pairwise_iff_getElem.1 hr) i (i + q) hi (by omega) (by omega)
          have a : ¬ xs[i] < n := fun h => hc ⟨hi, h⟩
          omega
      · have h1 := hall a ha
        rcases List.mem_append.1 hb with hb | hb
        · simp at hb; omega
        · have := hge b hb; omega
    have mem : ∀ x, x ∈ xs.take i ++ [n] ++ xs.drop i ↔ x ∈ xs ∨ x = n := fun x => by
      conv => rhs; rw [← List.take_append_drop i xs]
      simp only [List.mem_append, List.mem_singleton]
      constructor
      · rintro ((h | h) | h)
        · exact .inl (.inl h)
        · exact .inr h
        · exact .inl (.inr h)
      · rintro ((h | h) | h)
        · exact .inl (.inl h)
        · exact .inr h
        · exact .inl (.inr h)
    -- the three parts
    obtain ⟨v1, F1, s1, t1, m1, b1⟩ := hs.sub (lo := none) (hi := some i) (i := 0) (j := i) rfl rfl (Nat.zero_le _) gi (k := 1) rfl
    obtain ⟨v2, F2, s2, t2, m2, b2⟩ := hs.sub (lo := some i) (hi := none) (i := i) (j := xs.length) rfl rfl gi (Nat.le_refl _) (k := 1) rfl
    rw [List.drop_zero] at t1
    rw [List.take_length] at t2
    have ka : Keeps h (h ++ [⟨.own, []⟩]) := Keeps.append _ _
    have o0 : Out h.length (h ++ [⟨.own, []⟩]) (.slice h.length 0 0 (.k 0)) ([] : List Int) := Out.empty (Nat.le_refl _) (by simp)
    have hl1 : (xs.take i).length = i := by simp; omega
    obtain ⟨ys1, w1, h2, e3, e4, o1, k2, l2⟩ := o0.appS (t1.keep ka).sl (bytes := 8) (by decide) (by simp; omega) (k := 1) rfl (n := i) hl1.symm
    have k02 : Keeps h h2 := Keeps.far (n := h.length) ka k2 (Nat.le_refl _) fun i hi hv => by have := (o0.ge hv).1; omega
    simp only [List.nil_append] at o1
    obtain ⟨w2, h3, e5, o2, k3, l3⟩ := o1.one n (by simp; omega)
    have k03 := o1.far k02 k3 (Nat.le_refl _)
    have hl2 : (xs.drop i).length = xs.length - i := by simp
    obtain ⟨ys2, w3, h4, e6, e7, o3, k4, l4⟩ := o2.appS (t2.keep k03).sl (bytes := 8) (by decide) (by simp; omega) (k := 1) rfl (n := xs.length - i) hl2.symm
    have k04 := o2.far k03 k4 (Nat.le_refl _)
    obtain ⟨G, q1, q2⟩ := o3.fr
    have len1 := t1.len
    have len2 := t2.len
    rw [hl1] at len1
    rw [hl2] at len2
    by_cases hn : i < xs.length
    · have hlt : ¬ xs[i] < n := fun h => hc ⟨hn, h⟩
      by_cases he : xs[i] = n
      · simp [g410_0, hM, g5, gh, hsl.len, hn, hsl.idx, hsl.loadI, he]
        refine hR _ _ ⟨xs, F, hs, hr, fun x => ⟨.inl, ?_⟩, by omega, fun b hb => .inl hb, Keeps.refl _, Nat.le_refl _⟩
        rintro (h | h)
        · exact h
        · rw [h, ← he]; exact List.getElem_mem _
      · simp [g410_0, hM, g5, gh, hsl.len, hn, hsl.idx, hsl.loadI, hlt, he, fillL, bounds, takeB, s1, s2, len1, len2, e3, e4, rdS_last, e5, e6, e7]
        exact hR _ _ ⟨_, G, q1, new fun _ => he, mem, by simp; omega, fun b hb => .inr (q2.ge b hb), k04, by simp at l2; omega⟩
    · simp [g410_0, hM, g5, gh, hsl.len, hn, fillL, bounds, takeB, s1, s2, len1, len2, e3, e4, rdS_last, e5, e6, e7]
      exact hR _ _ ⟨_, G, q1, new fun h => absurd h hn, mem, by simp; omega, fun b hb => .inr (q2.ge b hb), k04, by simp at l2; omega⟩
end GL

namespace GL
open Go

def okPl (x : Pl) : Bool := decide (0 ≤ x.prom ∧ x.prom ≤ 40) && (decide (x.taken = 0 ∧ x.word = 0) || decide ((1 ≤ x.taken ∧ x.taken ≤ x.prom) ∧ (1 ≤ x.word ∧ x.word ≤ 99)))
end GL

namespace GL
open Go

def zP : Pl := ⟨0, 0, 0⟩
def ask1 (no : Int) (st : List Pl × Nat × Int × Int) (k : Int) : List Pl × Nat × Int × Int :=
  if no ≤ (st.1.getD k.toNat zP).prom then st else
    (st.1.set k.toNat ⟨no, (st.1.getD k.toNat zP).taken, (st.1.getD k.toNat zP).word⟩, st.2.1 + 1, if st.2.2.1 < (st.1.getD k.toNat zP).taken then ((st.1.getD k.toNat zP).taken, (st.1.getD k.toNat zP).word) else st.2.2)
def askR (l : List Pl) (no : Int) (who : List Int) : List Pl × Nat × Int × Int := who.foldl (ask1 no) (l, 0, 0, 0)
def take1 (no word : Int) (st : List Pl × List Int) (k : Int) : List Pl × List Int :=
  if (st.1.getD k.toNat zP).prom ≤ no then (st.1.set k.toNat ⟨no, no, word⟩, st.2 ++ [k]) else st
def takeR (l : List Pl) (no word : Int) (who : List Int) : List Pl × List Int := who.foldl (take1 no word) (l, [])

theorem askR_snoc (l : List Pl) (no : Int) {who : List Int} {i : Nat} (hi : i < who.length) : askR l no (who.take (i + 1)) = ask1 no (askR l no (who.take i)) who[i] := by
  rw [List.take_succ_eq_append_getElem hi, askR, List.foldl_append]; rfl
theorem takeR_snoc (l : List Pl) (no word : Int) {who : List Int} {i : Nat} (hi : i < who.length) : takeR l no word (who.take (i + 1)) = take1 no word (takeR l no word (who.take i)) who[i] := by
  rw [List.take_succ_eq_append_getElem hi, takeR, List.foldl_append]; rfl
theorem ask1_len (no : Int) (st : List Pl × Nat × Int × Int) (k : Int) : (ask1 no st k).1.length = st.1.length := by unfold ask1; split <;> simp
theorem take1_len (no word : Int) (st : List Pl × List Int) (k : Int) : (take1 no word st k).1.length = st.1.length := by unfold take1; split <;> simp
theorem askR_len (l : List Pl) (no : Int) (who : List Int) : (askR l no who).1.length = l.length := by
  have : ∀ (who : List Int) (st : List Pl × Nat × Int × Int), (who.foldl (ask1 no) st).1.length = st.1.length := by
    intro who; induction who with
    | nil => intro st; rfl
    | cons k ks ih => intro st; rw [List.foldl_cons, ih, ask1_len]
  exact this who _
theorem takeR_len (l : List Pl) (no word : Int) (who : List Int) : (takeR l no word who).1.length = l.length := by
  have : ∀ (who : List Int) (st : List Pl × List Int), (who.foldl (take1 no word) st).1.length = st.1.length := by
    intro who; induction who with
    | nil => intro st; rfl
    | cons k ks ih => intro st; rw [List.foldl_cons, ih, take1_len]
  exact this who _
/-- who was not yet asked stands az it stood -/
theorem askR_rest (l : List Pl) (no : Int) {who : List Int} (h0 : ∀ k ∈ who, 0 ≤ k) (hr : who.Pairwise (· < ·)) {i : Nat} (hi : i ≤ who.length) (j : Nat) (hj : ∀ k ∈ who.take i, k < j) : (askR l no (who.take i)).1[j]? = l[j]? := by
  induction i with
  | zero => simp [askR]
  | succ i ih =>
    have hil : i < who.length := by omega
    have ht := List.take_succ_eq_append_getElem hil
    have hlt : who[i] < j := hj _ (by rw [ht]; exact List.mem_append_right _ (List.mem_singleton.2 rfl))
    have hge := h0 who[i] (List.getElem_mem _)
    rw [askR_snoc l no hil]
    have := ih (by omega) fun k hk => hj k (by rw [ht]; exact List.mem_append_left _ hk)
    unfold ask1
    split
    · exact this
    · rw [List.getElem?_set_ne (by omega)]; exact this
theorem takeR_rest (l : List Pl) (no word : Int) {who : List Int} (h0 : ∀ k ∈ who, 0 ≤ k) (hr : who.Pairwise (· < ·)) {i : Nat} (hi : i ≤ who.length) (j : Nat) (hj : ∀ k ∈ who.take i, k < j) : (takeR l no word (who.take i)).1[j]? = l[j]? := by
  induction i with
  | zero => simp [takeR]
  | succ i ih =>
    have hil : i < who.length := by omega
    have ht := List.take_succ_eq_append_getElem hil
    have hlt : who[i] < j := hj _ (by rw [ht]; exact List.mem_append_right _ (List.mem_singleton.2 rfl))
    have hge := h0 who[i] (List.getElem_mem _)
    rw [takeR_snoc l no word hil]
    have := ih (by omega) fun k hk => hj k (by rw [ht]; exact List.mem_append_left _ hk)
    unfold take1
    split
    · rw [List.getElem?_set_ne (by omega)]; exact this
    · exact this
theorem ris_take {who : List Int} (hr : who.Pairwise (· < ·)) {i : Nat} (hi : i < who.length) : ∀ k ∈ who.take i, k < who[i] := fun k hk => by
  obtain ⟨j, hj, rfl⟩ := List.getElem_of_mem hk
  rw [List.length_take] at hj
  rw [List.getElem_take]
  exact (List.pairwise_iff_getElem.1 hr) j i (by omega) hi (by omega)
theorem ask1_at (no : Int) (st : List Pl × Nat × Int × Int) {k : Nat} (hk : k < st.1.length) : ask1 no st k = if no ≤ st.1[k].prom then st else (st.1.set k ⟨no, st.1[k].taken, st.1[k].word⟩, st.2.1 + 1, if st.2.2.1 < st.1[k].taken then (st.1[k].taken, st.1[k].word) else st.2.2) := by
  unfold ask1
  have e : st.1.getD (k : Int).toNat zP = st.1[k] := by simp [hk]
  rw [e]; rfl
theorem take1_at (no word : Int) (st : List Pl × List Int) {k : Nat} (hk : k < st.1.length) : take1 no word st k = if st.1[k].prom ≤ no then (st.1.set k ⟨no, no, word⟩, st.2 ++ [(k : Int)]) else st := by
  unfold take1
  have e : st.1.getD (k : Int).toNat zP = st.1[k] := by simp [hk]
  rw [e]; rfl
end GL

namespace GL
open Go

end GL

namespace GL
open Go

theorem risB_facts {lo hi : Int} {who : List Int} (h : risB lo hi who = true) : (∀ k ∈ who, lo ≤ k ∧ k ≤ hi) ∧ who.Pairwise (· < ·) := by
  simpa only [risB, decide_eq_true_eq] using h
theorem ris_len {n : Nat} {who : List Int} (h : risB 0 ((n : Int) - 1) who = true) : who.length ≤ n := by
  obtain ⟨h1, h2⟩ := risB_facts h
  have key : ∀ i (hi : i < who.length), (i : Int) ≤ who[i] := by
    intro i
    induction i with
    | zero => intro hi; exact (h1 _ (List.getElem_mem hi)).1
    | succ i ih =>
      intro hi
      have a := ih (by omega)
      have b := (List.pairwise_iff_getElem.1 h2) i (i + 1) (by omega) hi (by omega)
      omega
  by_cases h0 : who.length = 0
  · omega
  · have a := key (who.length - 1) (by omega)
    have b := (h1 _ (List.getElem_mem (l := who) (n := who.length - 1) (by omega))).2
    omega

end GL

namespace GL
open Go

def newP (n : Int) : List Pl := if manyB n = true then List.replicate n.toNat zP else []
end GL

namespace GL
open Go

/-! groups of most places -/
theorem rise_count (P : Nat → Bool) : ∀ (n : Nat) (A : List Int), A.Pairwise (· < ·) → (∀ k ∈ A, 0 ≤ k ∧ k < n) → (∀ k ∈ A, P k.toNat = true) → A.length ≤ (List.range n).countP P
  | 0, A, _, h2, _ => by
    cases A with
    | nil => simp
    | cons k A => have := h2 k (List.mem_cons_self ..); omega
  | n + 1, A, h1, h2, h3 => by
    rw [List.range_succ, List.countP_append]
    rcases List.eq_nil_or_concat A with rfl | ⟨B, k, rfl⟩
    · simp
    · rw [List.concat_eq_append] at *
      rw [List.pairwise_append] at h1
      have hk := h2 k (by simp)
      have hB : ∀ j ∈ B, 0 ≤ j ∧ j < n := fun j hj => by
        have a := h2 j (by simp [hj])
        have b := h1.2.2 j hj k (by simp)
        omega
      have ih := rise_count P n B h1.1 hB fun j hj => h3 j (by simp [hj])
      by_cases e : k = n
      · have := h3 k (by simp)
        rw [e] at this
        simp only [Int.toNat_natCast] at this
        simp only [List.length_append, List.length_singleton, List.countP_cons, List.countP_nil, this]
        simp; omega
      · have ih2 := rise_count P n (B ++ [k]) (by rw [List.pairwise_append]; exact h1) (fun j hj => by
          rcases List.mem_append.1 hj with hj | hj
          · exact hB j hj
          · simp at hj; subst hj; omega) h3
        omega
theorem countP_range {l : List Pl} (Q : Pl → Bool) : (List.range l.length).countP (fun j => Q (l.getD j zP)) = l.countP Q := by
  have : l = (List.range l.length).map fun j => l.getD j zP := by
    refine List.ext_getElem (by simp) fun i h1 h2 => ?_
    simp [h1]
  conv => rhs; rw [this, List.countP_map]
  rfl
theorem quorum {l : List Pl} {A : List Int} (hr : A.Pairwise (· < ·)) (h0 : ∀ k ∈ A, 0 ≤ k ∧ k < l.length) (Q : Pl → Bool) (hA : l.length / 2 + 1 ≤ A.length) (hQ : l.length / 2 + 1 ≤ l.countP Q) :
    ∃ k : Nat, (k : Int) ∈ A ∧ ∃ hk : k < l.length, Q l[k] = true := by
  apply Classical.byContradiction
  intro hno
  have hc := rise_count (fun j => !Q (l.getD j zP)) l.length A hr h0 fun k hk => by
    have := h0 k hk
    obtain ⟨j, rfl⟩ := Int.eq_ofNat_of_zero_le this.1
    have hj : j < l.length := by omega
    simp only [Int.toNat_natCast]
    have e : l.getD j zP = l[j] := by simp [hj]
    rw [e]
    cases hq : Q l[j]
    · rfl
    · exact absurd ⟨j, hk, hj, hq⟩ hno
  have e1 := countP_range (l := l) Q
  have e2 := List.length_eq_countP_add_countP (fun j => Q (l.getD j zP)) (l := List.range l.length)
  rw [List.length_range, e1] at e2
  have e3 : (List.range l.length).countP (fun a => decide ¬Q (l.getD a zP) = true) = (List.range l.length).countP (fun j => !Q (l.getD j zP)) := by
    congr 1; funext j; cases Q (l.getD j zP) <;> rfl
  rw [e3] at e2
  omega

def asked (l : List Pl) (no : Int) (who : List Int) : List Int := who.filter fun k => decide ((l.getD k.toNat zP).prom < no)
theorem askR_asked (l : List Pl) (no : Int) {who : List Int} (h0 : ∀ k ∈ who, 0 ≤ k ∧ k < l.length) (hr : who.Pairwise (· < ·)) (hok : ∀ x ∈ l, okPl x = true) : ∀ i, i ≤ who.length →
    (askR l no (who.take i)).2.1 = (asked l no (who.take i)).length ∧ 0 ≤ (askR l no (who.take i)).2.2.1 ∧ (∀ k ∈ asked l no (who.take i), (l.getD k.toNat zP).taken ≤ (askR l no (who.take i)).2.2.1) ∧
      (((askR l no (who.take i)).2.2 = (0, 0)) ∨ ∃ k ∈ asked l no (who.take i), (askR l no (who.take i)).2.2 = ((l.getD k.toNat zP).taken, (l.getD k.toNat zP).word) ∧ 0 < (l.getD k.toNat zP).taken) := by
  intro i
  induction i with
  | zero => intro _; simp [askR, asked]
  | succ i ih =>
    intro hi
    have hn : i < who.length := by omega
    obtain ⟨i1, i2, i3, i4⟩ := ih (by omega)
    obtain ⟨b0, b1⟩ := h0 who[i] (List.getElem_mem hn)
    obtain ⟨k, hkk⟩ := Int.eq_ofNat_of_zero_le b0
    have hkl : k < l.length := by omega
    have hko : k < (askR l no (who.take i)).1.length := by rw [askR_len]; exact hkl
    have hsame : (askR l no (who.take i)).1[k] = l[k] := by
      have := askR_rest l no (fun k hk => (h0 k hk).1) hr (by omega : i ≤ who.length) k (fun j hj => by have := ris_take hr hn j hj; omega)
      rw [List.getElem?_eq_getElem hko, List.getElem?_eq_getElem hkl] at this
      injection this
    have hst := askR_snoc l no hn
    rw [hkk, ask1_at no _ hko, hsame] at hst
    have hgd : l.getD (k : Int).toNat zP = l[k] := by simp [hkl]
    have hf : asked l no (who.take (i + 1)) = asked l no (who.take i) ++ if l[k].prom < no then [(k : Int)] else [] := by
      rw [asked, List.take_succ_eq_append_getElem hn, List.filter_append, hkk, List.filter_cons, hgd]
      simp only [List.filter_nil, decide_eq_true_eq]; rfl
    have hk0 := hok l[k] (List.getElem_mem _)
    simp only [okPl, Bool.and_eq_true, Bool.or_eq_true, decide_eq_true_eq] at hk0
    rw [hst, hf]
    by_cases hp : no ≤ l[k].prom
    · rw [if_pos hp, if_neg (by omega : ¬ l[k].prom < no), List.append_nil]
      exact ⟨i1, i2, i3, i4⟩
    · have hlt : l[k].prom < no := by omega
      rw [if_neg hp, if_pos hlt]
      refine ⟨by simp [i1], ?_⟩
      simp only
      by_cases ht : (askR l no (who.take i)).2.2.1 < l[k].taken
      · rw [if_pos ht]
        refine ⟨by simp only; omega, fun j hj => ?_, .inr ⟨k, by simp, by rw [hgd], by rw [hgd]; omega⟩⟩
        rcases List.mem_append.1 hj with hj | hj
        · have := i3 j hj; simp only; omega
        · rw [List.mem_singleton] at hj; subst hj; rw [hgd]; exact Int.le_refl _
      · rw [if_neg ht]
        refine ⟨i2, fun j hj => ?_, ?_⟩
        · rcases List.mem_append.1 hj with hj | hj
          · exact i3 j hj
          · rw [List.mem_singleton] at hj; subst hj; rw [hgd]; omega
        · rcases i4 with h | ⟨j, hj, e⟩
          · exact .inl h
          · exact .inr ⟨j, List.mem_append_left _ hj, e⟩

/-- what is told to one who asked most -/
theorem ask_told {l : List Pl} {no : Int} {who : List Int} (hok : ∀ x ∈ l, okPl x = true) (h0 : ∀ k ∈ who, 0 ≤ k ∧ k < l.length) (hr : who.Pairwise (· < ·)) (hq : l.length / 2 + 1 ≤ (askR l no who).2.1) {t w : Int} (ht : 0 < t)
    (hc : l.length / 2 + 1 ≤ l.countP fun y => decide (t ≤ y.taken)) (hw : ∀ x ∈ l, t ≤ x.taken → x.word = w) : (askR l no who).2.2.2 = w := by
  obtain ⟨i1, i2, i3, i4⟩ := askR_asked l no h0 hr hok who.length (Nat.le_refl _)
  rw [List.take_length] at i1 i2 i3 i4
  rw [i1] at hq
  have hsub : ∀ k ∈ asked l no who, k ∈ who := fun k hk => (List.mem_filter.1 hk).1
  obtain ⟨k, hk, hkl, hkq⟩ := quorum (hr.filter _) (fun k hk => h0 k (hsub k hk)) (fun y => decide (t ≤ y.taken)) hq hc
  have a := i3 k hk
  have hgd : ∀ (j : Nat), (hj : j < l.length) → l.getD (j : Int).toNat zP = l[j] := fun j hj => by simp [hj]
  rw [hgd k hkl] at a
  simp only [decide_eq_true_eq] at hkq
  rcases i4 with e | ⟨j, hj, e, hp⟩
  · rw [e] at a; simp only at a; omega
  · have hj0 := h0 j (hsub j hj)
    obtain ⟨m, rfl⟩ := Int.eq_ofNat_of_zero_le hj0.1
    rw [hgd m (by omega)] at e
    rw [e] at a ⊢
    exact hw _ (List.getElem_mem _) (by simp only at a; omega)

end GL

namespace GL
open Go

theorem OdF.draw {α : Type} [Data α] {h0 h h1 g : Heap} {N lo : Nat} {v : V} {xs : List α} {G G' : List Nat} (d : DC h0 h1 N) (kb : KeepsBut h0.length g h1) (o : OdF lo h v xs G) (k1 : KeepsBut h0.length h h1) (l1 : h.length ≤ h1.length) (hlo : g.length ≤ lo) (hc : h0.length < lo)
    (fr : Fresh h.length h1 G') {x : α} {cs : List V} (hr : Data.rep h1 x cs G') (hx : xs.length ≤ 2 ^ 20) {k bytes : Nat} (hk : k = Data.sz α) (hb : bytes ≤ 2 ^ 8) :
    ∃ v' h2, appH k bytes v 1 cs (h1 ++ [⟨.own, cs⟩]) = some (v', h2) ∧ OdF lo h2 v' (xs ++ [x]) (G ++ G') ∧ DC h0 h2 N ∧ KeepsBut h0.length g h2 ∧ h1.length < h2.length := by
  obtain ⟨od, fg⟩ := o
  have hge := fun i (hi : vB v i) => od.ge hi
  have kl : Keeps h1 (h1 ++ [⟨.own, cs⟩]) := Keeps.append h1 _
  have kp1 : KeepsP (fun b => b ≠ h0.length) h (h1 ++ [⟨.own, cs⟩]) := k1.P.trans (kl.p _)
  have nG : ∀ b ∈ G, b ≠ h0.length := fun b hb => by have := fg.ge b hb; omega
  have od1 : Od lo (h1 ++ [⟨.own, cs⟩]) v xs G := od.keeps kp1 (fun i hi => by have := (hge i hi).1; omega) nG (by simp; omega)
  have hnv : ∀ b ∈ G', ¬ vB v b := fun b hb hv => by have := (hge b hv).2; have := fr.ge b hb; omega
  have hnvG : ∀ b ∈ G, ¬ vB v b := fun b hb hv => by
    obtain ⟨_, _, ⟨rfl, _⟩ | ⟨b1, cs1, rfl, _, _, _, hn⟩ | ⟨b1, rfl, _, hG, _⟩⟩ := od
    · obtain ⟨_, _, _, e⟩ := hv; cases e
    · obtain ⟨_, _, _, e⟩ := hv; cases e; exact hn hb
    · rw [hG] at hb; cases hb
  obtain ⟨v', h2, e, o2, kp, l2, b2⟩ := od1.app (zs := [x]) (G := G') (by simp) (.one (Data.keeps hr (kl.p _))) hnv hb (by simp; omega) hk rfl
  have k2 : KeepsP (fun i => ¬ vB v i) h1 h2 := fun i blk hi h3 h4 => kp i blk hi (kl i blk h3 h4) h4
  have f1 := (fg.keeps (k1.P.mono nG)).keeps (k2.mono hnvG)
  have f2 := fr.keeps (k2.mono hnv)
  refine ⟨v', h2, e, ⟨o2, List.nodup_append.2 ⟨fg.nodup, fr.nodup, fun a ha b hb e => ?_⟩, fun b hb => ?_, fun b hb => ?_⟩, d.far k2 fun i hi hv => by have := (hge i hv).1; omega, kb.far k2 fun i hi _ hv => by have := (hge i hv).1; omega, by simp at l2; omega⟩
  · have := (fg.own a ha).lt; have := fr.ge b hb; omega
  · rcases List.mem_append.1 hb with hb | hb
    · exact fg.ge b hb
    · have := fr.ge b hb; have := od.2.1; omega
  · rcases List.mem_append.1 hb with hb | hb
    · exact f1.own b hb
    · exact f2.own b hb

structure Bt where
  no : Int
  word : Int
  fst : List Int
  snd : List Int
instance btData : Data Bt where
  sz := 4
  pos := by decide
  rep := fun h c cs F => ∃ x y F1 F2, cs = [vi c.no, vi c.word, x, y] ∧ F = F1 ++ F2 ∧ SdF h x c.fst F1 ∧ SdF h y c.snd F2
  len := by rintro h a cs F ⟨x, y, F1, F2, rfl, _⟩; rfl
  ok := by rintro h a cs F ⟨x, y, F1, F2, rfl, _, h1, h2⟩; simp [allCell, h1.cell, h2.cell, cell_int]
  keeps := by
    rintro h h' a cs F ⟨x, y, F1, F2, rfl, rfl, h1, h2⟩ hk
    exact ⟨x, y, F1, F2, rfl, rfl, h1.keeps (hk.mono fun b hb => List.mem_append_left _ hb), h2.keeps (hk.mono fun b hb => List.mem_append_right _ hb)⟩
  lt := by
    rintro h a cs F b ⟨x, y, F1, F2, rfl, rfl, h1, h2⟩ hb
    rcases List.mem_append.1 hb with hb | hb
    · exact h1.lt hb
    · exact h2.lt hb
end GL

namespace GL
open Go

end GL

namespace GL
open Go

def okBt (n : Int) (b : Bt) : Bool := decide (1 ≤ b.no ∧ b.no ≤ 40) && decide (1 ≤ b.word ∧ b.word ≤ 99) && risB 0 (n - 1) b.fst && risB 0 (n - 1) b.snd

def runOk (l : List Pl) (b : Bt) : Bool := decide (l.length / 2 + 1 ≤ (askR l b.no b.fst).2.1)
def runWd (l : List Pl) (b : Bt) : Int := if (askR l b.no b.fst).2.2.2 = 0 then b.word else (askR l b.no b.fst).2.2.2
def runT (l : List Pl) (b : Bt) : List Pl × List Int := takeR (askR l b.no b.fst).1 b.no (runWd l b) b.snd
def runP (l : List Pl) (b : Bt) : List Pl := if runOk l b = true then (runT l b).1 else (askR l b.no b.fst).1
def runW (l : List Pl) (b : Bt) : Int := if runOk l b = true then if l.length / 2 + 1 ≤ (runT l b).2.length then runWd l b else 0 else 0
theorem runP_len (l : List Pl) (b : Bt) : (runP l b).length = l.length := by
  unfold runP runT
  split
  · rw [takeR_len, askR_len]
  · rw [askR_len]

end GL

namespace GL
open Go

def ltBt (a b : Bt) : Prop := a.no < b.no
instance (a b : Bt) : Decidable (ltBt a b) := by unfold ltBt; infer_instance
def btsB (n : Int) (bs : List Bt) : Bool := manyB n && decide (bs.length ≤ 40) && bs.all (okBt n) && decide (bs.Pairwise ltBt)
def stepB (st : List Pl × List Int) (b : Bt) : List Pl × List Int := (runP st.1 b, st.2 ++ [runW st.1 b])
def runAll (n : Int) (bs : List Bt) : List Pl × List Int := bs.foldl stepB (newP n, [])
theorem runAll_snoc (n : Int) {bs : List Bt} {i : Nat} (hi : i < bs.length) : runAll n (bs.take (i + 1)) = stepB (runAll n (bs.take i)) bs[i] := by
  rw [List.take_succ_eq_append_getElem hi, runAll, List.foldl_append]; rfl
theorem runAll_len (n : Int) (bs : List Bt) : (runAll n bs).1.length = (newP n).length ∧ (runAll n bs).2.length = bs.length := by
  have : ∀ (bs : List Bt) (st : List Pl × List Int), (bs.foldl stepB st).1.length = st.1.length ∧ (bs.foldl stepB st).2.length = st.2.length + bs.length := by
    intro bs; induction bs with
    | nil => intro st; exact ⟨rfl, rfl⟩
    | cons b bs ih =>
      intro st; rw [List.foldl_cons]
      obtain ⟨a, c⟩ := ih (stepB st b)
      refine ⟨by rw [a, stepB, runP_len], ?_⟩
      rw [c, stepB, List.length_append, List.length_cons]; simp; omega
  have := this bs (newP n, [])
  simp only [List.length_nil, Nat.zero_add] at this
  exact this
theorem newP_len {n : Nat} (hm : manyB n = true) : (newP n).length = n := by rw [newP, if_pos hm]; simp
theorem okBt_facts {n : Nat} {b : Bt} (h : okBt n b = true) : (1 ≤ b.no ∧ b.no ≤ 40) ∧ (1 ≤ b.word ∧ b.word ≤ 99) ∧ ((∀ k ∈ b.fst, 0 ≤ k ∧ k < n) ∧ b.fst.Pairwise (· < ·)) ∧ ((∀ k ∈ b.snd, 0 ≤ k ∧ k < n) ∧ b.snd.Pairwise (· < ·)) ∧ b.fst.length ≤ n ∧ b.snd.length ≤ n := by
  simp only [okBt, Bool.and_eq_true, decide_eq_true_eq] at h
  obtain ⟨⟨⟨h1, h2⟩, h3⟩, h4⟩ := h
  obtain ⟨a1, a2⟩ := risB_facts h3
  obtain ⟨b1, b2⟩ := risB_facts h4
  exact ⟨h1, h2, ⟨fun k hk => by have := a1 k hk; omega, a2⟩, ⟨fun k hk => by have := b1 k hk; omega, b2⟩, ris_len h3, ris_len h4⟩
end GL

namespace GL
open Go

end GL

namespace GL
open Go

structure Tk where
  kind : Int
  part : Int
  other : Int
/-- nothing else is touched -/
def CmS (h h' : Heap) (c : Nat) (F : List Nat) : Prop := KeepsP (fun b => b ≠ c ∧ b ∉ F) h h' ∧ h'.length = h.length
theorem CmS.refl (h : Heap) (c : Nat) (F : List Nat) : CmS h h c F := ⟨KeepsP.refl _ _, rfl⟩
theorem CmS.trans {h h1 h2 : Heap} {c : Nat} {F : List Nat} (a : CmS h h1 c F) (b : CmS h1 h2 c F) : CmS h h2 c F := ⟨a.1.trans b.1, by rw [b.2, a.2]⟩

section
variable {h : Heap} {c : Nat} {x y : V} {m : Cm} {F1 F2 : List Nat}
end

end GL

namespace GL
open Go

def KS (h h' : Heap) (F : List Nat) : Prop := KeepsP (fun b => b ∉ F) h h' ∧ h'.length = h.length
theorem KS.refl (h : Heap) (F : List Nat) : KS h h F := ⟨KeepsP.refl _ _, rfl⟩
theorem KS.trans {h h1 h2 : Heap} {F : List Nat} (a : KS h h1 F) (b : KS h1 h2 F) : KS h h2 F := ⟨a.1.trans b.1, by rw [b.2, a.2]⟩

section
variable {h : Heap} {x y : V} {ps hs : List Int} {F1 F2 : List Nat}
end

end GL

namespace GL
open Go

section
variable {h : Heap} {v w : V} {c d : Cm} {F G : List Nat}
theorem CmV.keeps {h' : Heap} (hc : CmV h v c F) (hk : KeepsP (fun b => b ∈ F) h h') : CmV h' v c F := by
  obtain ⟨x, y, F1, F2, rfl, rfl, hp, hh⟩ := hc
  exact ⟨x, y, F1, F2, rfl, rfl, hp.keeps (hk.mono fun b hb => List.mem_append_left _ hb), hh.keeps (hk.mono fun b hb => List.mem_append_right _ hb)⟩
theorem CmV.keep {h' : Heap} (hc : CmV h v c F) (hk : Keeps h h') : CmV h' v c F := hc.keeps (hk.p _)
theorem CmV.lt (hc : CmV h v c F) {b : Nat} (hb : b ∈ F) : b < h.length := by
  obtain ⟨x, y, F1, F2, rfl, rfl, hp, hh⟩ := hc
  rcases List.mem_append.1 hb with hb | hb
  · obtain ⟨blk, h1, _⟩ := hp.lt hb; exact get_lt h1
  · obtain ⟨blk, h1, _⟩ := hh.lt hb; exact get_lt h1

end

end GL

namespace GL
open Go
instance : Flat Tk := ⟨3, fun t => [vi t.kind, vi t.part, vi t.other], fun _ => rfl, fun _ => rfl, by decide⟩
end GL

namespace GL
open Go

end GL

namespace GL
open Go

end GL

namespace GL
open Go

theorem CmV.cells {h : Heap} {v : V} {c : Cm} {F : List Nat} (hc : CmV h v c F) : ∃ x y, v = .agg [x, y, vi c.word] ∧ x.cells = [x] ∧ x.cell = true ∧ y.cells = [y] ∧ y.cell = true := by
  obtain ⟨x, y, F1, F2, rfl, rfl, hp, hh⟩ := hc
  exact ⟨x, y, rfl, hp.cells, hp.cell, hh.cells, hh.cell⟩

end GL

namespace GL
open Go

end GL

namespace GL
open Go

end GL

namespace GL
open Go

end GL

namespace GL
open Go

end GL

namespace GL
open Go

theorem indexFh_eq {h : Heap} {v : V} {xs : List Int} (hs : Sl h v xs) (f : Nat) (capt : List V) (q : Int → Bool) (hf : ∀ n, call p f (vi n :: capt) h = some (.bool (q n), h)) : ∃ k : Int, call p 391 [v, .fn f capt] h = some (vi k, h) ∧ (0 ≤ k ↔ ∃ x ∈ xs, q x = true) := by
  have : ∃ r h', call p 391 [v, .fn f capt] h = some (r, h') ∧ ∃ k : Int, r = vi k ∧ h' = h ∧ (0 ≤ k ↔ ∃ x ∈ xs, q x = true) := by
    refine go (fn := g391) rfl rfl fun R hR => ?_
    simp [g391, hs.len]
    refine Wc_upM (M := [4, 5, 8, 9, 10, 11, 12, 13, 14, 15, 16, 17, 18]) rfl xs.length (fun i s => s.σ 8 = .v (vi i) ∧ s.h = h ∧ ∀ x ∈ xs.take i, q x = false) 0 (by simp) fun i s ⟨g8, gh, hall⟩ hM J hJ => ?_
    by_cases hn : i < xs.length
    · cases he : q xs[i] with
      | true =>
        simp [g391_0, hM, g8, gh, hn, hs.idx, hs.loadI, hf, he]
        exact hR _ _ ⟨i, rfl, rfl, by simp; exact ⟨xs[i], by simp, he⟩⟩
      | false =>
        simp [g391_0, hM, g8, gh, hn, hs.idx, hs.loadI, hf, he, hs.step hn]
        exact hJ _ hn ⟨by simp, rfl, (all_take_succ hn).2 ⟨hall, he⟩⟩
    · rw [List.take_of_length_le (by omega)] at hall
      simp [g391_0, hM, g8, gh, hn]
      exact hR _ _ ⟨-1, rfl, rfl, by simpa using hall⟩
  obtain ⟨_, _, e, k, rfl, rfl, hk⟩ := this
  exact ⟨k, e, hk⟩
theorem containsFh_eq {h : Heap} {v : V} {xs : List Int} (hs : Sl h v xs) (f : Nat) (capt : List V) (q : Int → Bool) (hf : ∀ n, call p f (vi n :: capt) h = some (.bool (q n), h)) : call p 304 [v, .fn f capt] h = some (.bool (xs.any q), h) := by
  obtain ⟨k, e, hk⟩ := indexFh_eq hs f capt q hf
  refine go_eq (fn := g304) rfl rfl fun R hR => ?_
  have : decide (0 ≤ k) = xs.any q := by
    rw [Bool.eq_iff_iff]; simp [hk]
  simp [g304, e, this]
  exact hR

end GL

namespace GL
open Go

end GL

namespace GL
open Go

theorem has_eq {h : Heap} {v : V} {xs : List Int} (hs : Sl h v xs) (n : Int) : call p 204 [v, vi n] h = some (.bool (decide (n ∈ xs)), h) := by
  refine go_eq (fn := g204) rfl rfl fun R hR => ?_
  simp [g204, hs.len]
  refine Wc_upM (M := [4, 6, 9, 10, 11, 12, 13, 14, 15, 16]) rfl xs.length (fun i s => s.σ 9 = .v (vi i) ∧ s.h = h ∧ n ∉ xs.take i) 0 (by simp) fun i s ⟨g9, gh, hall⟩ hM J hJ => ?_
  by_cases hn : i < xs.length
  · by_cases he : xs[i] = n
    · have : n ∈ xs := by rw [← he]; simp
      simp [g204_0, hM, g9, gh, hn, hs.idx, hs.loadI, he]
      simpa [this] using hR
    · simp [g204_0, hM, g9, gh, hn, hs.idx, hs.loadI, he, hs.step hn]
      exact hJ _ hn ⟨by simp, rfl, by rw [mem_take_succ hn]; rintro (h | h); exact hall h; exact he h.symm⟩
  · rw [List.take_of_length_le (by omega)] at hall
    simp [g204_0, hM, g9, gh, hn]
    simpa [hall] using hR

end GL

namespace GL
open Go

theorem okPl_ask {x : Pl} {no : Int} (hx : okPl x = true) (hn : 1 ≤ no ∧ no ≤ 40) (hp : ¬ no ≤ x.prom) : okPl ⟨no, x.taken, x.word⟩ = true := by
  simp only [okPl, Bool.and_eq_true, Bool.or_eq_true, decide_eq_true_eq] at hx ⊢
  omega
theorem askR_ok {no : Int} (hn : 1 ≤ no ∧ no ≤ 40) : ∀ (who : List Int) (st : List Pl × Nat × Int × Int), (∀ k ∈ who, 0 ≤ k ∧ k < st.1.length) → (∀ x ∈ st.1, okPl x = true) → ∀ x ∈ (who.foldl (ask1 no) st).1, okPl x = true
  | [], _, _, h => h
  | k :: ks, st, h0, h => by
    rw [List.foldl_cons]
    have hk := h0 k (List.mem_cons_self ..)
    obtain ⟨m, rfl⟩ := Int.eq_ofNat_of_zero_le hk.1
    have hm : m < st.1.length := by omega
    refine askR_ok hn ks _ (fun j hj => by rw [ask1_len]; exact h0 j (List.mem_cons_of_mem _ hj)) ?_
    rw [ask1_at no st hm]
    split
    · exact h
    · rename_i hp
      intro x hx
      rcases List.mem_or_eq_of_mem_set hx with hx | rfl
      · exact h x hx
      · exact okPl_ask (h _ (List.getElem_mem hm)) hn hp
theorem takeR_at (l : List Pl) (no word : Int) {who : List Int} (h0 : ∀ k ∈ who, 0 ≤ k ∧ k < l.length) (hr : who.Pairwise (· < ·)) : ∀ i, i ≤ who.length →
    (∀ k ∈ (takeR l no word (who.take i)).2, k ∈ who.take i ∧ (l.getD k.toNat zP).prom ≤ no) ∧ ∀ j : Nat, (takeR l no word (who.take i)).1[j]? = if (j : Int) ∈ (takeR l no word (who.take i)).2 then some ⟨no, no, word⟩ else l[j]? := by
  intro i
  induction i with
  | zero => intro _; simp [takeR]
  | succ i ih =>
    intro hi
    have hn : i < who.length := by omega
    obtain ⟨i1, i2⟩ := ih (by omega)
    have ht := List.take_succ_eq_append_getElem hn
    obtain ⟨b0, b1⟩ := h0 who[i] (List.getElem_mem hn)
    obtain ⟨k, hkk⟩ := Int.eq_ofNat_of_zero_le b0
    have hkl : k < l.length := by omega
    have hko : k < (takeR l no word (who.take i)).1.length := by rw [takeR_len]; exact hkl
    have hsame : (takeR l no word (who.take i)).1[k] = l[k] := by
      have := takeR_rest l no word (fun k hk => (h0 k hk).1) hr (by omega : i ≤ who.length) k (fun j hj => by have := ris_take hr hn j hj; omega)
      rw [List.getElem?_eq_getElem hko, List.getElem?_eq_getElem hkl] at this
      injection this
    have hst := takeR_snoc l no word hn
    rw [hkk, take1_at no word _ hko, hsame] at hst
    rw [hst]
    by_cases hp : l[k].prom ≤ no
    · rw [if_pos hp]
      refine ⟨fun j hj => ?_, fun j => ?_⟩
      · simp only [List.mem_append, List.mem_singleton] at hj
        rcases hj with hj | rfl
        · obtain ⟨a, b⟩ := i1 j hj
          exact ⟨by rw [ht]; exact List.mem_append_left _ a, b⟩
        · refine ⟨by rw [ht, hkk]; exact List.mem_append_right _ (List.mem_singleton.2 rfl), ?_⟩
          have e : l.getD (k : Int).toNat zP = l[k] := by simp [hkl]
          rw [e]; exact hp
      · by_cases e : k = j
        · subst e
          rw [List.getElem?_set_self hko, if_pos (by simp)]
        · rw [List.getElem?_set_ne e, i2 j]
          have : ((j : Int) ∈ (takeR l no word (who.take i)).2 ++ [(k : Int)]) ↔ (j : Int) ∈ (takeR l no word (who.take i)).2 := by simp; omega
          simp only [this]
    · rw [if_neg hp]
      refine ⟨fun j hj => ?_, i2⟩
      obtain ⟨a, b⟩ := i1 j hj
      exact ⟨by rw [ht]; exact List.mem_append_left _ a, b⟩

end GL

namespace GL
open Go

end GL

namespace GL
open Go

/-! one word of many -/
theorem okPl_word {x : Pl} (hx : okPl x = true) : 0 ≤ x.taken ∧ x.taken ≤ x.prom ∧ 0 ≤ x.prom ∧ x.prom ≤ 40 ∧ (x.taken = 0 → x.word = 0) ∧ (0 < x.taken → 1 ≤ x.word ∧ x.word ≤ 99) := by
  simp only [okPl, Bool.and_eq_true, Bool.or_eq_true, decide_eq_true_eq] at hx
  omega
/-- taken and word are az they were: of the asked -/
theorem askR_tw (no : Int) : ∀ (who : List Int) (st : List Pl × Nat × Int × Int), (∀ k ∈ who, 0 ≤ k ∧ k < st.1.length) → ((who.foldl (ask1 no) st).1.map fun x => (x.taken, x.word)) = st.1.map fun x => (x.taken, x.word)
  | [], _, _ => rfl
  | k :: ks, st, h0 => by
    rw [List.foldl_cons]
    have hk := h0 k (List.mem_cons_self ..)
    obtain ⟨m, rfl⟩ := Int.eq_ofNat_of_zero_le hk.1
    have hm : m < st.1.length := by omega
    rw [askR_tw no ks _ (fun j hj => by rw [ask1_len]; exact h0 j (List.mem_cons_of_mem _ hj)), ask1_at no st hm]
    split
    · rfl
    · simp only [List.map_set]
      refine List.ext_getElem (by simp) fun i h1 h2 => ?_
      rw [List.getElem_set]
      split
      · rename_i e; subst e; simp
      · rfl
theorem askR_prom {no N : Int} (hN : N ≤ no) : ∀ (who : List Int) (st : List Pl × Nat × Int × Int), (∀ k ∈ who, 0 ≤ k ∧ k < st.1.length) → (∀ x ∈ st.1, x.prom ≤ no) → ∀ x ∈ (who.foldl (ask1 no) st).1, x.prom ≤ no
  | [], _, _, h => h
  | k :: ks, st, h0, h => by
    rw [List.foldl_cons]
    have hk := h0 k (List.mem_cons_self ..)
    obtain ⟨m, rfl⟩ := Int.eq_ofNat_of_zero_le hk.1
    have hm : m < st.1.length := by omega
    refine askR_prom hN ks _ (fun j hj => by rw [ask1_len]; exact h0 j (List.mem_cons_of_mem _ hj)) ?_
    rw [ask1_at no st hm]
    split
    · exact h
    · intro x hx
      rcases List.mem_or_eq_of_mem_set hx with hx | rfl
      · exact h x hx
      · exact Int.le_refl _

/-- what holds behind ballots up to N: of the places and of all that was told -/
structure Px (N : Int) (P : List Pl) (T : List Int) : Prop where
  ok : ∀ x ∈ P, okPl x = true
  le : ∀ x ∈ P, x.prom ≤ N
  told : ∀ w ∈ T, w ≠ 0 → 1 ≤ w ∧ ∃ t, 0 < t ∧ P.length / 2 + 1 ≤ P.countP (fun y => decide (t ≤ y.taken)) ∧ ∀ x ∈ P, t ≤ x.taken → x.word = w
  most : ∀ t w, 0 < t → P.length / 2 + 1 ≤ P.countP (fun y => decide (y.taken = t ∧ y.word = w)) → w ∈ T

theorem Px.new {n : Int} : Px 0 (newP n) [] := by
  have hz : ∀ x ∈ newP n, x = zP := fun x hx => by
    unfold newP at hx; split at hx
    · exact (List.mem_replicate.1 hx).2
    · cases hx
  refine ⟨fun x hx => by rw [hz x hx]; decide, fun x hx => by rw [hz x hx]; decide, by simp, fun t w ht hc => ?_⟩
  have : (newP n).countP (fun y => decide (y.taken = t ∧ y.word = w)) = 0 := List.countP_eq_zero.2 fun x hx => by
    rw [hz x hx]
    intro hd
    have h1 : (0 : Int) = t := (of_decide_eq_true hd).1
    omega
  omega

theorem countP_tw {P P' : List Pl} (h : (P'.map fun x => (x.taken, x.word)) = P.map fun x => (x.taken, x.word)) (q : Int × Int → Bool) : P'.countP (fun x => q (x.taken, x.word)) = P.countP (fun x => q (x.taken, x.word)) := by
  have a := List.countP_map (p := q) (f := fun x : Pl => (x.taken, x.word)) (l := P')
  have b := List.countP_map (p := q) (f := fun x : Pl => (x.taken, x.word)) (l := P)
  rw [h] at a
  exact (a.symm.trans b)
theorem mem_tw {P P' : List Pl} (h : (P'.map fun x => (x.taken, x.word)) = P.map fun x => (x.taken, x.word)) {x : Pl} (hx : x ∈ P') : ∃ y ∈ P, y.taken = x.taken ∧ y.word = x.word := by
  have : (x.taken, x.word) ∈ P.map fun x => (x.taken, x.word) := by rw [← h]; exact List.mem_map.2 ⟨x, hx, rfl⟩
  obtain ⟨y, hy, e⟩ := List.mem_map.1 this
  injection e with e1 e2
  exact ⟨y, hy, e1, e2⟩

/-- places that were only asked -/
theorem Px.asked {N no : Int} {P P' : List Pl} {T : List Int} (hp : Px N P T) (hl : P'.length = P.length) (h : (P'.map fun x => (x.taken, x.word)) = P.map fun x => (x.taken, x.word)) (hok : ∀ x ∈ P', okPl x = true) (hle : ∀ x ∈ P', x.prom ≤ no) : Px no P' T := by
  refine ⟨hok, hle, fun w hw h0 => ?_, fun t w ht hc => ?_⟩
  · obtain ⟨w1, t, t0, t1, t2⟩ := hp.told w hw h0
    refine ⟨w1, t, t0, ?_, fun x hx hxt => ?_⟩
    · rw [hl, countP_tw h fun a => decide (t ≤ a.1)]; exact t1
    · obtain ⟨y, hy, e1, e2⟩ := mem_tw h hx
      rw [← e2]; exact t2 y hy (by omega)
  · rw [hl, countP_tw h fun a => decide (a.1 = t ∧ a.2 = w)] at hc
    exact hp.most t w ht hc
theorem Px.told0 {N : Int} {P : List Pl} {T : List Int} (hp : Px N P T) : Px N P (T ++ [0]) := by
  refine ⟨hp.ok, hp.le, fun w hw h0 => ?_, fun t w ht hc => List.mem_append_left _ (hp.most t w ht hc)⟩
  rcases List.mem_append.1 hw with hw | hw
  · exact hp.told w hw h0
  · simp at hw; exact absurd hw h0

theorem countP_getD {l : List Pl} (Q : Pl → Bool) : l.countP Q = (List.range l.length).countP (fun j => Q (l.getD j zP)) := (countP_range Q).symm
/-- some of some numbers: az many az stand in a rising list -/
theorem count_mem : ∀ (n : Nat) (A : List Int), A.Pairwise (· < ·) → (∀ k ∈ A, 0 ≤ k ∧ k < n) → (List.range n).countP (fun j : Nat => decide ((j : Int) ∈ A)) = A.length
  | 0, A, _, h2 => by
    cases A with
    | nil => rfl
    | cons k A => have := h2 k (List.mem_cons_self ..); omega
  | n + 1, A, h1, h2 => by
    rw [List.range_succ, List.countP_append]
    rcases List.eq_nil_or_concat A with rfl | ⟨B, k, rfl⟩
    · simp
    · rw [List.concat_eq_append] at *
      rw [List.pairwise_append] at h1
      have hk := h2 k (by simp)
      have hB : ∀ j ∈ B, 0 ≤ j ∧ j < n := fun j hj => by
        have a := h2 j (by simp [hj])
        have b := h1.2.2 j hj k (by simp)
        omega
      by_cases e : k = n
      · have ih := count_mem n B h1.1 hB
        have e2 : (List.range n).countP (fun j : Nat => decide ((j : Int) ∈ B ++ [k])) = (List.range n).countP (fun j : Nat => decide ((j : Int) ∈ B)) := by
          refine List.countP_congr fun j hj => ?_
          have := List.mem_range.1 hj
          simp only [decide_eq_true_eq, List.mem_append, List.mem_singleton]
          constructor
          · rintro (h | h)
            · exact h
            · omega
          · exact .inl
        rw [e2, ih]
        simp [e]
      · have ih := count_mem n (B ++ [k]) (by rw [List.pairwise_append]; exact h1) (fun j hj => by
          rcases List.mem_append.1 hj with hj | hj
          · exact hB j hj
          · simp at hj; subst hj; omega)
        rw [ih]
        have : ¬ ((n : Int) ∈ B ++ [k]) := fun h => by
          rcases List.mem_append.1 h with h | h
          · have := hB _ h; omega
          · simp at h; exact e h.symm
        have e3 : [n].countP (fun j : Nat => decide ((j : Int) ∈ B ++ [k])) = 0 := List.countP_eq_zero.2 fun j hj hd => by
          rw [List.mem_singleton] at hj
          subst hj
          exact this (of_decide_eq_true hd)
        rw [e3]; rfl

theorem takeR_sub (no word : Int) : ∀ (who : List Int) (st : List Pl × List Int), ∃ D : List Int, D.Sublist who ∧ (who.foldl (take1 no word) st).2 = st.2 ++ D
  | [], st => ⟨[], List.Sublist.refl _, by simp⟩
  | k :: ks, st => by
    rw [List.foldl_cons]
    obtain ⟨D, h1, h2⟩ := takeR_sub no word ks (take1 no word st k)
    rw [h2]
    unfold take1
    split
    · exact ⟨k :: D, h1.cons_cons k, by simp⟩
    · exact ⟨D, h1.cons k, rfl⟩

/-- one more ballot -/
theorem Px.step {N : Int} {P : List Pl} {T : List Int} {b : Bt} {n : Nat} (hp : Px N P T) (hn : P.length = n) (hN : N < b.no) (hb : okBt n b = true) : Px b.no (runP P b) (T ++ [runW P b]) := by
  obtain ⟨b1, b2, b3, b4, b5, b6⟩ := okBt_facts hb
  subst hn
  -- the asked
  have A1 : (askR P b.no b.fst).1.length = P.length := askR_len ..
  have A2 := askR_tw b.no b.fst (P, 0, 0, 0) b3.1
  have A3 := askR_ok b1 b.fst (P, 0, 0, 0) b3.1 hp.ok
  have A4 := askR_prom (Int.le_of_lt hN) b.fst (P, 0, 0, 0) b3.1 (fun x hx => by have := hp.le x hx; omega)
  have pa : Px b.no (askR P b.no b.fst).1 T := hp.asked A1 A2 A3 A4
  have A5 : ∀ x ∈ (askR P b.no b.fst).1, x.taken < b.no := fun x hx => by
    obtain ⟨y, hy, e1, _⟩ := mem_tw A2 hx
    have := hp.le y hy
    have := (okPl_word (hp.ok y hy)).2.1
    omega
  cases hok : runOk P b with
  | false =>
    have e1 : runP P b = (askR P b.no b.fst).1 := by simp [runP, hok]
    have e2 : runW P b = 0 := by simp [runW, hok]
    rw [e1, e2]; exact pa.told0
  | true =>
    have hok2 := hok
    simp only [runOk, decide_eq_true_eq] at hok2
    -- what was told already is asked for again
    have again : ∀ w ∈ T, w ≠ 0 → runWd P b = w := fun w hw h0 => by
      obtain ⟨w1, t, t0, t1, t2⟩ := hp.told w hw h0
      have := ask_told hp.ok b3.1 b3.2 hok2 t0 t1 t2
      unfold runWd
      rw [this, if_neg (by omega)]
    -- the word is a word
    have wpos : 1 ≤ runWd P b ∧ runWd P b ≤ 99 := by
      unfold runWd
      split
      · exact b2
      · rename_i hw
        obtain ⟨i1, i2, i3, i4⟩ := askR_asked P b.no b3.1 b3.2 hp.ok b.fst.length (Nat.le_refl _)
        rw [List.take_length] at i4
        rcases i4 with e | ⟨k, hk, e, hpos⟩
        · rw [e] at hw; exact absurd rfl hw
        · have hkr := b3.1 k (List.mem_filter.1 hk).1
          obtain ⟨m, rfl⟩ := Int.eq_ofNat_of_zero_le hkr.1
          have hgd : P.getD (m : Int).toNat zP = P[m]'(by omega) := by
            have : m < P.length := by omega
            simp [this]
          rw [hgd] at e hpos
          rw [e]
          exact (okPl_word (hp.ok _ (List.getElem_mem _))).2.2.2.2.2 hpos
    generalize hw : runWd P b = w at *
    -- the takers
    have e1 : runP P b = (takeR (askR P b.no b.fst).1 b.no w b.snd).1 := by simp [runP, hok, runT, hw]
    obtain ⟨T1, T2⟩ := takeR_at (askR P b.no b.fst).1 b.no w (who := b.snd) (fun k hk => by rw [A1]; exact b4.1 k hk) b4.2 b.snd.length (Nat.le_refl _)
    rw [List.take_length] at T1 T2
    obtain ⟨D, D1, D2⟩ := takeR_sub b.no w b.snd ((askR P b.no b.fst).1, [])
    have D2' : (takeR (askR P b.no b.fst).1 b.no w b.snd).2 = D := by rw [takeR, D2]; rfl
    rw [D2'] at T1 T2
    have hDr : D.Pairwise (· < ·) := b4.2.sublist D1
    have hD0 : ∀ k ∈ D, 0 ≤ k ∧ k < P.length := fun k hk => b4.1 k (D1.subset hk)
    have hl2 : (takeR (askR P b.no b.fst).1 b.no w b.snd).1.length = P.length := by rw [takeR_len, A1]
    have e2 : runW P b = if P.length / 2 + 1 ≤ D.length then w else 0 := by simp [runW, hok, runT, hw, D2']
    rw [e1, e2]
    generalize hQ : (takeR (askR P b.no b.fst).1 b.no w b.snd).1 = Q at *
    generalize hA : (askR P b.no b.fst).1 = A at *
    -- each place: took now, or az it was
    have each : ∀ j (hj : j < P.length), ((j : Int) ∈ D ∧ Q.getD j zP = ⟨b.no, b.no, w⟩) ∨ ((j : Int) ∉ D ∧ Q.getD j zP = A.getD j zP) := fun j hj => by
      have a := T2 j
      by_cases hm : (j : Int) ∈ D
      · rw [if_pos hm] at a
        exact .inl ⟨hm, by rw [List.getD_eq_getElem?_getD, a]; rfl⟩
      · rw [if_neg hm] at a
        exact .inr ⟨hm, by rw [List.getD_eq_getElem?_getD, List.getD_eq_getElem?_getD, a]⟩
    have memQ : ∀ x ∈ Q, x = ⟨b.no, b.no, w⟩ ∨ x ∈ A := fun x hx => by
      obtain ⟨j, hj, rfl⟩ := List.getElem_of_mem hx
      have hj2 : j < A.length := by omega
      have g1 : Q.getD j zP = Q[j] := by simp [hj]
      have g2 : A.getD j zP = A[j] := by simp [hj2]
      rcases each j (by omega) with ⟨_, e⟩ | ⟨_, e⟩
      · exact .inl (by rw [← g1, e])
      · exact .inr (by rw [← g1, e, g2]; exact List.getElem_mem _)
    have cntQ : ∀ q : Pl → Bool, Q.countP q = (List.range P.length).countP fun j : Nat => if (j : Int) ∈ D then q ⟨b.no, b.no, w⟩ else q (A.getD j zP) := fun q => by
      rw [countP_getD, hl2]
      refine List.countP_congr fun j hj => ?_
      rcases each j (List.mem_range.1 hj) with ⟨hm, e⟩ | ⟨hm, e⟩
      · rw [e, if_pos hm]
      · rw [e, if_neg hm]
    have cntA : ∀ q : Pl → Bool, A.countP q = (List.range P.length).countP fun j => q (A.getD j zP) := fun q => by rw [countP_getD, A1]
    have noA : ∀ j, (A.getD j zP).taken ≠ b.no := fun j => by
      by_cases hj : j < A.length
      · have g2 : A.getD j zP = A[j] := by simp [hj]
        have := A5 A[j] (List.getElem_mem _)
        rw [g2]; omega
      · have g2 : A.getD j zP = zP := by simp [List.getElem?_eq_none (by omega : A.length ≤ j)]
        rw [g2]; simp [zP]; omega
    have told : ∀ u ∈ T, u ≠ 0 → 1 ≤ u ∧ ∃ t, 0 < t ∧ Q.length / 2 + 1 ≤ Q.countP (fun y => decide (t ≤ y.taken)) ∧ ∀ x ∈ Q, t ≤ x.taken → x.word = u := fun u hu h0 => by
      have hwu := again u hu h0
      obtain ⟨w1, t, t0, t1, t2⟩ := pa.told u hu h0
      refine ⟨w1, t, t0, ?_, fun x hx hxt => ?_⟩
      · rw [hl2]
        rw [A1] at t1
        refine Nat.le_trans t1 ?_
        rw [cntA, cntQ]
        refine List.countP_mono_left fun j _ h => ?_
        split
        · simp only [decide_eq_true_eq]
          -- some place took by a number up to N
          have : 0 < A.countP (fun y => decide (t ≤ y.taken)) := by omega
          obtain ⟨y, hy, hyt⟩ := List.countP_pos_iff.1 this
          have := A5 y hy
          simp only [decide_eq_true_eq] at hyt
          omega
        · exact h
      · rcases memQ x hx with rfl | hx
        · exact hwu
        · exact t2 x hx hxt
    refine ⟨fun x hx => ?_, fun x hx => ?_, fun u hu h0 => ?_, fun t u ht hc => ?_⟩
    · rcases memQ x hx with rfl | hx
      · simp only [okPl, Bool.and_eq_true, Bool.or_eq_true, decide_eq_true_eq]; omega
      · exact pa.ok x hx
    · rcases memQ x hx with rfl | hx
      · exact Int.le_refl _
      · exact pa.le x hx
    · rcases List.mem_append.1 hu with hu | hu
      · exact told u hu h0
      · simp only [List.mem_singleton] at hu
        by_cases hq : P.length / 2 + 1 ≤ D.length
        · rw [if_pos hq] at hu; subst hu
          refine ⟨wpos.1, b.no, by omega, ?_, fun x hx hxt => ?_⟩
          · rw [hl2, cntQ]
            have := count_mem P.length D hDr hD0
            rw [← this] at hq
            refine Nat.le_trans hq (List.countP_mono_left fun j _ h => ?_)
            simp only [decide_eq_true_eq] at h
            rw [if_pos h]; simp
          · rcases memQ x hx with rfl | hx
            · rfl
            · have := A5 x hx; omega
        · rw [if_neg hq] at hu; exact absurd hu h0
    · by_cases e : t = b.no
      · subst e
        rw [hl2, cntQ] at hc
        by_cases hq : u = w
        · subst hq
          have : ((List.range P.length).countP fun j : Nat => if (j : Int) ∈ D then decide ((⟨b.no, b.no, u⟩ : Pl).taken = b.no ∧ (⟨b.no, b.no, u⟩ : Pl).word = u) else decide ((A.getD j zP).taken = b.no ∧ (A.getD j zP).word = u)) = (List.range P.length).countP (fun j : Nat => decide ((j : Int) ∈ D)) := by
            refine List.countP_congr fun j _ => ?_
            split
            · rename_i h; simp [h]
            · rename_i h
              simp only [decide_eq_true_eq]
              exact ⟨fun hh => absurd hh.1 (noA j), fun hh => absurd hh h⟩
          rw [this, count_mem P.length D hDr hD0] at hc
          rw [if_pos hc]; simp
        · have : ((List.range P.length).countP fun j : Nat => if (j : Int) ∈ D then decide ((⟨b.no, b.no, w⟩ : Pl).taken = b.no ∧ (⟨b.no, b.no, w⟩ : Pl).word = u) else decide ((A.getD j zP).taken = b.no ∧ (A.getD j zP).word = u)) = 0 := by
            refine List.countP_eq_zero.2 fun j _ => ?_
            split
            · intro hd; exact hq (of_decide_eq_true hd).2.symm
            · intro hd; exact noA j (of_decide_eq_true hd).1
          omega
      · refine List.mem_append_left _ (pa.most t u ht ?_)
        rw [A1]
        rw [hl2, cntQ] at hc
        refine Nat.le_trans hc ?_
        rw [cntA]
        refine List.countP_mono_left fun j _ h => ?_
        split at h
        · simp at h; omega
        · exact h

theorem Px.all {n : Nat} {bs : List Bt} (hb : btsB n bs = true) : ∀ i, i ≤ bs.length → ∃ N, (∀ (h : i < bs.length), N < bs[i].no) ∧ Px N (runAll n (bs.take i)).1 (runAll n (bs.take i)).2 := by
  simp only [btsB, Bool.and_eq_true, decide_eq_true_eq, List.all_eq_true] at hb
  obtain ⟨⟨⟨hm, _⟩, hok⟩, hpw⟩ := hb
  intro i
  induction i with
  | zero =>
    intro _
    refine ⟨0, fun h => ?_, by simpa [runAll] using Px.new⟩
    have := (okBt_facts (hok _ (List.getElem_mem h))).1.1; omega
  | succ i ih =>
    intro hi
    have hn : i < bs.length := by omega
    obtain ⟨N, hN, hp⟩ := ih (by omega)
    refine ⟨bs[i].no, fun h => (List.pairwise_iff_getElem.1 hpw) i (i + 1) hn h (by omega), ?_⟩
    rw [runAll_snoc n hn]
    exact hp.step (by rw [(runAll_len n _).1, newP_len hm]) (hN hn) (hok _ (List.getElem_mem hn))
end GL

namespace GL
open Go

end GL

namespace GL
open Go

end GL

namespace GL
open Go

theorem l6Both_ok {h : Heap} {v w : V} {az bs : List Int} (ha : Sl h v az) (hb : Sl h w bs) (hl : az.length ≤ 2 ^ 20) : ∃ r h', call p 338 [v, w] h = some (r, h') ∧ Out h.length h' r (az.filter fun n => decide (n ∈ bs)) ∧ Keeps h h' ∧ h.length ≤ h'.length := by
  refine go (fn := g338) rfl rfl fun R hR => ?_
  simp [g338, ha.len]
  refine Wc_upM (M := [5, 7, 10, 11, 12, 13, 14, 15, 16, 17, 18, 19, 20, 21]) rfl az.length (fun i s => s.σ 10 = .v (vi i) ∧ ∃ v5, s.σ 5 = .v v5 ∧ Out h.length s.h v5 ((az.take i).filter fun n => decide (n ∈ bs)) ∧ Keeps h s.h ∧ h.length ≤ s.h.length) 0
    ⟨by simp, .nils, by simp, by simpa using Out.nil (Nat.le_refl _), Keeps.refl _, Nat.le_refl _⟩ fun i s ⟨g10, v5, g5, ho, hk, hlen⟩ hM J hJ => ?_
  by_cases hn : i < az.length
  · have ha' := ha.keeps hk
    have e1 := l1Has_eq (hb.keeps hk) az[i]
    have ht := List.take_succ_eq_append_getElem hn
    by_cases hm : az[i] ∈ bs
    · rw [decide_eq_true hm] at e1
      have hle : ((az.take i).filter fun n => decide (n ∈ bs)).length ≤ 2 ^ 20 := Nat.le_trans (List.length_filter_le ..) (by simp; omega)
      obtain ⟨v6, h2, e2, o2, k2, l2⟩ := ho.one az[i] hle
      simp [g338_0, hM, g10, g5, hn, ha'.idx, ha'.loadI, e1, fillL, rdS_last, e2, ha'.step hn]
      refine hJ _ hn ⟨by simp, v6, by simp, ?_, ho.far hk k2 (Nat.le_refl _), by show h.length ≤ h2.length; omega⟩
      rw [ht, List.filter_append]; simpa [hm] using o2
    · rw [decide_eq_false hm] at e1
      simp [g338_0, hM, g10, g5, hn, ha'.idx, ha'.loadI, e1, ha'.step hn]
      refine hJ _ hn ⟨by simp, v5, by simp [g5], ?_, hk, hlen⟩
      rw [ht, List.filter_append]; simpa [hm] using ho
  · rw [List.take_of_length_le (by omega)] at ho
    simp [g338_0, hM, g10, g5, hn]
    exact hR _ _ ⟨ho, hk, hlen⟩

/-- the two have one in common -/
def meets (a b : List Int) : Prop := ∃ x ∈ a, x ∈ b
instance (a b : List Int) : Decidable (meets a b) := by unfold meets; infer_instance
end GL

namespace GL
open Go

end GL

namespace GL
open Go

end GL

namespace GL
open Go

end GL

namespace GL
open Go

theorem OwnB.keep {h h' : Heap} {b : Nat} (ho : OwnB h b) (hk : Keeps h h') : OwnB h' b := ho.keeps (hk.p fun _ => True) trivial

end GL

namespace GL
open Go

/-- rising lists with the same numbers are one -/
theorem rising_ext : ∀ {az bs : List Int}, az.Pairwise (· < ·) → bs.Pairwise (· < ·) → (∀ x, x ∈ az ↔ x ∈ bs) → az = bs
  | [], [], _, _, _ => rfl
  | [], b :: bs, _, _, h => absurd ((h b).2 (by simp)) (by simp)
  | a :: az, [], _, _, h => absurd ((h a).1 (by simp)) (by simp)
  | a :: az, b :: bs, ha, hb, h => by
    rw [List.pairwise_cons] at ha hb
    have e : a = b := by
      have h1 := (h a).1 (by simp)
      have h2 := (h b).2 (by simp)
      rcases List.mem_cons.1 h1 with h1 | h1
      · exact h1
      · rcases List.mem_cons.1 h2 with h2 | h2
        · exact h2.symm
        · have := hb.1 _ h1; have := ha.1 _ h2; omega
    subst e
    rw [rising_ext ha.2 hb.2 fun x => ?_]
    have := h x
    simp only [List.mem_cons] at this
    constructor
    · intro hx
      rcases this.1 (.inr hx) with e | h3
      · subst e; exact absurd (ha.1 _ hx) (by omega)
      · exact h3
    · intro hx
      rcases this.2 (.inr hx) with e | h3
      · subst e; exact absurd (hb.1 _ hx) (by omega)
      · exact h3
theorem sorted_nodup {xs : List Int} (h1 : xs.Pairwise (· ≤ ·)) (h2 : xs.Nodup) : xs.Pairwise (· < ·) := by
  have := List.Pairwise.and h1 h2
  exact this.imp fun ⟨a, b⟩ => by omega

/-- a link, and where links lead to -/
def Edge (l : List (List Int)) (a b : Int) : Prop := ∃ (i : Nat) (hi : i < l.length), a = i ∧ b ∈ l[i]
inductive Rch (l : List (List Int)) : Int → Int → Prop
  | refl (a : Int) : Rch l a a
  | step {a b c : Int} : Rch l a b → Edge l b c → Rch l a c
theorem Rch.trans {l : List (List Int)} {a b c : Int} (h1 : Rch l a b) (h2 : Rch l b c) : Rch l a c := by
  induction h2 with
  | refl => exact h1
  | step _ e ih => exact ih.step e
def linksB (l : List (List Int)) : Bool := decide (l.length ≤ 12) && l.all fun xs => risB 0 ((l.length : Int) - 1) xs
theorem linksB_facts {l : List (List Int)} (h : linksB l = true) : l.length ≤ 12 ∧ ∀ i (hi : i < l.length), (∀ x ∈ l[i], 0 ≤ x ∧ x < l.length) ∧ l[i].Pairwise (· < ·) ∧ l[i].length ≤ l.length := by
  simp only [linksB, Bool.and_eq_true, decide_eq_true_eq] at h
  refine ⟨h.1, fun i hi => ?_⟩
  have := List.all_eq_true.1 h.2 _ (List.getElem_mem hi)
  obtain ⟨a, b⟩ := risB_facts this
  exact ⟨fun x hx => by have := a x hx; omega, b, ris_len this⟩
theorem Edge.lt {l : List (List Int)} (h : linksB l = true) {a b : Int} (e : Edge l a b) : 0 ≤ b ∧ b < l.length := by
  obtain ⟨i, hi, _, hb⟩ := e
  exact ((linksB_facts h).2 i hi).1 b hb
theorem Rch.lt {l : List (List Int)} (h : linksB l = true) {a b : Int} (ha : 0 ≤ a ∧ a < l.length) (r : Rch l a b) : 0 ≤ b ∧ b < l.length := by
  cases r with
  | refl => exact ha
  | step _ e => exact e.lt h
open Classical in
/-- all that one leads to -/
noncomputable def reachL (l : List (List Int)) (a : Int) : List Int := ((List.range l.length).map fun (i : Nat) => (i : Int)).filter fun b => decide (Rch l a b)
theorem range_rising (n : Nat) : ((List.range n).map fun (i : Nat) => (i : Int)).Pairwise (· < ·) := by
  rw [List.pairwise_map]
  exact List.pairwise_lt_range.imp fun h => by omega
theorem mem_reachL {l : List (List Int)} (h : linksB l = true) {a b : Int} (ha : 0 ≤ a ∧ a < l.length) : b ∈ reachL l a ↔ Rch l a b := by
  simp only [reachL, List.mem_filter, List.mem_map, List.mem_range, decide_eq_true_eq]
  constructor
  · exact fun h => h.2
  · intro r
    have := r.lt h ha
    exact ⟨⟨b.toNat, by omega, by omega⟩, r⟩
theorem rising_len {n : Nat} {xs : List Int} (hr : xs.Pairwise (· < ·)) (h : ∀ x ∈ xs, 0 ≤ x ∧ x < n) : xs.length ≤ n :=
  ris_len (by simp only [risB, decide_eq_true_eq]; exact ⟨fun x hx => by have := h x hx; omega, hr⟩)
/-- unlike numbers below n are n at most -/
theorem nodup_len {n : Nat} {xs : List Int} (hn : xs.Nodup) (h : ∀ x ∈ xs, 0 ≤ x ∧ x < n) : xs.length ≤ n := by
  have hs := List.mergeSort_perm xs fun a b => decide (a ≤ b)
  have hp : (xs.mergeSort fun a b => decide (a ≤ b)).Pairwise fun a b => decide (a ≤ b) = true := List.pairwise_mergeSort (fun a b c => by simp; omega) (fun a b => by simp; omega) xs
  have := sorted_nodup (hp.imp fun h => by simpa using h) (hs.nodup_iff.2 hn)
  have := rising_len this fun x hx => h x (hs.mem_iff.1 hx)
  rwa [hs.length_eq] at this
end GL

namespace GL
open Go

/-- a list of one's own, or what is left of one -/
def Qs (lo : Nat) (h : Heap) (v : V) (xs : List Int) : Prop :=
  xs.length < 2 ^ 40 ∧ lo ≤ h.length ∧ ((v = .nils ∧ xs = []) ∨ ∃ b off cs cap, v = .slice b off xs.length cap ∧ lo ≤ b ∧ h[b]? = some ⟨.own, cs⟩ ∧ cut cs off xs.length = some (flats xs) ∧ (cap = .k xs.length ∨ (cap = .o 1 ∧ off + xs.length = cs.length)))
section
variable {lo : Nat} {h : Heap} {v : V} {xs : List Int}
theorem Qs.sl (q : Qs lo h v xs) : Sl h v xs := by
  obtain ⟨h1, _, ⟨rfl, rfl⟩ | ⟨b, off, cs, cap, rfl, _, hb, hc, _⟩⟩ := q
  · exact Sl.nil
  · exact ⟨by omega, .inr ⟨b, off, cap, rfl, .inr ⟨_, hb, by simp, by rw [show xs.length * Flat.sz Int = xs.length from Nat.mul_one _]; exact hc⟩⟩⟩
theorem Qs.ge (q : Qs lo h v xs) {i : Nat} (hi : vB v i) : lo ≤ i ∧ i < h.length := by
  obtain ⟨h1, _, ⟨rfl, rfl⟩ | ⟨b, off, cs, cap, rfl, h2, hb, hc, _⟩⟩ := q
  · obtain ⟨_, _, _, e⟩ := hi; cases e
  · obtain ⟨_, _, _, e⟩ := hi; cases e; exact ⟨h2, get_lt hb⟩
theorem Qs.keeps {h' : Heap} (q : Qs lo h v xs) {P : Nat → Prop} (hk : KeepsP P h h') (hp : ∀ i, vB v i → P i) (hl : h.length ≤ h'.length) : Qs lo h' v xs := by
  obtain ⟨h1, h2, ⟨rfl, rfl⟩ | ⟨b, off, cs, cap, rfl, h3, hb, hc, hcap⟩⟩ := q
  · exact ⟨h1, by omega, .inl ⟨rfl, rfl⟩⟩
  · exact ⟨h1, by omega, .inr ⟨b, off, cs, cap, rfl, h3, hk _ _ (hp b ⟨_, _, _, rfl⟩) hb (by simp), hc, hcap⟩⟩
theorem Qs.lit (h : Heap) (x : Int) (hl : lo ≤ h.length) : Qs lo (h ++ [⟨.own, [vi x]⟩]) (.slice h.length 0 1 (.k 1)) [x] :=
  ⟨by simp, by simp; omega, .inr ⟨h.length, 0, [vi x], .k 1, rfl, hl, by simp, rfl, .inl rfl⟩⟩
theorem Qs.empty (h : Heap) (hl : lo ≤ h.length) : Qs lo (h ++ [⟨.own, []⟩]) (.slice h.length 0 0 (.k 0)) [] :=
  ⟨by simp, by simp; omega, .inr ⟨h.length, 0, [], .k 0, rfl, hl, by simp, rfl, .inl rfl⟩⟩
theorem Qs.nil (hl : lo ≤ h.length) : Qs lo h .nils [] := ⟨by simp, hl, .inl ⟨rfl, rfl⟩⟩
theorem Qs.one (q : Qs lo h v xs) (x : Int) (hx : xs.length ≤ 2 ^ 20) :
    ∃ v' h', appH 1 8 v 1 [vi x] (h ++ [⟨.own, [vi x]⟩]) = some (v', h') ∧ Qs lo h' v' (xs ++ [x]) ∧ KeepsP (fun i => ¬ vB v i) h h' ∧ h.length < h'.length ∧ ∀ i, vB v' i → h.length ≤ i := by
  have kl := Keeps.append h [⟨.own, [vi x]⟩]
  have bn : ∀ n cap i, vB (.slice (h ++ [(⟨.own, [vi x]⟩ : Blk)]).length 0 n cap) i → h.length ≤ i := by rintro n cap i ⟨_, _, _, e⟩; injection e with e1; subst e1; simp
  have q1 : Qs lo (h ++ [⟨.own, [vi x]⟩]) v xs := q.keeps (kl.p fun _ => True) (fun _ _ => trivial) (by simp)
  have hfl : flats (xs ++ [x]) = flats xs ++ [vi x] := by rw [flats_append]; rfl
  have hln : (flats xs).length = xs.length := by rw [flats_len]; exact Nat.mul_one _
  have fin : ∀ H : Heap, lo ≤ H.length → Qs lo (H ++ [⟨.own, flats xs ++ [vi x]⟩]) (.slice H.length 0 (xs.length + 1) (.o 1)) (xs ++ [x]) := fun H hH =>
    ⟨by simp; omega, by simp; omega, .inr ⟨H.length, 0, flats xs ++ [vi x], .o 1, by simp, hH, by simp, by
      simp only [cut, List.length_append, List.length_singleton, hln, Nat.zero_add, Nat.le_refl, if_true, List.drop_zero]
      rw [hfl, List.take_of_length_le (by simp [hln])], .inr ⟨rfl, by simp [hln]⟩⟩⟩
  have hr := q1.sl.rdS xs.length (Nat.le_refl _)
  rw [List.take_length] at hr
  change rdS _ 1 _ _ = _ at hr
  have q0 := q1
  obtain ⟨h1, h2, ⟨rfl, rfl⟩ | ⟨b, off, cs, cap, rfl, h3, hb, hc, rfl | ⟨rfl, hoff⟩⟩⟩ := q1
  · have e : appH 1 8 .nils 1 [vi x] (h ++ [(⟨.own, [vi x]⟩ : Blk)]) = some (.slice (h ++ [(⟨.own, [vi x]⟩ : Blk)]).length 0 1 (.o 1), (h ++ [(⟨.own, [vi x]⟩ : Blk)]) ++ [(⟨.own, [vi x]⟩ : Blk)]) := by
      simp only [appH]
      rw [if_neg (by decide), if_pos ⟨by unfold room; omega, by unfold room; omega⟩]
    refine ⟨_, _, e, ?_, fun i blk _ hi hl => Keeps.append _ _ i blk (kl i blk hi hl) hl, by simp, bn _ _⟩
    simpa [flats] using fin _ h2
  · have e : appH 1 8 (.slice b off xs.length (.k xs.length)) 1 [vi x] (h ++ [(⟨.own, [vi x]⟩ : Blk)]) = some (.slice (h ++ [(⟨.own, [vi x]⟩ : Blk)]).length 0 (xs.length + 1) (.o 1), (h ++ [(⟨.own, [vi x]⟩ : Blk)]) ++ [(⟨.own, flats xs ++ [vi x]⟩ : Blk)]) := by
      simp only [appH]
      rw [if_neg (by decide), if_neg (by omega), if_pos ⟨by unfold room; omega, by unfold room; omega⟩, hr]; rfl
    exact ⟨_, _, e, fin _ h2, fun i blk _ hi hl => Keeps.append _ _ i blk (kl i blk hi hl) hl, by simp, bn _ _⟩
  · have hc' : cut cs off (xs.length * 1) = some (flats xs) := by rw [Nat.mul_one]; exact hc
    have e : appH 1 8 (.slice b off xs.length (.o 1)) 1 [vi x] (h ++ [(⟨.own, [vi x]⟩ : Blk)]) = some (.slice (h ++ [(⟨.own, [vi x]⟩ : Blk)]).length 0 (xs.length + 1) (.o 1), (h ++ [(⟨.own, [vi x]⟩ : Blk)]).set b ⟨.dead, cs⟩ ++ [(⟨.own, flats xs ++ [vi x]⟩ : Blk)]) := by
      simp only [appH, hb]
      rw [if_neg (by decide), if_pos ⟨trivial, trivial, by decide⟩, if_neg (by omega), if_pos ⟨by unfold room; omega, by unfold room; omega⟩, hc']; rfl
    refine ⟨_, _, e, ?_, fun i blk hi hb2 hl => ?_, by simp; omega, bn _ _⟩
    · have := fin ((h ++ [(⟨.own, [vi x]⟩ : Blk)]).set b ⟨.dead, cs⟩) (by simpa using h2)
      simpa using this
    · have hne : i ≠ b := fun e => hi ⟨_, _, _, by rw [e]⟩
      have := kl i blk hb2 hl
      rw [List.getElem?_append_left (by simp; have := get_lt hb2; omega), List.getElem?_set_ne (Ne.symm hne)]
      exact this
theorem Qs.tail {x : Int} (q : Qs lo h v (x :: xs)) : ∃ v', slcV 1 v (some 1) none none = some v' ∧ Qs lo h v' xs ∧ ∀ i, vB v' i → vB v i := by
  obtain ⟨h1, h2, ⟨_, e⟩ | ⟨b, off, cs, cap, rfl, h3, hb, hc, hcap⟩⟩ := q
  · cases e
  · have hc1 : off + (xs.length + 1) ≤ cs.length := by
      unfold cut at hc; split at hc
      · simpa using (by assumption : off + (x :: xs).length ≤ cs.length)
      · cases hc
    have hc2 : cut cs (off + 1) xs.length = some (flats xs) := by
      unfold cut at hc ⊢
      rw [if_pos (by simpa using hc1)] at hc
      rw [if_pos (by omega)]
      simp only [Option.some.injEq] at hc ⊢
      rw [← List.drop_drop]
      have : ((cs.drop off).take (x :: xs).length).drop 1 = (flats (x :: xs)).drop 1 := by rw [hc]
      rw [List.drop_take] at this
      simpa [flats, Flat.cells] using this
    have h1' : xs.length < 2 ^ 40 := by simp at h1; omega
    rcases hcap with rfl | ⟨rfl, ho⟩
    · have e : slcV 1 (.slice b off (x :: xs).length (.k (x :: xs).length)) (some 1) none none = some (.slice b (if (x :: xs).length = 1 then off else off + 1 * 1) xs.length (.k xs.length)) := by
        simp only [slcV, Option.getD_some, Option.getD_none, List.length_cons]; rw [if_pos ⟨by omega, by omega, Nat.le_refl _⟩]; simp
      refine ⟨_, e, ⟨h1', h2, .inr ⟨b, _, cs, .k xs.length, rfl, h3, hb, ?_, .inl rfl⟩⟩, ?_⟩
      · split
        · rename_i hz
          have : xs = [] := List.length_eq_zero_iff.1 (by simpa using hz)
          subst this
          simp [cut, flats]; omega
        · simpa using hc2
      · rintro i ⟨_, _, _, e⟩; injection e with e1; subst e1; exact ⟨_, _, _, rfl⟩
    · have e : slcV 1 (.slice b off (x :: xs).length (.o 1)) (some 1) none none = some (.slice b (off + 1 * 1) xs.length (.o 1)) := by
        simp only [slcV, Option.getD_some, Option.getD_none, List.length_cons]; rw [if_pos ⟨trivial, by omega, Nat.le_refl _⟩]; simp
      refine ⟨_, e, ⟨h1', h2, .inr ⟨b, off + 1 * 1, cs, .o 1, rfl, h3, hb, by simpa using hc2, .inr ⟨rfl, by simp at ho; omega⟩⟩⟩, ?_⟩
      rintro i ⟨_, _, _, e⟩; injection e with e1; subst e1; exact ⟨_, _, _, rfl⟩
theorem Qs.fr (q : Qs lo h v xs) : ∃ F, SdF h v xs F ∧ Fresh lo h F := by
  have hc : capOK (Flat.sz Int) v := by
    obtain ⟨h1, h2, ⟨rfl, rfl⟩ | ⟨b, off, cs, cap, rfl, h3, hb, hc, rfl | ⟨rfl, hoff⟩⟩⟩ := q
    · trivial
    · exact Nat.le_refl _
    · exact rfl
  obtain ⟨F, hF, hF2, _⟩ := q.sl.sdF hc
  refine ⟨F, hF, hF.flatF.2.1, fun b hb => (q.ge (hF2 b hb).2).1, fun b hb => ?_⟩
  obtain ⟨h1, h2, ⟨rfl, rfl⟩ | ⟨b', off, cs, cap, rfl, h3, hb', hc, _⟩⟩ := q
  · obtain ⟨_, _, _, e⟩ := (hF2 b hb).2; cases e
  · obtain ⟨_, _, _, e⟩ := (hF2 b hb).2; cases e; exact ⟨_, hb'⟩
theorem Qs.far {h0 h' : Heap} (q : Qs lo h v xs) (hk : Keeps h0 h) (hp : KeepsP (fun i => ¬ vB v i) h h') (hl : h0.length ≤ lo) : Keeps h0 h' :=
  Keeps.far (n := h0.length) hk hp (Nat.le_refl _) fun i hi hv => by have := (q.ge hv).1; omega
end
end GL

namespace GL
open Go

end GL

namespace GL
open Go

/-- all that one leads to, and that lead back -/
noncomputable def groupL (l : List (List Int)) (a : Int) : List Int := (reachL l a).filter fun b => decide (a ∈ reachL l b)
def InR (l : List (List Int)) (a : Int) : Prop := 0 ≤ a ∧ a < l.length
section
variable {l : List (List Int)} (hg : linksB l = true)
include hg
theorem mem_groupL {a b : Int} (ha : InR l a) : b ∈ groupL l a ↔ Rch l a b ∧ Rch l b a := by
  simp only [groupL, List.mem_filter, decide_eq_true_eq]
  rw [mem_reachL hg ha]
  constructor
  · rintro ⟨h1, h2⟩; exact ⟨h1, (mem_reachL hg (h1.lt hg ha)).1 h2⟩
  · rintro ⟨h1, h2⟩; exact ⟨h1, (mem_reachL hg (h1.lt hg ha)).2 h2⟩
theorem groupL_in {a b : Int} (ha : InR l a) (hb : b ∈ groupL l a) : InR l b := ((mem_groupL hg ha).1 hb).1.lt hg ha
end

def readyB (l : List (List Int)) (done : List Int) (k : Int) : Prop := ∀ x ∈ reachL l k, x ∈ done ∨ x ∈ groupL l k
noncomputable instance (l : List (List Int)) (done : List Int) (k : Int) : Decidable (readyB l done k) := by unfold readyB; infer_instance
/-- nothing leads out of these -/
structure Cl (l : List (List Int)) (done : List Int) : Prop where
  lt : ∀ x ∈ done, InR l x
  cl : ∀ x ∈ done, ∀ y, Rch l x y → y ∈ done

theorem Cl.nil (l : List (List Int)) : Cl l [] := ⟨by simp, by simp⟩
section
variable {l : List (List Int)} (hg : linksB l = true)
include hg
theorem ready_iff {done : List Int} {k : Int} (hk : InR l k) : readyB l done k ↔ ∀ x, Rch l k x → x ∈ done ∨ Rch l x k := by
  constructor
  · intro h x r
    rcases h x ((mem_reachL hg hk).2 r) with h | h
    · exact .inl h
    · exact .inr ((mem_groupL hg hk).1 h).2
  · intro h x hx
    have r := (mem_reachL hg hk).1 hx
    rcases h x r with h | h
    · exact .inl h
    · exact .inr ((mem_groupL hg hk).2 ⟨r, h⟩)
theorem Cl.next {done : List Int} (hc : Cl l done) {k : Int} (hk : InR l k) (h2 : readyB l done k) : Cl l (done ++ groupL l k) := by
  refine ⟨fun x hx => ?_, fun x hx y r => ?_⟩
  · rcases List.mem_append.1 hx with h | h
    · exact hc.lt x h
    · exact groupL_in hg hk h
  · rcases List.mem_append.1 hx with h | h
    · exact List.mem_append_left _ (hc.cl x h y r)
    · have ⟨r1, r2⟩ := (mem_groupL hg hk).1 h
      rcases (ready_iff hg hk).1 h2 y (r1.trans r) with h | h
      · exact List.mem_append_left _ h
      · exact List.mem_append_right _ ((mem_groupL hg hk).2 ⟨r1.trans r, h⟩)
end
end GL

namespace GL
open Go

/-- what was read stands az it was -/
theorem stab1 {A B C : Type} {a : A} {b : B} {c : C} {P : A → B → C → Prop} : (∀ o az x, some (a, b, c) = some (o, az, x) → P o az x) ↔ P a b c := ⟨fun h => h _ _ _ rfl, fun h o az x e => by cases e; exact h⟩

end GL

namespace GL
open Go

theorem hasAll_ok {h : Heap} {v w : V} {az bs : List Int} (hs : Sl h v az) (ht : Sl h w bs) : ∃ r h', call p 552 [v, w] h = some (r, h') ∧ r = .bool (bs.all fun n => decide (n ∈ az)) ∧ Keeps h h' ∧ h.length ≤ h'.length := by
  have k0 : Keeps h (h ++ [⟨.own, [v]⟩]) := Keeps.append _ _
  have hb0 : (h ++ [⟨.own, [v]⟩])[h.length]? = some ⟨.own, [v]⟩ := get_last _ _
  have r0 : rdH (h ++ [⟨.own, [v]⟩]) h.length 0 1 = some [v] := by rw [rdH_at hb0 (by simp)]; rfl
  have e1 := containsFh_eq (ht.keeps k0) 572 [.ptr h.length 0] (fun n => !decide (n ∈ az)) fun n => by
    refine go_eq (fn := g572) rfl rfl fun R hR => ?_
    simp [g572, r0, containsI_eq (hs.keeps k0)]; simpa using hR
  have ea : (bs.any fun n => !decide (n ∈ az)) = !(bs.all fun n => decide (n ∈ az)) := by rw [List.not_all_eq_any_not]
  rw [ea] at e1
  generalize (bs.all fun n => decide (n ∈ az)) = q at e1 ⊢
  refine go (fn := g552) rfl rfl fun R hR => ?_
  simp [g552, hs.cells, hs.cell, e1]
  exact hR _ _ ⟨rfl, k0, by simp⟩

theorem Out.mono {α : Type} [Flat α] {lo lo' : Nat} {h : Heap} {v : V} {xs : List α} (o : Out lo' h v xs) (hl : lo ≤ lo') : Out lo h v xs := by
  obtain ⟨h1, h2, ⟨rfl, rfl⟩ | ⟨b, rfl, hb, h3⟩ | ⟨b, rfl, rfl, h3, h4⟩⟩ := o
  · exact ⟨h1, by omega, .inl ⟨rfl, rfl⟩⟩
  · exact ⟨h1, by omega, .inr (.inl ⟨b, rfl, hb, by omega⟩)⟩
  · exact ⟨h1, by omega, .inr (.inr ⟨b, rfl, rfl, by omega, h4⟩)⟩

end GL

namespace GL
open Go

section
variable {l : List (List Int)} (hg : linksB l = true)
include hg
end

end GL

namespace GL
open Go

theorem OdF.keep {α : Type} [Data α] {lo : Nat} {h h' : Heap} {v : V} {xs : List α} {G : List Nat} (o : OdF lo h v xs G) (hk : Keeps h h') (hl : h.length ≤ h'.length) : OdF lo h' v xs G :=
  ⟨o.1.keeps (hk.p fun _ => True) (fun _ _ => trivial) (fun _ _ => trivial) hl, o.2.keeps (hk.p _)⟩

end GL

namespace GL
open Go

end GL

namespace GL
open Go

end GL

namespace GL
open Go

end GL

namespace GL
open Go

theorem sameRows_same {h : Heap} {v w : V} {l : List (List Int)} {F G : List Nat} (hs : SdF h v l F) (ht : SdF h w l G) : call p 383 [v, w] h = some (.bool true, h) := by
  refine go_eq (fn := g383) rfl rfl fun R hR => ?_
  simp [g383, hs.len, ht.len]
  refine Wc_upM (M := [4, 5, 13, 14, 15, 16, 17, 18, 19, 20, 21, 22, 23, 24, 25, 26]) rfl l.length (fun i s => s.σ 13 = .v (vi i) ∧ s.h = h) 0 (by simp) fun i s ⟨g13, gh⟩ hM J hJ => ?_
  by_cases hn : i < l.length
  · obtain ⟨x, F2, ex, hx, _⟩ := hs.loadL i hn
    obtain ⟨y, F3, ey, hy, _⟩ := ht.loadL i hn
    have e := sameInts_eq hx.sl hy.sl
    rw [decide_eq_true rfl] at e
    simp [g383_0, hM, g13, gh, hn, hs.idx 1 .i64 i hn, ht.idx 1 .i64 i hn, ex, ey, e, hs.step hn]
    exact hJ _ hn ⟨by simp, rfl⟩
  · simp [g383_0, hM, g13, gh, hn]
    exact hR

end GL

namespace GL
open Go

end GL

namespace GL
open Go

theorem getD_in {α : Type} {xs : List α} {i : Nat} (hi : i < xs.length) (d : α) : xs.getD i d = xs[i] := by simp [hi]
section
variable {l : List (List Int)} (hg : linksB l = true)
include hg
end

end GL

namespace GL
open Go

theorem KeepsP.low {h h1 h2 : Heap} {n : Nat} (hk : Keeps h h1) (hp : KeepsP (fun b => b < n) h1 h2) (hn : h.length ≤ n) : Keeps h h2 := Keeps.far (n := h.length) hk hp (Nat.le_refl _) fun i hi => by omega

end GL

namespace GL
open Go

end GL

namespace GL
open Go

end GL

namespace GL
open Go

end GL

namespace GL
open Go

theorem l5Sub_eq {h : Heap} {v w : V} {az bs : List Int} (ha : Sl h v az) (hb : Sl h w bs) : call p 554 [v, w] h = some (.bool (az.all fun x => decide (x ∈ bs)), h) := by
  refine go_eq (fn := g554) rfl rfl fun R hR => ?_
  simp [g554, ha.len]
  refine Wc_upM (M := [4, 6, 9, 10, 11, 12, 13, 14, 15, 16, 17]) rfl az.length (fun i s => s.σ 9 = .v (vi i) ∧ s.h = h ∧ ∀ x ∈ az.take i, decide (x ∈ bs) = true) 0 (by simp) fun i s ⟨g9, gh, hall⟩ hM J hJ => ?_
  by_cases hi : i < az.length
  · have ix := ha.idx 1 .i64 i hi
    simp only [Nat.mul_one] at ix
    have e := l1Has_eq hb az[i]
    by_cases hm : az[i] ∈ bs
    · rw [decide_eq_true hm] at e
      simp [g554_0, hM, g9, gh, hi, ix, ha.loadI, e, ha.step hi]
      exact hJ _ hi ⟨by simp, rfl, (all_take_succ (P := fun x => decide (x ∈ bs) = true) hi).2 ⟨hall, decide_eq_true hm⟩⟩
    · rw [decide_eq_false hm] at e
      simp [g554_0, hM, g9, gh, hi, ix, ha.loadI, e]
      have : (az.all fun x => decide (x ∈ bs)) = false := List.all_eq_false.2 ⟨_, List.getElem_mem hi, by simp [hm]⟩
      rw [this] at hR; exact hR
  · rw [List.take_of_length_le (by omega)] at hall
    have : (az.all fun x => decide (x ∈ bs)) = true := List.all_eq_true.2 hall
    rw [this] at hR
    simp [g554_0, hM, g9, gh, hi]; exact hR
theorem l6Less_ok {h : Heap} {v w : V} {az bs : List Int} (ha : Sl h v az) (hb : Sl h w bs) (hl : az.length ≤ 2 ^ 20) :
    ∃ r h', call p 548 [v, w] h = some (r, h') ∧ Out h.length h' r (az.filter fun x => !decide (x ∈ bs)) ∧ Keeps h h' ∧ h.length ≤ h'.length := by
  refine go (fn := g548) rfl rfl fun R hR => ?_
  simp [g548, ha.len]
  refine Wc_upM (M := [5, 7, 10, 11, 12, 13, 14, 15, 16, 17, 18, 19, 20, 21, 22]) rfl az.length (fun i s => s.σ 10 = .v (vi i) ∧ ∃ v5, s.σ 5 = .v v5 ∧ Out h.length s.h v5 ((az.take i).filter fun x => !decide (x ∈ bs)) ∧ Keeps h s.h ∧ h.length ≤ s.h.length) 0
    ⟨by simp, .nils, by simp, by simpa using Out.nil (Nat.le_refl _), Keeps.refl _, Nat.le_refl _⟩ fun i s ⟨g10, v5, g5, ho, hk, hln⟩ hM J hJ => ?_
  by_cases hn : i < az.length
  · have ha' := ha.keeps hk
    have ht := List.take_succ_eq_append_getElem hn
    have e3 := l1Has_eq (hb.keeps hk) az[i]
    have ij := ha.idx 1 .i64 i hn
    simp only [Nat.mul_one] at ij
    by_cases hm : az[i] ∈ bs
    · rw [decide_eq_true hm] at e3
      simp [g548_0, hM, g10, g5, hn, ij, ha'.loadI, e3, ha.step hn]
      refine hJ _ hn ⟨by simp, v5, by simp [g5], ?_, hk, hln⟩
      rw [ht, List.filter_append]; simpa [hm] using ho
    · rw [decide_eq_false hm] at e3
      have hle : ((az.take i).filter fun x => !decide (x ∈ bs)).length ≤ 2 ^ 20 := Nat.le_trans (List.length_filter_le ..) (by simp; omega)
      obtain ⟨v6, h3, e4, o3, k3, l3⟩ := ho.one az[i] hle
      simp [g548_0, hM, g10, g5, hn, ij, ha'.loadI, e3, fillL, rdS_last, e4, ha.step hn]
      refine hJ _ hn ⟨by simp, v6, by simp, ?_, ho.far hk k3 (Nat.le_refl _), by show h.length ≤ h3.length; omega⟩
      rw [ht, List.filter_append]; simpa [hm] using o3
  · rw [List.take_of_length_le (by omega)] at ho
    simp [g548_0, hM, g10, g5, hn]
    exact hR _ _ ⟨ho, hk, hln⟩
end GL

namespace GL
open Go

end GL

namespace GL
open Go

end GL

namespace GL
open Go

/-! deeds -/
structure Dd where
  key : Int
  wr : Bool
instance : Flat Dd := ⟨2, fun d => [vi d.key, .bool d.wr], fun _ => rfl, fun _ => rfl, by decide⟩
end GL

namespace GL
open Go

end GL

namespace GL
open Go

/-! a log that was heard: the places, the deeds, and what each place heard, in order -/
structure Hd where
  no : Int
  deeds : List Dd
  rows : List (List Int)
instance hdData : Data Hd where
  sz := 3
  pos := by decide
  rep := fun h c cs F => ∃ x y F1 F2, cs = [vi c.no, x, y] ∧ F = F1 ++ F2 ∧ SdF h x c.deeds F1 ∧ SdF h y c.rows F2
  len := by rintro h a cs F ⟨x, y, F1, F2, rfl, _⟩; rfl
  ok := by rintro h a cs F ⟨x, y, F1, F2, rfl, _, h1, h2⟩; simp [allCell, h1.cell, h2.cell, cell_int]
  keeps := by
    rintro h h' a cs F ⟨x, y, F1, F2, rfl, rfl, h1, h2⟩ hk
    exact ⟨x, y, F1, F2, rfl, rfl, h1.keeps (hk.mono fun b hb => List.mem_append_left _ hb), h2.keeps (hk.mono fun b hb => List.mem_append_right _ hb)⟩
  lt := by
    rintro h a cs F b ⟨x, y, F1, F2, rfl, rfl, h1, h2⟩ hb
    rcases List.mem_append.1 hb with hb | hb
    · exact h1.lt hb
    · exact h2.lt hb
def HdV (h : Heap) (v : V) (c : Hd) (F : List Nat) : Prop := ∃ x y F1 F2, v = .agg [vi c.no, x, y] ∧ F = F1 ++ F2 ∧ SdF h x c.deeds F1 ∧ SdF h y c.rows F2
section
variable {h h' : Heap} {v w : V} {c : Hd} {F G : List Nat}
theorem HdV.keeps (hc : HdV h v c F) (hk : KeepsP (fun b => b ∈ F) h h') : HdV h' v c F := by
  obtain ⟨x, y, F1, F2, rfl, rfl, h1, h2⟩ := hc
  exact ⟨x, y, F1, F2, rfl, rfl, h1.keeps (hk.mono fun b hb => List.mem_append_left _ hb), h2.keeps (hk.mono fun b hb => List.mem_append_right _ hb)⟩
theorem HdV.keep (hc : HdV h v c F) (hk : Keeps h h') : HdV h' v c F := hc.keeps (hk.p _)
theorem HdV.lt (hc : HdV h v c F) {b : Nat} (hb : b ∈ F) : b < h.length := by
  obtain ⟨x, y, F1, F2, rfl, rfl, h1, h2⟩ := hc
  rcases List.mem_append.1 hb with hb | hb
  · obtain ⟨_, h3, _⟩ := h1.lt hb; exact get_lt h3
  · obtain ⟨_, h3, _⟩ := h2.lt hb; exact get_lt h3
end

theorem sub_len : ∀ {l m : List Int}, l.Nodup → (∀ x ∈ l, x ∈ m) → l.length ≤ m.length
  | [], m, _, _ => by simp
  | a :: l, m, hn, hs => by
    have h1 := List.nodup_cons.1 hn
    have ham := hs a (by simp)
    have := sub_len (l := l) (m := m.erase a) h1.2 fun x hx => (List.mem_erase_of_ne (fun e => h1.1 (by rw [← e]; exact hx))).2 (hs x (by simp [hx]))
    rw [List.length_erase_of_mem ham] at this
    have : 0 < m.length := List.length_pos_of_mem ham
    simp; omega
end GL

namespace GL
open Go

end GL

namespace GL
open Go

end GL

namespace GL
open Go

end GL

namespace GL
open Go

def Dd.of (p : Int × Bool) : Dd := ⟨p.1, p.2⟩
def Hd.of (p : Int × List Dd × List (List Int)) : Hd := ⟨p.1, p.2.1, p.2.2⟩
end GL

namespace GL
open Go

end GL

namespace GL
open Go

end GL

namespace GL
open Go

end GL

namespace GL
open Go

end GL

namespace GL
open Go

theorem Od.one {α : Type} [Data α] {lo : Nat} {h h1 : Heap} {v : V} {xs : List α} {G G' : List Nat} (od : Od lo h v xs G) (k1 : Keeps h h1) (l1 : h.length ≤ h1.length) (hG : ∀ b ∈ G', h.length ≤ b) {x : α} {cs : List V} (hr : Data.rep h1 x cs G') (hx : xs.length ≤ 2 ^ 20) {k bytes : Nat} (hk : k = Data.sz α) (hb : bytes ≤ 2 ^ 8) :
    ∃ v' h2, appH k bytes v 1 cs (h1 ++ [⟨.own, cs⟩]) = some (v', h2) ∧ Od lo h2 v' (xs ++ [x]) (G ++ G') ∧ (∀ h0 : Heap, Keeps h0 h → h0.length ≤ lo → Keeps h0 h2) ∧ h1.length < h2.length := by
  have hge := fun i (hi : vB v i) => od.ge hi
  have kl : Keeps h1 (h1 ++ [⟨.own, cs⟩]) := Keeps.append h1 _
  have od1 : Od lo (h1 ++ [⟨.own, cs⟩]) v xs G := od.keeps ((k1.trans kl).p fun _ => True) (fun _ _ => trivial) (fun _ _ => trivial) (by simp; omega)
  have hnv : ∀ b ∈ G', ¬ vB v b := fun b hb hv => by have := (hge b hv).2; have := hG b hb; omega
  obtain ⟨v', h2, e, o2, kp, l2, b2⟩ := od1.app (zs := [x]) (G := G') (by simp) (.one (Data.keeps hr (kl.p _))) hnv hb (by simp; omega) hk rfl
  have k2 : KeepsP (fun i => ¬ vB v i) h1 h2 := fun i blk hi h3 h4 => kp i blk hi (kl i blk h3 h4) h4
  exact ⟨v', h2, e, o2, fun h0 hk0 hl0 => Keeps.far (n := lo) (hk0.trans k1) k2 hl0 fun i hi hv => by have := (hge i hv).1; omega, by simp at l2; omega⟩

/-! a house: a heard log, and a group for each of its deeds -/
structure Hs where
  heard : Hd
  groups : List (List Int)
instance hsData : Data Hs where
  sz := 4
  pos := by decide
  rep := fun h c cs F => ∃ x y z F1 F2 F3, cs = [vi c.heard.no, x, y, z] ∧ F = F1 ++ F2 ++ F3 ∧ SdF h x c.heard.deeds F1 ∧ SdF h y c.heard.rows F2 ∧ SdF h z c.groups F3
  len := by rintro h a cs F ⟨x, y, z, F1, F2, F3, rfl, _⟩; rfl
  ok := by rintro h a cs F ⟨x, y, z, F1, F2, F3, rfl, _, h1, h2, h3⟩; simp [allCell, h1.cell, h2.cell, h3.cell, cell_int]
  keeps := by
    rintro h h' a cs F ⟨x, y, z, F1, F2, F3, rfl, rfl, h1, h2, h3⟩ hk
    exact ⟨x, y, z, F1, F2, F3, rfl, rfl, h1.keeps (hk.mono fun b hb => by simp [hb]), h2.keeps (hk.mono fun b hb => by simp [hb]), h3.keeps (hk.mono fun b hb => by simp [hb])⟩
  lt := by
    rintro h a cs F b ⟨x, y, z, F1, F2, F3, rfl, rfl, h1, h2, h3⟩ hb
    rcases List.mem_append.1 hb with hb | hb
    · rcases List.mem_append.1 hb with hb | hb
      · exact h1.lt hb
      · exact h2.lt hb
    · exact h3.lt hb
def HsV (h : Heap) (v : V) (c : Hs) (F : List Nat) : Prop := ∃ x y z F1 F2 F3, v = .agg [vi c.heard.no, x, y, z] ∧ F = F1 ++ F2 ++ F3 ∧ SdF h x c.heard.deeds F1 ∧ SdF h y c.heard.rows F2 ∧ SdF h z c.groups F3
section
variable {h h' : Heap} {v w : V} {c : Hs} {F G : List Nat}
theorem HsV.keeps (hc : HsV h v c F) (hk : KeepsP (fun b => b ∈ F) h h') : HsV h' v c F := by
  obtain ⟨x, y, z, F1, F2, F3, rfl, rfl, h1, h2, h3⟩ := hc
  exact ⟨x, y, z, F1, F2, F3, rfl, rfl, h1.keeps (hk.mono fun b hb => by simp [hb]), h2.keeps (hk.mono fun b hb => by simp [hb]), h3.keeps (hk.mono fun b hb => by simp [hb])⟩
theorem HsV.keep (hc : HsV h v c F) (hk : Keeps h h') : HsV h' v c F := hc.keeps (hk.p _)
theorem HsV.lt (hc : HsV h v c F) {b : Nat} (hb : b ∈ F) : b < h.length := by
  obtain ⟨x, y, z, F1, F2, F3, rfl, rfl, h1, h2, h3⟩ := hc
  rcases List.mem_append.1 hb with hb | hb
  · rcases List.mem_append.1 hb with hb | hb
    · obtain ⟨_, h3, _⟩ := h1.lt hb; exact get_lt h3
    · obtain ⟨_, h3, _⟩ := h2.lt hb; exact get_lt h3
  · obtain ⟨_, h4, _⟩ := h3.lt hb; exact get_lt h4
end
def Hs.of (p : Hd × List (List Int)) : Hs := ⟨p.1, p.2⟩
end GL

namespace GL
open Go

theorem SdF.ltF {α : Type} [Data α] {h : Heap} {v : V} {xs : List α} {F : List Nat} (hs : SdF h v xs F) {b : Nat} (hb : b ∈ F) : b < h.length := by
  obtain ⟨_, h9, _⟩ := hs.lt hb; exact get_lt h9
end GL

namespace GL
open Go

end GL

namespace GL
open Go

/-! what comes of deeds that are done in an order -/
structure Oc where
  order : List Int
  keys : List Int
  seen : List Int
end GL

namespace GL
open Go

def OcV (h : Heap) (v : V) (c : Oc) (F : List Nat) : Prop := ∃ x y z F1 F2 F3, v = .agg [x, y, z] ∧ F = F1 ++ F2 ++ F3 ∧ SdF h x c.order F1 ∧ SdF h y c.keys F2 ∧ SdF h z c.seen F3
end GL

namespace GL
open Go

end GL

namespace GL
open Go

section
variable {h h' : Heap} {v w : V} {c : Oc} {F G : List Nat}
theorem OcV.keeps (hc : OcV h v c F) (hk : KeepsP (fun b => b ∈ F) h h') : OcV h' v c F := by
  obtain ⟨x, y, z, F1, F2, F3, rfl, rfl, h1, h2, h3⟩ := hc
  exact ⟨x, y, z, F1, F2, F3, rfl, rfl, h1.keeps (hk.mono fun b hb => by simp [hb]), h2.keeps (hk.mono fun b hb => by simp [hb]), h3.keeps (hk.mono fun b hb => by simp [hb])⟩
theorem OcV.keep (hc : OcV h v c F) (hk : Keeps h h') : OcV h' v c F := hc.keeps (hk.p _)
theorem OcV.lt (hc : OcV h v c F) {b : Nat} (hb : b ∈ F) : b < h.length := by
  obtain ⟨x, y, z, F1, F2, F3, rfl, rfl, h1, h2, h3⟩ := hc
  rcases List.mem_append.1 hb with hb | hb
  · rcases List.mem_append.1 hb with hb | hb
    · exact h1.ltF hb
    · exact h2.ltF hb
  · exact h3.ltF hb
end
end GL

namespace GL
open Go

end GL

namespace GL
open Go

end GL

namespace GL
open Go

end GL

namespace GL
open Go

end GL

namespace GL
open Go

end GL

namespace GL
open Go

end GL

namespace GL
open Go

end GL

namespace GL
open Go

end GL

namespace GL
open Go

end GL

namespace GL
open Go

end GL

namespace GL
open Go

end GL

namespace GL
open Go

end GL

namespace GL
open Go

theorem Od.draw {α : Type} [Data α] {h0 h h1 g : Heap} {N lo : Nat} {v : V} {xs : List α} {G G' : List Nat} (d : DC h0 h1 N) (kb : KeepsBut h0.length g h1) (od : Od lo h v xs G) (k1 : KeepsBut h0.length h h1) (l1 : h.length ≤ h1.length) (hlo : g.length ≤ lo) (hc : h0.length < lo) (gG : ∀ b ∈ G, lo ≤ b)
    (hG : ∀ b ∈ G', h.length ≤ b) {x : α} {cs : List V} (hr : Data.rep h1 x cs G') (hx : xs.length ≤ 2 ^ 20) {k bytes : Nat} (hk : k = Data.sz α) (hb : bytes ≤ 2 ^ 8) :
    ∃ v' h2, appH k bytes v 1 cs (h1 ++ [⟨.own, cs⟩]) = some (v', h2) ∧ Od lo h2 v' (xs ++ [x]) (G ++ G') ∧ DC h0 h2 N ∧ KeepsBut h0.length g h2 ∧ h1.length < h2.length := by
  have hge := fun i (hi : vB v i) => od.ge hi
  have kl : Keeps h1 (h1 ++ [⟨.own, cs⟩]) := Keeps.append h1 _
  have kp1 : KeepsP (fun b => b ≠ h0.length) h (h1 ++ [⟨.own, cs⟩]) := k1.P.trans (kl.p _)
  have nG : ∀ b ∈ G, b ≠ h0.length := fun b hb => by have := gG b hb; omega
  have od1 : Od lo (h1 ++ [⟨.own, cs⟩]) v xs G := od.keeps kp1 (fun i hi => by have := (hge i hi).1; omega) nG (by simp; omega)
  have hnv : ∀ b ∈ G', ¬ vB v b := fun b hb hv => by have := (hge b hv).2; have := hG b hb; omega
  obtain ⟨v', h2, e, o2, kp, l2, b2⟩ := od1.app (zs := [x]) (G := G') (by simp) (.one (Data.keeps hr (kl.p _))) hnv hb (by simp; omega) hk rfl
  have k2 : KeepsP (fun i => ¬ vB v i) h1 h2 := fun i blk hi h3 h4 => kp i blk hi (kl i blk h3 h4) h4
  exact ⟨v', h2, e, o2, d.far k2 fun i hi hv => by have := (hge i hv).1; omega, kb.far k2 fun i hi _ hv => by have := (hge i hv).1; omega, by simp at l2; omega⟩
end GL

namespace GL
open Go

end GL

namespace GL
open Go

end GL

namespace GL
open Go

end GL

namespace GL
open Go

end GL

namespace GL
open Go

end GL

namespace GL
open Go

end GL

namespace GL
open Go

end GL

namespace GL
open Go

theorem common {n : Nat} {az bs : List Int} (ha : az.Nodup) (hb : bs.Nodup) (hin : ∀ x ∈ az ++ bs, 0 ≤ x ∧ x < (n : Int)) (hl : n < az.length + bs.length) : ∃ x, x ∈ az ∧ x ∈ bs := by
  refine Decidable.byContradiction fun hno => ?_
  have hnd : (az ++ bs).Nodup := List.nodup_append.2 ⟨ha, hb, fun x hx y hy e => by subst e; exact hno ⟨x, hx, hy⟩⟩
  have := nodup_len hnd hin
  rw [List.length_append] at this; omega
end GL

namespace GL
open Go

end GL

namespace GL
open Go

end GL

namespace GL
open Go

end GL

namespace GL
open Go

end GL

namespace GL
open Go

def agH (a b : List Int) (p : Int) : Prop := p.tdiv 12 ∈ a ∧ p.tmod 12 ∈ a ∧ p.tdiv 12 ∈ b ∧ p.tmod 12 ∈ b
instance (a b : List Int) (p : Int) : Decidable (agH a b p) := by unfold agH; infer_instance
end GL

namespace GL
open Go

end GL

namespace GL
open Go

end GL

namespace GL
open Go

end GL

namespace GL
open Go

end GL

namespace GL
open Go

end GL

namespace GL
open Go

end GL

namespace GL
open Go

end GL

namespace GL
open Go

end GL

namespace GL
open Go

structure Sp where
  kind : Int
  shard : Int
  key : Int
  src : Int
  n : Int
deriving DecidableEq
instance : Flat Sp := ⟨5, fun x => [vi x.kind, vi x.shard, vi x.key, vi x.src, vi x.n], fun _ => rfl, fun _ => rfl, by decide⟩
def okS (s : Sp) (at' : Int) : Prop :=
  (0 ≤ s.shard ∧ s.shard ≤ 2) ∧ (0 ≤ s.key ∧ s.key ≤ 3) ∧ ((s.kind = 1 ∧ s.src = 0 ∧ s.n = 0) ∨ (s.kind = 2 ∧ s.key = 0 ∧ (0 ≤ s.src ∧ s.src ≤ at' - 1) ∧ (-99 ≤ s.n ∧ s.n ≤ 99)) ∨ (s.kind = 3 ∧ (0 ≤ s.src ∧ s.src ≤ at' - 1) ∧ s.n = 0))
instance (s : Sp) (a : Int) : Decidable (okS s a) := by unfold okS; infer_instance
end GL

namespace GL
open Go

/-- numbers that are not too large -/
def smI (xs : List Int) : Prop := ∀ x ∈ xs, -1000000 ≤ x ∧ x ≤ 1000000
theorem smI.getD {xs : List Int} (h : smI xs) (i : Nat) : -1000000 ≤ xs.getD i 0 ∧ xs.getD i 0 ≤ 1000000 := by
  by_cases hi : i < xs.length
  · rw [getD_at hi]; exact h _ (List.getElem_mem hi)
  · rw [List.getD_eq_getElem?_getD, List.getElem?_eq_none (by omega)]; simp
theorem smI.set {xs : List Int} (h : smI xs) (i : Nat) {x : Int} (hx : -1000000 ≤ x ∧ x ≤ 1000000) : smI (xs.set i x) := fun y hy => by
  rcases List.mem_or_eq_of_mem_set hy with h1 | h1
  · exact h y h1
  · rw [h1]; exact hx
end GL

namespace GL
open Go

def upTo (n : Nat) : List Int := (List.range n).map fun (i : Nat) => (i : Int)
theorem upTo_succ (n : Nat) : upTo (n + 1) = upTo n ++ [(n : Int)] := by simp [upTo, List.range_succ]
theorem upTo_len (n : Nat) : (upTo n).length = n := by simp [upTo]
theorem mem_upTo {n : Nat} {x : Int} : x ∈ upTo n ↔ 0 ≤ x ∧ x < n := by
  simp only [upTo, List.mem_map, List.mem_range]
  constructor
  · rintro ⟨i, hi, rfl⟩; omega
  · intro h; exact ⟨x.toNat, by omega, by omega⟩
theorem allColumns_ok {h : Heap} (n : Nat) (hn : n ≤ 2 ^ 20) : ∃ r h', call p 598 [vi n] h = some (r, h') ∧ Out h.length h' r (upTo n) ∧ Keeps h h' ∧ h.length ≤ h'.length := by
  refine go (fn := g598) rfl rfl fun R hR => ?_
  simp [g598]
  refine Wc_upM (M := [3, 4, 7, 8, 9, 10, 11, 12, 13, 14]) rfl n (fun i s => i ≤ n ∧ s.σ 7 = .v (vi i) ∧ (∃ v, s.σ 3 = .v v ∧ Out h.length s.h v (upTo i)) ∧ Keeps h s.h ∧ h.length ≤ s.h.length) 0
    ⟨by omega, by simp, ⟨.slice h.length 0 0 (.k 0), by simp, Out.empty (Nat.le_refl _) (by simp)⟩, Keeps.append _ _, by simp⟩ fun i s ⟨gi, g7, ⟨v, g3, ho⟩, hk, hl⟩ hM J hJ => ?_
  by_cases hi : i < n
  · obtain ⟨v', h1, e1, o1, k1, l1⟩ := ho.one (i : Int) (by rw [upTo_len]; omega)
    have st : IntKind.i64.wrap ((i : Int) + 1) = (i + 1 : Nat) := by rw [IntWalk.i64_in] <;> omega
    simp [g598_0, hM, g7, g3, hi, fillL, rdS_last, e1, st, -Int.natCast_add]
    exact hJ _ hi ⟨hi, by simp, ⟨v', by simp, by rw [upTo_succ]; exact o1⟩, ho.far hk k1 (Nat.le_refl _), by show h.length ≤ h1.length; omega⟩
  · have : i = n := by omega
    subst this
    simp [g598_0, hM, g7, g3]
    exact hR _ _ ⟨ho, hk, hl⟩

end GL

namespace GL
open Go

end GL

