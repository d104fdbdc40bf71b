import Derived.ChangeArms
import Derived.IntWalk
import Derived.WideShapes
import Derived.Test.YtnlagjpblhjnbaaGp
/- What the functions of the law do, on the machine. -/
set_option linter.unusedSimpArgs false
set_option linter.unusedVariables false
/-! truths -/
namespace GL
open Go

@[simp] theorem within_eq (n lo hi : Int) (h : Heap) : call p 107 [vi n, vi lo, vi hi] h = some (.bool (decide (lo ≤ n ∧ n ≤ hi)), h) := by
  apply W_eq
  refine call_W (fn := g107) rfl rfl ?_
  by_cases h1 : lo ≤ n <;> simp [g107, h1]

@[simp] theorem l1In_eq (n lo hi : Int) (h : Heap) : call p 98 [vi n, vi lo, vi hi] h = some (.bool (decide (lo ≤ n ∧ n ≤ hi)), h) := by
  apply W_eq
  refine call_W (fn := g98) rfl rfl ?_
  by_cases h1 : lo ≤ n <;> simp [g98, h1]

def isT (n : Int) : Prop := 0 ≤ n ∧ n ≤ 2
instance (n : Int) : Decidable (isT n) := inferInstanceAs (Decidable (_ ∧ _))

end GL

/-! the cursor of the draws -/
namespace GL
open Go

/-- a cursor at block c: what it holds, and how far it has come at most -/
def Cur (h : Heap) (c N : Nat) : Prop := ∃ (v : V) (bs : List Byte) (n : Nat) (sd : Int), h[c]? = some ⟨.own, [v, vi n, .int .u64 sd]⟩ ∧ Sl h v bs ∧ (bs = [] ∨ bOf v < c) ∧ n ≤ N

theorem Cur.mono {h : Heap} {c N M : Nat} (hc : Cur h c N) (hn : N ≤ M) : Cur h c M := by
  obtain ⟨v, bs, n, sd, h1, h2, h3, h4⟩ := hc
  exact ⟨v, bs, n, sd, h1, h2, h3, by omega⟩

theorem Cur.keeps {h h' : Heap} {c N : Nat} (hc : Cur h c N) (hk : Keeps h h') : Cur h' c N := by
  obtain ⟨v, bs, n, sd, h1, h2, h3, h4⟩ := hc
  exact ⟨v, bs, n, sd, hk _ _ h1 (by simp), h2.keeps hk, h3, h4⟩

theorem Cur.lt {h : Heap} {c N : Nat} (hc : Cur h c N) : c < h.length := by
  obtain ⟨_, _, _, _, h1, _⟩ := hc; exact get_lt h1

theorem Cur.keepsP {h h' : Heap} {c N : Nat} {P : Nat → Prop} (hc : Cur h c N) (hk : KeepsP P h h') (hp : ∀ i, i ≤ c → P i) : Cur h' c N := by
  obtain ⟨v, bs, n, sd, h1, h2, h3, h4⟩ := hc
  refine ⟨v, bs, n, sd, hk _ _ (hp _ (Nat.le_refl _)) h1 (by simp), ?_, h3, h4⟩
  refine ⟨h2.1, ?_⟩
  rcases h2.2 with hs | ⟨b, off, cap, hv, hs⟩
  · exact .inl hs
  · refine .inr ⟨b, off, cap, hv, ?_⟩
    rcases hs with hs | ⟨blk, h6, h7, h8⟩
    · exact .inl hs
    · subst hv
      rcases h3 with h5 | h5
      · exact .inl h5
      · exact .inr ⟨blk, hk _ _ (hp _ (Nat.le_of_lt h5)) h6 h7, h7, h8⟩

theorem Cur.set {h : Heap} {c N n : Nat} {v : V} {bs : List Byte} {nb : Blk} {sd sd' : Int} (h1 : h[c]? = some ⟨.own, [v, vi n, .int .u64 sd]⟩) (h2 : Sl h v bs) (h3 : bs = [] ∨ bOf v < c) (hn : n ≤ N)
    (hb : nb = ⟨.own, [v, vi (n + 1 : Nat), .int .u64 sd']⟩) : Cur (h.set c nb) c (N + 1) := by
  subst hb
  exact ⟨v, bs, n + 1, sd', by simp [get_lt h1], h2.but (h3.imp_right Nat.ne_of_lt) (KeepsBut.set _ _ _), h3, by omega⟩

theorem mod_byte (k : Nat) : ∃ x : Nat, x ≤ 255 ∧ IntKind.i64.wrap (IntKind.u64.wrap ((k &&& 255 % 2 ^ IntKind.u64.bits : Nat) : Int)) = x := by
  have h1 : 255 % 2 ^ IntKind.u64.bits = 2 ^ 8 - 1 := by decide
  refine ⟨k % 256, by omega, ?_⟩
  rw [h1, Nat.and_two_pow_sub_one_eq_mod, IntWalk.u64_in _ (by omega), IntWalk.i64_in _ (by omega)]

theorem next_ok {h : Heap} {c N : Nat} (hc : Cur h c N) (hN : N < 2 ^ 62) : ∃ v h', call p 140 [.ptr c 0] h = some (v, h') ∧ ∃ x : Nat, v = vi x ∧ x ≤ 255 ∧ Cur h' c (N + 1) ∧ KeepsBut c h h' ∧ h'.length = h.length := by
  obtain ⟨v, bs, n, sd, h1, h2, h3, h4⟩ := hc
  refine go (fn := g140) rfl rfl fun R hR => ?_
  have hlt := get_lt h1
  have hw : IntKind.i64.wrap ((n : Int) + 1) = (n + 1 : Nat) := by rw [IntWalk.i64_in] <;> omega
  by_cases hn : n < bs.length
  · have hb0 := bs[n].lt
    have hw2 : IntKind.i64.wrap (bs[n].n : Int) = bs[n].n := IntWalk.i64_in _ (by omega)
    have hle : ((n : Int) + 1) ≤ bs.length := by omega
    simp [g140, rdH_at h1, wrH_at h1, rdH_set hlt, wrH_set hlt, h2.len, h2.idx, hn, h2.loadB, hw, hw2, hle]
    exact hR _ _ ⟨bs[n].n, rfl, by omega, Cur.set h1 h2 h3 h4 rfl, KeepsBut.set _ _ _, by simp⟩
  · have hle : ¬ ((n : Int) + 1) ≤ bs.length := by omega
    simp [g140, rdH_at h1, wrH_at h1, rdH_set hlt, wrH_set hlt, h2.len, hn, hw, hle, -Int.natCast_emod]
    obtain ⟨x, hx1, hx2⟩ := mod_byte (((IntKind.u64.wrap (IntKind.u64.wrap (IntKind.u64.wrap (sd * 6364136223846793005) + IntKind.u64.wrap 0) + 1442695040888963407)).fdiv (2 ^ min 40 IntKind.u64.bits) % 2 ^ IntKind.u64.bits).toNat)
    exact hR _ _ ⟨x, by rw [hx2], hx1, Cur.set h1 h2 h3 h4 rfl, KeepsBut.set _ _ _, by simp⟩

theorem pick_ok {h : Heap} {c N n : Nat} (hc : Cur h c N) (hN : N < 2 ^ 61) (hn : n < 2 ^ 40) :
    ∃ v h', call p 91 [.ptr c 0, vi n] h = some (v, h') ∧ ∃ x : Nat, v = vi x ∧ x < max n 1 ∧ Cur h' c (N + 2) ∧ KeepsBut c h h' ∧ h'.length = h.length := by
  refine go (fn := g91) rfl rfl fun R hR => ?_
  by_cases h1 : n ≤ 1
  · have h1' : (n : Int) ≤ 1 := by omega
    simp [g91, h1']
    exact hR _ _ ⟨0, rfl, by omega, hc.mono (by omega), KeepsBut.refl _ _, rfl⟩
  · have h1' : ¬ (n : Int) ≤ 1 := by omega
    obtain ⟨_, h2, e1, x, rfl, hx, c1, k1, l1⟩ := next_ok hc (by omega)
    have h0 : ¬ n = 0 := by omega
    by_cases h2 : 200 < n
    · have h2' : (200 : Int) < n := by omega
      obtain ⟨_, h3, e2, y, rfl, hy, c2, k2, l2⟩ := next_ok c1 (by omega)
      have w1 : IntKind.i64.wrap ((x : Int) * 256) = (x * 256 : Nat) := by rw [IntWalk.i64_in] <;> omega
      have w2 : IntKind.i64.wrap (((x * 256 : Nat) : Int) + y) = (x * 256 + y : Nat) := by rw [IntWalk.i64_in] <;> omega
      have w3 : (((x * 256 + y : Nat) : Int)).tmod n = ((x * 256 + y) % n : Nat) := by rw [Int.tmod_eq_emod_of_nonneg (by omega)]; rfl
      simp [g91, h1', e1, h2', e2, w1, w2, h0, w3, -Int.natCast_mul, -Int.natCast_add, -Int.natCast_emod]
      exact hR _ _ ⟨(x * 256 + y) % n, rfl, by have := Nat.mod_lt (x * 256 + y) (show n > 0 by omega); omega, c2, k1.trans k2, by omega⟩
    · have h2' : ¬ (200 : Int) < n := by omega
      have w3 : ((x : Int)).tmod n = (x % n : Nat) := by rw [Int.tmod_eq_emod_of_nonneg (by omega)]; rfl
      simp [g91, h1', e1, h2', h0, w3, -Int.natCast_emod]
      exact hR _ _ ⟨x % n, rfl, by have := Nat.mod_lt x (show n > 0 by omega); omega, c1.mono (by omega), k1, by omega⟩

theorem one_ok {h : Heap} {c N n : Nat} (hc : Cur h c N) (hN : N < 2 ^ 61) (hn : n < 2 ^ 40) :
    ∃ v h', call p 92 [.ptr c 0, vi n] h = some (v, h') ∧ ∃ b : Bool, v = .bool b ∧ Cur h' c (N + 2) ∧ KeepsBut c h h' ∧ h'.length = h.length := by
  obtain ⟨_, h2, e1, x, rfl, hx, c1, k1, l1⟩ := pick_ok hc hN hn
  refine go (fn := g92) rfl rfl fun R hR => ?_
  simp [g92, e1]
  exact hR _ _ ⟨_, rfl, c1, k1, l1⟩

theorem among_ok {h : Heap} {c N : Nat} {v : V} {xs : List Int} (hc : Cur h c N) (hN : N < 2 ^ 61) (hs : Sl h v xs) (hb : bOf v ≠ c) (h0 : 0 < xs.length) (hn : xs.length < 2 ^ 40) :
    ∃ r h', call p 93 [.ptr c 0, v] h = some (r, h') ∧ ∃ x ∈ xs, r = vi x ∧ Cur h' c (N + 2) ∧ KeepsBut c h h' ∧ h'.length = h.length := by
  obtain ⟨_, h2, e1, i, rfl, hi, c1, k1, l1⟩ := pick_ok hc hN hn
  have hs2 := hs.but (.inr hb) k1
  have hi' : i < xs.length := by omega
  refine go (fn := g93) rfl rfl fun R hR => ?_
  simp [g93, hs.len, e1, hs2.idx, hi', hs2.loadI]
  exact hR _ _ ⟨xs[i], by simp, rfl, c1, k1, l1⟩
end GL

namespace GL
open Go

theorem drawTwo {h : Heap} {v : V} {bs : List Byte} (hs : Sl h v bs) : Cur (h ++ [⟨.own, [v, vi 0, .int .u64 0]⟩]) h.length 0 := by
  refine ⟨v, bs, 0, 0, by simp, hs.keeps (Keeps.append h _), ?_, Nat.le_refl _⟩
  rcases hs.2 with ⟨_, h1⟩ | ⟨b, off, cap, rfl, h1 | ⟨blk, h1, _⟩⟩
  · exact .inl h1
  · exact .inl h1
  · exact .inr (get_lt h1)

end GL

namespace GL
open Go

end GL

namespace GL
open Go

theorem KeepsBut.out {c lo : Nat} {h h' : Heap} {α : Type} [Flat α] {v : V} {xs : List α} (hk : KeepsBut c h h') (ho : Out lo h v xs) (hc : c < lo) (hl : h.length ≤ h'.length) : Out lo h' v xs :=
  ho.keeps (P := fun i => i ≠ c) (fun b blk hb h1 h2 => hk b blk hb h1 h2) (fun i hi => by have := (ho.ge hi).1; omega) hl

theorem Keeps.out {lo : Nat} {h h' : Heap} {α : Type} [Flat α] {v : V} {xs : List α} (hk : Keeps h h') (ho : Out lo h v xs) (hl : h.length ≤ h'.length) : Out lo h' v xs :=
  ho.keeps (P := fun _ => True) (fun b blk _ h1 h2 => hk b blk h1 h2) (fun _ _ => trivial) hl

/-- nothing that stood at first is touched -/
theorem Keeps.far {n : Nat} {h0 h h' : Heap} {P : Nat → Prop} (h1 : Keeps h0 h) (hk : KeepsP P h h') (hn : h0.length ≤ n) (hp : ∀ i, i < n → P i) : Keeps h0 h' := fun i blk hi hl =>
  hk i blk (hp i (by have := get_lt hi; omega)) (h1 i blk hi hl) hl
theorem KeepsBut.P {c : Nat} {h h' : Heap} (hk : KeepsBut c h h') : KeepsP (fun i => i ≠ c) h h' := fun b blk hb h1 h2 => hk b blk hb h1 h2

theorem Sl.lit {h : Heap} {α : Type} [Flat α] (l : List α) (n : Nat) (hn : n = l.length) (cs : List V) (hc : cs = flats l) (cap : Cap) (hb : l.length < 2 ^ 63) : Sl (h ++ [⟨.own, cs⟩]) (.slice h.length 0 n cap) l := by
  subst hn; subst hc
  exact Sl.whole _ (get_last _ _) (by simp) rfl hb

def DI (h0 : Heap) (k : Nat) (s : S) : Prop :=
  k ≤ 30 ∧ s.σ 5 = .v (vi k) ∧ s.σ 3 = .v (.ptr h0.length 0) ∧ ∃ v xs, s.σ 4 = .v v ∧ Out (h0.length + 1) s.h v (xs : List Int) ∧ xs.length ≤ 30 - k ∧ Cur s.h h0.length (1000 - 2 * k) ∧ Keeps h0 s.h

theorem DI.start {h0 h : Heap} {σ : Nat → T} {L : Nat → Nat × List V} {wt : Nat → Option (ROp × List T × V)} {fl : Nat → Bool} {b N n : Nat} (hn : n ≤ 30) (h5 : σ 5 = .v (vi n)) (h3 : σ 3 = .v (.ptr h0.length 0)) (h4 : σ 4 = .v .nils)
    (hc : Cur h h0.length N) (hN : N ≤ 900) (hk : Keeps h0 h) : DI h0 n ⟨σ, L, h, wt, fl, b⟩ :=
  ⟨hn, h5, h3, .nils, [], h4, Out.nil (by have := hc.lt; show h0.length + 1 ≤ h.length; omega), by simp, hc.mono (by omega), hk⟩

end GL

namespace GL
open Go

end GL

/-! values -/
namespace GL
open Go

structure Val where
  null : Bool
  n : Int
instance : Flat Val := ⟨2, fun x => [.bool x.null, vi x.n], fun _ => rfl, fun _ => rfl, by decide⟩
end GL

namespace GL
open Go

theorem KeepsBut.lit {c : Nat} {h : Heap} (l : Heap) : KeepsBut c h (h ++ l) := (Keeps.append h l).but c

end GL

namespace GL
open Go

theorem Out.one {lo : Nat} {h : Heap} {v : V} {xs : List Int} (ho : Out lo h v xs) (x : Int) (hx : xs.length ≤ 2 ^ 20) :
    ∃ v' h', appH 1 8 v 1 [vi x] (h ++ [⟨.own, [vi x]⟩]) = some (v', h') ∧ Out lo h' v' (xs ++ [x]) ∧ KeepsP (fun i => ¬ vB v i) h h' ∧ h.length < h'.length := by
  have o3 : Out lo (h ++ [⟨.own, [vi x]⟩]) v xs := (Keeps.append h _).out ho (by simp)
  obtain ⟨v', h', e4, o4, k4, l4, b4⟩ := o3.app [x] (by simp) (bytes := 8) (by decide) (by simp; omega) (k := 1) rfl (n := 1) rfl (ys := [vi x]) rfl
  exact ⟨v', h', e4, o4, fun i blk hi h1 h2 => k4 i blk hi (Keeps.append h _ i blk h1 h2) h2, by simp at l4; omega⟩

theorem Out.far {lo : Nat} {h0 h h' : Heap} {α : Type} [Flat α] {v : V} {xs : List α} (ho : Out lo h v xs) (hk : Keeps h0 h) (hp : KeepsP (fun i => ¬ vB v i) h h') (hl : h0.length ≤ lo) : Keeps h0 h' :=
  Keeps.far hk hp hl fun i hi hv => by have := (ho.ge hv).1; omega

end GL

namespace GL
open Go

theorem sameInts_eq {h : Heap} {v w : V} {xs ys : List Int} (hs : Sl h v xs) (ht : Sl h w ys) : call p 24 [v, w] h = some (.bool (decide (xs = ys)), h) := by
  refine go_eq (fn := g24) rfl rfl fun R hR => ?_
  by_cases hl : xs.length = ys.length
  · simp [g24, hs.len, ht.len, hl]
    refine Wc_upJ xs.length (fun i s => s.σ 0 = .v v ∧ s.σ 1 = .v w ∧ s.σ 12 = .v (vi xs.length) ∧ s.σ 13 = .v (vi i) ∧ s.h = h ∧ xs.take i = ys.take i) 0 (by simp [hl]) fun i s ⟨g0, g1, g12, g13, gh, hall⟩ J hJ => ?_
    by_cases hn : i < xs.length
    · have hn' : i < ys.length := by omega
      by_cases he : xs[i] = ys[i]
      · have : xs.take (i + 1) = ys.take (i + 1) := by
          rw [List.take_succ_eq_append_getElem hn, List.take_succ_eq_append_getElem hn', hall, he]
        simp [g24_0, g0, g1, g12, g13, gh, hn, hn', hs.idx, hs.loadI, ht.idx, ht.loadI, he, hs.step hn]
        exact hJ _ hn ⟨by simp [g0], by simp [g1], by simp [g12], by simp, rfl, this⟩
      · have hne : ¬ xs = ys := fun e => he (by subst e; rfl)
        simp [g24_0, g0, g1, g12, g13, gh, hn, hn', hs.idx, hs.loadI, ht.idx, ht.loadI, he]
        simpa [hne] using hR
    · have : xs = ys := by
        rw [List.take_of_length_le (by omega), List.take_of_length_le (by omega)] at hall; exact hall
      simp [g24_0, g12, g13, gh, hn]
      simpa [this] using hR
  · have hne : ¬ xs = ys := fun e => hl (by rw [e])
    have hl' : ¬ (xs.length : Int) = ys.length := by omega
    simp only [hne, decide_false] at hR
    simp [g24, hs.len, ht.len]
    rw [if_neg hl']
    exact hR
end GL

namespace GL
open Go

end GL

namespace GL
open Go

end GL

namespace GL
open Go

end GL

/-! sums -/
namespace GL
open Go

end GL

/-! GL: what code does not touch. -/
namespace GL
open Go

def xmods : List AOper → List Nat
  | [] => []
  | o :: r => (match o.dst with | some t => [t] | none => []) ++ xmods r

/-- the slots that code may set -/
def mods : Code → List Nat
  | .reg _ ops => xmods ops
  | .seq a b => mods a ++ mods b
  | .cond _ a b => mods a ++ mods b
  | .block _ c => mods c
  | .loop c => mods c
  | _ => []

theorem put_mods (s : S) (d : Option Nat) (x : T) {k : Nat} (hk : k ∉ (match d with | some t => [t] | none => [])) : (s.put d x).σ k = s.σ k := by
  cases d with
  | none => rfl
  | some t =>
    have : k ≠ t := by simpa using hk
    simp [S.put, upd, this]

theorem xop_mods {c : CallF} {o : AOper} {s s' : S} (h : xop c o s = some s') {k : Nat} (hk : k ∉ (match o.dst with | some t => [t] | none => [])) : s'.σ k = s.σ k := by
  unfold xop at h
  obtain ⟨b, _, h⟩ := Option.bind_eq_some_iff.1 h
  split at h
  · unfold aop at h
    split at h
    · obtain ⟨x, _, h⟩ := Option.bind_eq_some_iff.1 h
      cases h; exact put_mods _ _ _ hk
    · obtain ⟨r, _, h⟩ := Option.bind_eq_some_iff.1 h
      cases h; exact put_mods { s with L := r.2 } _ _ hk
    · obtain ⟨r, _, h⟩ := Option.bind_eq_some_iff.1 h
      split at h
      · split at h
        · cases h; exact put_mods { s with wt := _ } _ _ hk
        · cases h
      · cases h; exact put_mods _ _ _ hk
    · obtain ⟨r, _, h⟩ := Option.bind_eq_some_iff.1 h
      split at h
      · cases h; exact put_mods { s with h := _ } _ _ hk
      · cases h
    · obtain ⟨r, _, h⟩ := Option.bind_eq_some_iff.1 h
      split at h
      · cases h; exact put_mods { s with h := _, fl := _ } _ _ hk
      · cases h
  · cases h; exact put_mods _ _ _ hk

theorem xops_mods {c : CallF} : ∀ {l : List AOper} {s s' : S}, xops c l s = some s' → ∀ {k : Nat}, k ∉ xmods l → s'.σ k = s.σ k
  | [], s, s', h, k, _ => by simp [xops] at h; rw [h]
  | o :: r, s, s', h, k, hk => by
    simp only [xops] at h
    obtain ⟨s1, h1, h⟩ := Option.bind_eq_some_iff.1 h
    rw [xops_mods h fun hm => hk (List.mem_append_right _ hm), xop_mods h1 fun hm => hk (List.mem_append_left _ hm)]

theorem den_mods {p : Prog} : ∀ {c : Code} {s : S} {e : Ex} {s' : S}, den p c s = some (e, s') → ∀ {k : Nat}, k ∉ mods c → s'.σ k = s.σ k := by
  intro c
  induction c with
  | skip => intro s e s' h k _; simp [den] at h; rw [h.2]
  | exit i => intro s e s' h k _; simp [den] at h; rw [h.2]
  | ret => intro s e s' h k _; simp [den] at h; rw [h.2]
  | bad => intro s e s' h k _; simp [den] at h
  | reg n l =>
    intro s e s' h k hk
    simp only [den] at h
    obtain ⟨s1, h1, h⟩ := Option.bind_eq_some_iff.1 h
    cases h
    exact (xops_mods h1 hk).trans rfl
  | seq a b iha ihb =>
    intro s e s' h k hk
    simp only [den] at h
    obtain ⟨⟨e1, s1⟩, h1, h⟩ := Option.bind_eq_some_iff.1 h
    have ha := iha h1 (k := k) fun hm => hk (List.mem_append_left _ hm)
    cases e1 with
    | norm => rw [ihb h fun hm => hk (List.mem_append_right _ hm), ha]
    | exit i => cases h; exact ha
    | ret => cases h; exact ha
  | cond c a b iha ihb =>
    intro s e s' h k hk
    simp only [den] at h
    split at h
    · exact iha h fun hm => hk (List.mem_append_left _ hm)
    · exact ihb h fun hm => hk (List.mem_append_right _ hm)
    · cases h
  | block i c ih =>
    intro s e s' h k hk
    simp only [den] at h
    obtain ⟨⟨e1, s1⟩, h1, h⟩ := Option.bind_eq_some_iff.1 h
    have ha := ih h1 (k := k) hk
    cases e1 with
    | norm => cases h; exact ha
    | ret => cases h; exact ha
    | exit j =>
      simp only at h
      split at h <;> (cases h; exact ha)
  | loop c ih =>
    intro s e s' h k hk
    obtain ⟨n, h0⟩ := den_loop.1 h
    clear h
    revert h0
    induction n generalizing s with
    | zero => intro h; simp [loopN] at h
    | succ n ihn =>
      intro h
      simp only [loopN] at h
      obtain ⟨⟨e1, s1⟩, h1, h⟩ := Option.bind_eq_some_iff.1 h
      have ha := ih h1 (k := k) hk
      cases e1 with
      | norm => exact (ihn h).trans ha
      | exit i => cases h; exact ha
      | ret => cases h; exact ha

/-- a loop that counts up to n, with what it leaves alone -/
theorem Wc_upM {p : Prog} {c : Code} {s0 : S} {Q : Ex → S → Prop} {M : List Nat} (hm : ((mods c).all fun k => M.contains k) = true) (n : Nat) (I : Nat → S → Prop) (i : Nat) (h0 : I i s0)
    (hb : ∀ i s, I i s → (∀ k, k ∉ M → s.σ k = s0.σ k) → ∀ J : S → Prop, (∀ s', i < n → I (i + 1) s' → J s') → Wc p c s (stepK J Q)) : Wc p (.loop c) s0 Q := by
  have hm' : ∀ k, k ∉ M → k ∉ mods c := fun k hk hc => hk (by simpa using List.all_eq_true.1 hm k hc)
  refine Wc_up n (fun i s => I i s ∧ ∀ k, k ∉ M → s.σ k = s0.σ k) i ⟨h0, fun _ _ => rfl⟩ fun i s ⟨hI, hM⟩ => ?_
  obtain ⟨⟨e, s'⟩, h1, hq⟩ := hb i s hI hM (fun s' => i < n ∧ I (i + 1) s') fun s' h1 h2 => ⟨h1, h2⟩
  refine ⟨(e, s'), h1, ?_⟩
  cases e with
  | norm => exact ⟨hq.1, hq.2, fun k hk => (den_mods h1 (hm' k hk)).trans (hM k hk)⟩
  | exit x => exact hq
  | ret => exact hq

/-- a loop that goes down, with what it leaves alone -/
theorem Wc_dnM {p : Prog} {c : Code} {s0 : S} {Q : Ex → S → Prop} {M : List Nat} (hm : ((mods c).all fun k => M.contains k) = true) (I : Nat → S → Prop) (k0 : Nat) (h0 : I k0 s0)
    (hb : ∀ k s, I k s → (∀ k, k ∉ M → s.σ k = s0.σ k) → ∀ J : S → Prop, (∀ j s', j < k → I j s' → J s') → Wc p c s (stepK J Q)) : Wc p (.loop c) s0 Q := by
  have hm' : ∀ k, k ∉ M → k ∉ mods c := fun k hk hc => hk (by simpa using List.all_eq_true.1 hm k hc)
  refine Wc_loop (fun i s => I i s ∧ ∀ k, k ∉ M → s.σ k = s0.σ k) k0 ⟨h0, fun _ _ => rfl⟩ fun i s ⟨hI, hM⟩ => ?_
  obtain ⟨⟨e, s'⟩, h1, hq⟩ := hb i s hI hM (fun s' => ∃ j, j < i ∧ I j s') fun j s' h1 h2 => ⟨j, h1, h2⟩
  refine ⟨(e, s'), h1, ?_⟩
  cases e with
  | norm => exact let ⟨j, h2, h3⟩ := hq; ⟨j, h2, h3, fun k hk => (den_mods h1 (hm' k hk)).trans (hM k hk)⟩
  | exit x => exact hq
  | ret => exact hq
end GL

namespace GL
open Go

end GL

namespace GL
open Go

end GL

/-! GL: data with slices inside. -/
namespace GL
open Go

/-- data in memory: its cells, and the blocks that it lies in -/
class Data (α : Type) where
  sz : Nat
  pos : 0 < sz
  rep : Heap → α → List V → List Nat → Prop
  len : ∀ {h a cs F}, rep h a cs F → cs.length = sz
  ok : ∀ {h a cs F}, rep h a cs F → allCell cs = true
  keeps : ∀ {h h' a cs F}, rep h a cs F → KeepsP (fun b => b ∈ F) h h' → rep h' a cs F
  lt : ∀ {h a cs F b}, rep h a cs F → b ∈ F → ∃ blk, h[b]? = some blk ∧ blk.st ≠ .dead

theorem KeepsP.mono {P Q : Nat → Prop} {h h' : Heap} (hk : KeepsP P h h') (hq : ∀ b, Q b → P b) : KeepsP Q h h' := fun b blk hb => hk b blk (hq b hb)
theorem KeepsP.trans {P : Nat → Prop} {a b c : Heap} (h1 : KeepsP P a b) (h2 : KeepsP P b c) : KeepsP P a c := fun i blk hp h hl => h2 i blk hp (h1 i blk hp h hl) hl
theorem KeepsP.refl (P : Nat → Prop) (h : Heap) : KeepsP P h h := fun _ _ _ h _ => h
theorem Keeps.p {h h' : Heap} (hk : Keeps h h') (P : Nat → Prop) : KeepsP P h h' := fun b blk _ hb hl => hk b blk hb hl

instance flatData {α : Type} [Flat α] : Data α where
  sz := Flat.sz α
  pos := Flat.pos
  rep := fun _ a cs F => cs = Flat.cells a ∧ F = []
  len := by rintro h a cs F ⟨rfl, _⟩; exact Flat.len a
  ok := by rintro h a cs F ⟨rfl, _⟩; exact Flat.ok a
  keeps := fun h _ => h
  lt := by rintro h a cs F b ⟨_, rfl⟩ hb; cases hb

section
variable {α : Type} [Data α]

def Reps (h : Heap) : List α → List V → List Nat → Prop
  | [], cs, F => cs = [] ∧ F = []
  | x :: xs, cs, F => ∃ c r F1 F2, cs = c ++ r ∧ F = F1 ++ F2 ∧ Data.rep h x c F1 ∧ Reps h xs r F2

theorem Reps.nil {h : Heap} : Reps h ([] : List α) [] [] := ⟨rfl, rfl⟩
theorem Reps.one {h : Heap} {x : α} {c : List V} {F : List Nat} (hr : Data.rep h x c F) : Reps h [x] c F := ⟨c, [], F, [], by simp, by simp, hr, .nil⟩
theorem Reps.len {h : Heap} : ∀ {xs : List α} {cs : List V} {F : List Nat}, Reps h xs cs F → cs.length = xs.length * Data.sz α
  | [], cs, F, hr => by simp [hr.1]
  | x :: xs, cs, F, ⟨c, r, F1, F2, e, _, h1, h2⟩ => by
    subst e
    rw [List.length_append, Data.len h1, Reps.len h2, List.length_cons, Nat.add_mul]; omega
theorem Reps.ok {h : Heap} : ∀ {xs : List α} {cs : List V} {F : List Nat}, Reps h xs cs F → allCell cs = true
  | [], cs, F, hr => by rw [hr.1]; rfl
  | x :: xs, cs, F, ⟨c, r, F1, F2, e, _, h1, h2⟩ => by
    subst e
    have a := Data.ok h1
    have b := Reps.ok h2
    simp only [allCell, List.all_append, Bool.and_eq_true] at a b ⊢
    exact ⟨a, b⟩
theorem Reps.keeps {h h' : Heap} : ∀ {xs : List α} {cs : List V} {F : List Nat}, Reps h xs cs F → KeepsP (fun b => b ∈ F) h h' → Reps h' xs cs F
  | [], cs, F, hr, _ => hr
  | x :: xs, cs, F, ⟨c, r, F1, F2, e, f, h1, h2⟩, hk => by
    subst f
    exact ⟨c, r, F1, F2, e, rfl, Data.keeps h1 (hk.mono fun b hb => List.mem_append_left _ hb), Reps.keeps h2 (hk.mono fun b hb => List.mem_append_right _ hb)⟩
theorem Reps.lt {h : Heap} : ∀ {xs : List α} {cs : List V} {F : List Nat} {b : Nat}, Reps h xs cs F → b ∈ F → ∃ blk, h[b]? = some blk ∧ blk.st ≠ .dead
  | [], cs, F, b, hr, hb => by rw [hr.2] at hb; cases hb
  | x :: xs, cs, F, b, ⟨c, r, F1, F2, e, f, h1, h2⟩, hb => by
    subst f
    rcases List.mem_append.1 hb with hb | hb
    · exact Data.lt h1 hb
    · exact Reps.lt h2 hb
theorem Reps.append {h : Heap} : ∀ {xs ys : List α} {cs ds : List V} {F G : List Nat}, Reps h xs cs F → Reps h ys ds G → Reps h (xs ++ ys) (cs ++ ds) (F ++ G)
  | [], ys, cs, ds, F, G, hr, hs => by rw [hr.1, hr.2]; exact hs
  | x :: xs, ys, cs, ds, F, G, ⟨c, r, F1, F2, e, f, h1, h2⟩, hs => ⟨c, r ++ ds, F1, F2 ++ G, by simp [e], by simp [f], h1, Reps.append h2 hs⟩
theorem Reps.split {h : Heap} : ∀ {xs ys : List α} {cs : List V} {F : List Nat}, Reps h (xs ++ ys) cs F → ∃ c1 c2 F1 F2, cs = c1 ++ c2 ∧ F = F1 ++ F2 ∧ Reps h xs c1 F1 ∧ Reps h ys c2 F2
  | [], ys, cs, F, hr => ⟨[], cs, [], F, rfl, rfl, .nil, hr⟩
  | x :: xs, ys, cs, F, ⟨c, r, F1, F2, e, f, h1, h2⟩ => by
    obtain ⟨c1, c2, G1, G2, e2, f2, h3, h4⟩ := Reps.split (xs := xs) h2
    exact ⟨c ++ c1, c2, F1 ++ G1, G2, by simp [e, e2], by simp [f, f2], ⟨c, c1, F1, G1, rfl, rfl, h1, h3⟩, h4⟩
theorem Reps.cut2 {h : Heap} {xs : List α} {cs : List V} {F : List Nat} (hr : Reps h xs cs F) (i : Nat) (hi : i ≤ xs.length) :
    ∃ F1 F2, F = F1 ++ F2 ∧ Reps h (xs.take i) (cs.take (i * Data.sz α)) F1 ∧ Reps h (xs.drop i) (cs.drop (i * Data.sz α)) F2 := by
  rw [← List.take_append_drop i xs] at hr
  obtain ⟨c1, c2, F1, F2, e, f, h1, h2⟩ := hr.split
  have hl := h1.len
  have ht : (xs.take i).length = i := by simp; omega
  rw [ht] at hl
  subst e
  refine ⟨F1, F2, f, ?_, ?_⟩
  · rw [← hl, List.take_left']; exact h1; rfl
  · rw [← hl, List.drop_left']; exact h2; rfl
theorem Reps.get {h : Heap} {xs : List α} {cs : List V} {F : List Nat} (hr : Reps h xs cs F) (i : Nat) (hi : i < xs.length) :
    ∃ F1 F2 F3, F = F1 ++ F2 ++ F3 ∧ Data.rep h xs[i] ((cs.drop (i * Data.sz α)).take (Data.sz α)) F2 ∧ Reps h (xs.take i) (cs.take (i * Data.sz α)) F1 ∧ Reps h (xs.drop (i + 1)) (cs.drop ((i + 1) * Data.sz α)) F3 := by
  obtain ⟨F1, F2, f, h1, h2⟩ := hr.cut2 i (by omega)
  rw [List.drop_eq_getElem_cons hi] at h2
  obtain ⟨c, r, G1, G2, e, g, h3, h4⟩ := h2
  have hl := Data.len h3
  refine ⟨F1, G1, G2, by simp [f, g], ?_, h1, ?_⟩
  · rw [e, ← hl, List.take_left']; exact h3; rfl
  · have : cs.drop ((i + 1) * Data.sz α) = (cs.drop (i * Data.sz α)).drop (Data.sz α) := by rw [List.drop_drop, Nat.add_mul, Nat.one_mul]
    rw [this, e, ← hl, List.drop_left']; exact h4; rfl

/-- a capacity that may be: at least the length, or unknown -/
def capW (k n : Nat) : Cap → Prop
  | .k c => n ≤ c
  | .o k' => k' = k
def capOK (k : Nat) : V → Prop
  | .slice _ _ n cap => capW k n cap
  | _ => True

/-- a slice that holds these, and the blocks that it all lies in -/
def SdF (h : Heap) (v : V) (xs : List α) (F : List Nat) : Prop :=
  xs.length < 2 ^ 63 ∧ ((v = .nils ∧ xs = [] ∧ F = []) ∨ ∃ b off cap, v = .slice b off xs.length cap ∧ capW (Data.sz α) xs.length cap ∧ ((xs = [] ∧ F = []) ∨ ∃ blk cs G, F = b :: G ∧ h[b]? = some blk ∧ blk.st ≠ .dead ∧ cut blk.cells off (xs.length * Data.sz α) = some cs ∧ Reps h xs cs G))

variable {h h' : Heap} {v : V} {xs : List α} {F : List Nat}
theorem SdF.len (hs : SdF h v xs F) : lenV v = some xs.length := by
  rcases hs with ⟨_, ⟨rfl, rfl, _⟩ | ⟨b, off, cap, rfl, _⟩⟩ <;> rfl
theorem SdF.cells (hs : SdF h v xs F) : v.cells = [v] := by
  rcases hs with ⟨_, ⟨rfl, rfl, _⟩ | ⟨b, off, cap, rfl, _⟩⟩ <;> rfl
theorem SdF.cell (hs : SdF h v xs F) : v.cell = true := by
  rcases hs with ⟨_, ⟨rfl, rfl, _⟩ | ⟨b, off, cap, rfl, _⟩⟩ <;> rfl
theorem SdF.bd (hs : SdF h v xs F) : xs.length < 2 ^ 63 := hs.1
theorem SdF.step (hs : SdF h v xs F) {i : Nat} (hi : i < xs.length) : IntKind.i64.wrap ((i : Int) + 1) = i + 1 := by
  have := hs.1
  exact IntWalk.i64_in _ (by omega)
theorem SdF.cap (hs : SdF h v xs F) : capOK (Data.sz α) v := by
  rcases hs with ⟨_, ⟨rfl, _, _⟩ | ⟨b, off, cap, rfl, hc, _⟩⟩
  · trivial
  · exact hc
theorem SdF.nil : SdF h .nils ([] : List α) [] := ⟨by simp, .inl ⟨rfl, rfl, rfl⟩⟩
theorem SdF.idx (hs : SdF h v xs F) (k : Nat) (kd : IntKind) (i : Nat) (hi : i < xs.length) : idxV k v (.int kd i) = some (.ptr (bOf v) (oOf v + i * k)) := by
  rcases hs with ⟨_, ⟨rfl, rfl, _⟩ | ⟨b, off, cap, rfl, _⟩⟩
  · simp at hi
  · simp [idxV, hi, bOf, oOf]
theorem SdF.keeps (hs : SdF h v xs F) (hk : KeepsP (fun b => b ∈ F) h h') : SdF h' v xs F := by
  refine ⟨hs.1, ?_⟩
  rcases hs.2 with hs | ⟨b, off, cap, hv, hc, hs⟩
  · exact .inl hs
  · refine .inr ⟨b, off, cap, hv, hc, ?_⟩
    rcases hs with hs | ⟨blk, cs, G, f, h1, h2, h3, h4⟩
    · exact .inl hs
    · subst f
      exact .inr ⟨blk, cs, G, rfl, hk _ _ (List.mem_cons_self ..) h1 h2, h2, h3, h4.keeps (hk.mono fun b hb => List.mem_cons_of_mem _ hb)⟩
theorem SdF.keep (hs : SdF h v xs F) (hk : Keeps h h') : SdF h' v xs F := hs.keeps (hk.p _)
theorem SdF.lt (hs : SdF h v xs F) {i : Nat} (hi : i ∈ F) : ∃ blk, h[i]? = some blk ∧ blk.st ≠ .dead := by
  rcases hs.2 with ⟨_, _, hs⟩ | ⟨b, off, cap, hv, _, hs⟩
  · rw [hs] at hi; cases hi
  · rcases hs with ⟨_, hs⟩ | ⟨blk, cs, G, f, h1, h2, h3, h4⟩
    · rw [hs] at hi; cases hi
    · subst f
      rcases List.mem_cons.1 hi with rfl | hi
      · exact ⟨blk, h1, h2⟩
      · exact h4.lt hi
/-- an element, where it lies -/
theorem SdF.load (hs : SdF h v xs F) (i : Nat) (hi : i < xs.length) : ∃ cs F1 F2 F3, rdH h (bOf v) (oOf v + i * Data.sz α) (Data.sz α) = some cs ∧ Data.rep h xs[i] cs F2 ∧ F = bOf v :: (F1 ++ F2 ++ F3) := by
  rcases hs with ⟨_, ⟨rfl, rfl, _⟩ | ⟨b, off, cap, rfl, _, hs⟩⟩
  · simp at hi
  · rcases hs with ⟨rfl, _⟩ | ⟨blk, cs, G, f, h1, h2, h3, h4⟩
    · simp at hi
    · obtain ⟨F1, F2, F3, g, h5, _, _⟩ := h4.get i hi
      refine ⟨_, F1, F2, F3, ?_, h5, by rw [f, g]; rfl⟩
      simp only [bOf, oOf, rdH, h1, h2, if_false]
      unfold cut at h3 ⊢
      split at h3
      case isFalse => cases h3
      rename_i hle
      have hb : (i + 1) * Data.sz α ≤ xs.length * Data.sz α := Nat.mul_le_mul_right _ hi
      rw [Nat.add_mul] at hb
      rw [if_pos (by omega)]
      simp only [Option.some.injEq] at h3 ⊢
      rw [← h3, List.drop_take, List.take_take, List.drop_drop]
      congr 1
      omega
theorem rdH_sub {h : Heap} {b off n : Nat} {cs : List V} (e : rdH h b off n = some cs) (o k : Nat) (hk : o + k ≤ n) : rdH h b (off + o) k = some ((cs.drop o).take k) := by
  unfold rdH at e ⊢
  split at e
  · rename_i blk hb
    split at e
    · cases e
    · rename_i hl
      simp only [hl, if_false]
      unfold cut at e ⊢
      split at e
      · rw [if_pos (by omega)]
        simp only [Option.some.injEq] at e ⊢
        rw [← e, List.drop_take, List.take_take, List.drop_drop]
        congr 1
        omega
      · cases e
  · cases e
/-- the first ones, all at once -/
theorem SdF.rdS (hs : SdF h v xs F) : ∃ cs G, GL.rdS h (Data.sz α) v xs.length = some cs ∧ Reps h xs cs G ∧ ∀ b ∈ G, b ∈ F := by
  rcases hs with ⟨_, ⟨rfl, rfl, _⟩ | ⟨b, off, cap, rfl, _, hs⟩⟩
  · exact ⟨[], [], by simp [GL.rdS], .nil, by simp⟩
  · rcases hs with ⟨rfl, _⟩ | ⟨blk, cs, G, f, h1, h2, h3, h4⟩
    · exact ⟨[], [], by simp [GL.rdS], .nil, by simp⟩
    · refine ⟨cs, G, ?_, h4, fun b hb => by rw [f]; exact List.mem_cons_of_mem _ hb⟩
      simp only [GL.rdS, Nat.le_refl, if_true]
      split
      · rename_i h0
        have := h4.len
        rw [h0] at this
        rw [List.length_eq_zero_iff.1 this]
      · simp only [rdH, h1, h2, if_false, h3]
end

section
variable {α : Type} [Flat α] {h : Heap} {v : V} {xs : List α} {F : List Nat}
theorem Reps.flat : ∀ {xs : List α} {cs : List V} {F : List Nat}, Reps h xs cs F ↔ cs = flats xs ∧ F = []
  | [], cs, F => by simp [Reps, flats]
  | x :: xs, cs, F => by
    constructor
    · rintro ⟨c, r, F1, F2, rfl, rfl, ⟨rfl, rfl⟩, h2⟩
      obtain ⟨rfl, rfl⟩ := Reps.flat.1 h2
      exact ⟨by simp [flats], rfl⟩
    · rintro ⟨rfl, rfl⟩
      exact ⟨Flat.cells x, flats xs, [], [], by simp [flats], rfl, ⟨rfl, rfl⟩, Reps.flat.2 ⟨rfl, rfl⟩⟩
theorem SdF.sl (hs : SdF h v xs F) : Sl h v xs := by
  refine ⟨hs.1, ?_⟩
  rcases hs.2 with hs | ⟨b, off, cap, hv, _, hs⟩
  · exact .inl ⟨hs.1, hs.2.1⟩
  · refine .inr ⟨b, off, cap, hv, ?_⟩
    rcases hs with ⟨hs, _⟩ | ⟨blk, cs, G, f, h1, h2, h3, h4⟩
    · exact .inl hs
    · exact .inr ⟨blk, h1, h2, by rw [(Reps.flat.1 h4).1] at h3; exact h3⟩
theorem Sl.sdF (hs : Sl h v xs) (hc : capOK (Flat.sz α) v) : ∃ F, SdF h v xs F ∧ (∀ b ∈ F, b = bOf v ∧ vB v b) ∧ F.length ≤ 1 := by
  rcases hs with ⟨hb, ⟨rfl, rfl⟩ | ⟨b, off, cap, rfl, hs⟩⟩
  · exact ⟨[], .nil, by simp, by simp⟩
  · rcases hs with rfl | ⟨blk, h1, h2, h3⟩
    · exact ⟨[], ⟨hb, .inr ⟨b, off, cap, rfl, hc, .inl ⟨rfl, rfl⟩⟩⟩, by simp, by simp⟩
    · exact ⟨[b], ⟨hb, .inr ⟨b, off, cap, rfl, hc, .inr ⟨blk, _, [], rfl, h1, h2, h3, Reps.flat.2 ⟨rfl, rfl⟩⟩⟩⟩, by simp [bOf, vB], by simp⟩
end

instance listData {α : Type} [Data α] : Data (List α) where
  sz := 1
  pos := by decide
  rep := fun h xs cs F => ∃ v, cs = [v] ∧ SdF h v xs F
  len := by rintro h a cs F ⟨v, rfl, _⟩; rfl
  ok := by rintro h a cs F ⟨v, rfl, hs⟩; simp [allCell, hs.cell]
  keeps := by rintro h h' a cs F ⟨v, rfl, hs⟩ hk; exact ⟨v, rfl, hs.keeps hk⟩
  lt := by rintro h a cs F b ⟨v, rfl, hs⟩ hb; exact hs.lt hb

section
variable {α : Type} [Data α] {h : Heap} {v : V} {xs : List α} {lo : Nat} {F : List Nat}
/-- a list that this very call has made, and may make longer -/
def Od (lo : Nat) (h : Heap) (v : V) (xs : List α) (F : List Nat) : Prop :=
  xs.length < 2 ^ 40 ∧ lo ≤ h.length ∧ ((v = .nils ∧ xs = [] ∧ F = []) ∨ (∃ b cs, v = .slice b 0 xs.length (.o (Data.sz α)) ∧ h[b]? = some ⟨.own, cs⟩ ∧ lo ≤ b ∧ Reps h xs cs F ∧ b ∉ F) ∨ ∃ b, v = .slice b 0 0 (.k 0) ∧ xs = [] ∧ F = [] ∧ lo ≤ b ∧ b < h.length)

theorem Od.nil (hl : lo ≤ h.length) : Od lo h .nils ([] : List α) [] := ⟨by simp, hl, .inl ⟨rfl, rfl, rfl⟩⟩
theorem Od.empty {b : Nat} (hl : lo ≤ b) (hb : b < h.length) : Od lo h (.slice b 0 0 (.k 0)) ([] : List α) [] := ⟨by simp, by omega, .inr (.inr ⟨b, rfl, rfl, rfl, hl, hb⟩)⟩
theorem Od.sd (ho : Od lo h v xs F) : ∃ F', SdF h v xs F' ∧ (F' = F ∨ (F' = bOf v :: F ∧ vB v (bOf v) ∧ bOf v ∉ F ∧ ∃ cs, h[bOf v]? = some ⟨.own, cs⟩)) := by
  obtain ⟨h1, _, ⟨rfl, rfl, rfl⟩ | ⟨b, cs, rfl, hb, _, hr, hn⟩ | ⟨b, rfl, rfl, rfl, _⟩⟩ := ho
  · exact ⟨[], .nil, .inl rfl⟩
  · refine ⟨b :: F, ⟨by omega, .inr ⟨b, 0, _, rfl, rfl, .inr ⟨_, cs, F, rfl, hb, by simp, ?_, hr⟩⟩⟩, .inr ⟨rfl, ⟨_, _, _, rfl⟩, hn, cs, hb⟩⟩
    simp only [cut, hr.len, Nat.zero_add, Nat.le_refl, if_true, List.drop_zero]
    rw [← hr.len, List.take_length]
  · exact ⟨[], ⟨by simp, .inr ⟨b, 0, _, rfl, Nat.le_refl _, .inl ⟨rfl, rfl⟩⟩⟩, .inl rfl⟩
theorem Od.keeps {h' : Heap} (ho : Od lo h v xs F) {P : Nat → Prop} (hk : KeepsP P h h') (hp : ∀ i, vB v i → P i) (hF : ∀ i ∈ F, P i) (hl : h.length ≤ h'.length) : Od lo h' v xs F := by
  obtain ⟨h1, h2, ⟨rfl, rfl, rfl⟩ | ⟨b, cs, rfl, hb, h3, hr, hn⟩ | ⟨b, rfl, rfl, rfl, h3, h4⟩⟩ := ho
  · exact ⟨h1, by omega, .inl ⟨rfl, rfl, rfl⟩⟩
  · exact ⟨h1, by omega, .inr (.inl ⟨b, cs, rfl, hk _ _ (hp b ⟨_, _, _, rfl⟩) hb (by simp), h3, hr.keeps (hk.mono hF), hn⟩)⟩
  · exact ⟨h1, by omega, .inr (.inr ⟨b, rfl, rfl, rfl, h3, by omega⟩)⟩
theorem Od.ge (ho : Od lo h v xs F) {i : Nat} (hi : vB v i) : lo ≤ i ∧ i < h.length := by
  obtain ⟨h1, h2, ⟨rfl, rfl, rfl⟩ | ⟨b, cs, rfl, hb, h3, hr, hn⟩ | ⟨b, rfl, rfl, rfl, h3, h4⟩⟩ := ho
  · obtain ⟨_, _, _, e⟩ := hi; cases e
  · obtain ⟨_, _, _, e⟩ := hi; cases e; exact ⟨h3, get_lt hb⟩
  · obtain ⟨_, _, _, e⟩ := hi; cases e; exact ⟨h3, h4⟩

theorem Od.app (ho : Od lo h v xs F) {zs : List α} {ys : List V} {G : List Nat} (hz : 0 < zs.length) (hr : Reps h zs ys G) (hG : ∀ b ∈ G, ¬ vB v b) {bytes : Nat} (hb : bytes ≤ 2 ^ 8) (hl : xs.length + zs.length ≤ 2 ^ 30) {k n : Nat} (hk : k = Data.sz α) (hn : n = zs.length) :
    ∃ v' h', appH k bytes v n ys h = some (v', h') ∧ Od lo h' v' (xs ++ zs) (F ++ G) ∧ KeepsP (fun i => ¬ vB v i) h h' ∧ h.length < h'.length ∧ (∀ i, vB v' i → i = h.length) := by
  subst hk; subst hn
  have hk0 := Data.pos (α := α)
  have hbb : (xs.length + zs.length) * bytes ≤ 2 ^ 30 * 2 ^ 8 := Nat.mul_le_mul hl hb
  have hGl : ∀ b ∈ G, b < h.length := fun b hb => by obtain ⟨blk, h1, _⟩ := hr.lt hb; exact get_lt h1
  obtain ⟨h1, h2, ⟨rfl, rfl, rfl⟩ | ⟨b, cs, rfl, hb2, h3, hr0, hn0⟩ | ⟨b, rfl, rfl, rfl, h3, h4⟩⟩ := ho
  · have hk : KeepsP (fun i => ¬ vB .nils i) h (h ++ [⟨.own, ys⟩]) := fun i blk _ hi hl => Keeps.append h _ i blk hi hl
    refine ⟨.slice h.length 0 zs.length (.o (Data.sz α)), h ++ [⟨.own, ys⟩], ?_, ⟨by simp at hl ⊢; omega, by simp; omega, .inr (.inl ⟨h.length, ys, by simp, by simp, h2, ?_, ?_⟩)⟩, hk, by simp, fun i hi => ?_⟩
    · simp only [List.length_nil, Nat.zero_add] at hbb hl
      simp only [appH, Nat.ne_of_gt hz, if_false]
      rw [if_pos ⟨by unfold room; omega, by unfold room; omega⟩]
    · simpa using hr.keeps (hk.mono hG)
    · simp only [List.nil_append]; intro h9; exact absurd (hGl _ h9) (by omega)
    · obtain ⟨_, _, _, e⟩ := hi; cases e; rfl
  · have hlen := hr0.len
    have hF : ∀ i ∈ F, ¬ vB (.slice b 0 xs.length (.o (Data.sz α))) i := fun i hi ⟨_, _, _, e⟩ => by cases e; exact hn0 hi
    have hFl : ∀ i ∈ F, i < h.length := fun i hi => by obtain ⟨blk, h1, _⟩ := hr0.lt hi; exact get_lt h1
    have hk : KeepsP (fun i => ¬ vB (.slice b 0 xs.length (.o (Data.sz α))) i) h (h.set b ⟨.dead, cs⟩ ++ [⟨.own, cs ++ ys⟩]) := fun i blk hi hb3 hl => by
      have hne : i ≠ b := fun e => hi ⟨_, _, _, by rw [e]⟩
      rw [List.getElem?_append_left (by simp; exact get_lt hb3), List.getElem?_set_ne (Ne.symm hne)]
      exact hb3
    refine ⟨.slice h.length 0 (xs.length + zs.length) (.o (Data.sz α)), h.set b ⟨.dead, cs⟩ ++ [⟨.own, cs ++ ys⟩], ?_, ⟨by simp; omega, by simp; omega, .inr (.inl ⟨h.length, cs ++ ys, by simp, by simp, h2, (hr0.keeps (hk.mono hF)).append (hr.keeps (hk.mono hG)), ?_⟩)⟩, hk, by simp, fun i hi => ?_⟩
    · have hgt : ¬ (0 + (xs.length + zs.length) * Data.sz α ≤ cs.length) := by
        rw [hlen, Nat.add_mul]
        have : 0 < zs.length * Data.sz α := Nat.mul_pos hz hk0
        omega
      have hcut : cut cs 0 (xs.length * Data.sz α) = some cs := by
        simp only [cut, hlen, Nat.zero_add, Nat.le_refl, if_true, List.drop_zero]
        rw [← hlen, List.take_length]
      simp only [appH, Nat.ne_of_gt hz, if_false, hb2, hk0, and_self, if_true, hgt, hcut, Option.bind_some]
      rw [if_pos ⟨by unfold room; omega, by unfold room; omega⟩]
    · intro h9
      rcases List.mem_append.1 h9 with h9 | h9
      · exact absurd (hFl _ h9) (by omega)
      · exact absurd (hGl _ h9) (by omega)
    · obtain ⟨_, _, _, e⟩ := hi; cases e; rfl
  · have hk : KeepsP (fun i => ¬ vB (.slice b 0 0 (.k 0)) i) h (h ++ [⟨.own, ys⟩]) := fun i blk _ hi hl => Keeps.append h _ i blk hi hl
    refine ⟨.slice h.length 0 zs.length (.o (Data.sz α)), h ++ [⟨.own, ys⟩], ?_, ⟨by simp at hl ⊢; omega, by simp; omega, .inr (.inl ⟨h.length, ys, by simp, by simp, h2, ?_, ?_⟩)⟩, hk, by simp, fun i hi => ?_⟩
    · simp only [List.length_nil, Nat.zero_add] at hbb hl
      have hgt : ¬ (0 + zs.length ≤ 0) := by omega
      simp only [appH, Nat.ne_of_gt hz, if_false, hgt]
      rw [if_pos ⟨by unfold room; rw [Nat.zero_add]; omega, by unfold room; omega⟩]
      simp [rdS]
    · simpa using hr.keeps (hk.mono hG)
    · simp only [List.nil_append]; intro h9; exact absurd (hGl _ h9) (by omega)
    · obtain ⟨_, _, _, e⟩ := hi; cases e; rfl
end
end GL

namespace GL
open Go

end GL

/-! the draws' frame: a cursor at the first new block, and all older blocks as they were -/
namespace GL
open Go

structure DC (h0 h : Heap) (N : Nat) : Prop where
  cur : Cur h h0.length N
  keep : Keeps h0 h

theorem DC.start {h : Heap} {v : V} {bs : List Byte} (hs : Sl h v bs) : DC h (h ++ [⟨.own, [v, vi 0, .int .u64 0]⟩]) 0 := ⟨drawTwo hs, Keeps.append h _⟩
theorem DC.mono {h0 h : Heap} {N M : Nat} (d : DC h0 h N) (hn : N ≤ M) : DC h0 h M := ⟨d.cur.mono hn, d.keep⟩
theorem DC.lt {h0 h : Heap} {N : Nat} (d : DC h0 h N) : h0.length < h.length := d.cur.lt
theorem DC.lit {h0 h : Heap} {N : Nat} (d : DC h0 h N) (l : Heap) : DC h0 (h ++ l) N := ⟨d.cur.keeps (Keeps.append h l), d.keep.trans (Keeps.append h l)⟩
theorem DC.keeps {h0 h h' : Heap} {N : Nat} (d : DC h0 h N) (hk : Keeps h h') : DC h0 h' N := ⟨d.cur.keeps hk, d.keep.trans hk⟩
/-- whatever is done to newer blocks -/
theorem DC.far {h0 h h' : Heap} {N : Nat} (d : DC h0 h N) {P : Nat → Prop} (hk : KeepsP P h h') (hp : ∀ i, i ≤ h0.length → P i) : DC h0 h' N :=
  ⟨d.cur.keepsP hk hp, Keeps.far (n := h0.length) d.keep hk (Nat.le_refl _) fun i hi => hp i (by omega)⟩
theorem DC.out {h0 h h' : Heap} {N : Nat} {α : Type} [Flat α] {v : V} {xs : List α} (d : DC h0 h N) (ho : Out (h0.length + 1) h v xs) (hk : KeepsP (fun i => ¬ vB v i) h h') : DC h0 h' N :=
  d.far hk fun i hi hv => by have := (ho.ge hv).1; omega
theorem DC.but {h0 h h' : Heap} {N M : Nat} (d : DC h0 h N) (hc : Cur h' h0.length M) (hk : KeepsBut h0.length h h') : DC h0 h' M :=
  ⟨hc, KeepsBut.keeps d.keep (Nat.le_refl _) hk⟩

theorem DC.pick {h0 h : Heap} {N : Nat} (d : DC h0 h N) (hN : N < 2 ^ 61) (n : Int) (hn : 0 ≤ n ∧ n < 2 ^ 40) : ∃ (x : Nat) (h' : Heap), call p 91 [.ptr h0.length 0, vi n] h = some (vi x, h') ∧ (x : Int) < max n 1 ∧ DC h0 h' (N + 2) ∧ KeepsBut h0.length h h' ∧ h'.length = h.length := by
  obtain ⟨m, rfl⟩ := Int.eq_ofNat_of_zero_le hn.1
  obtain ⟨_, h', e, x, rfl, hx, c, k, l⟩ := pick_ok (n := m) d.cur hN (by omega)
  exact ⟨x, h', e, by omega, d.but c k, k, l⟩
theorem DC.one {h0 h : Heap} {N : Nat} (d : DC h0 h N) (hN : N < 2 ^ 61) (n : Int) (hn : 0 ≤ n ∧ n < 2 ^ 40) : ∃ (b : Bool) (h' : Heap), call p 92 [.ptr h0.length 0, vi n] h = some (.bool b, h') ∧ DC h0 h' (N + 2) ∧ KeepsBut h0.length h h' ∧ h'.length = h.length := by
  obtain ⟨m, rfl⟩ := Int.eq_ofNat_of_zero_le hn.1
  obtain ⟨_, h', e, b, rfl, c, k, l⟩ := one_ok (n := m) d.cur hN (by omega)
  exact ⟨b, h', e, d.but c k, k, l⟩
theorem DC.among {h0 h : Heap} {N : Nat} (d : DC h0 h N) (hN : N < 2 ^ 61) {v : V} {xs : List Int} (hs : Sl h v xs) (hb : bOf v ≠ h0.length) (h1 : 0 < xs.length) (hn : xs.length < 2 ^ 40) :
    ∃ (x : Int) (h' : Heap), call p 93 [.ptr h0.length 0, v] h = some (vi x, h') ∧ x ∈ xs ∧ DC h0 h' (N + 2) ∧ KeepsBut h0.length h h' ∧ h'.length = h.length := by
  obtain ⟨_, h', e, x, hx, rfl, c, k, l⟩ := among_ok d.cur hN hs hb h1 hn
  exact ⟨x, h', e, hx, d.but c k, k, l⟩
/-- one of some that stand there -/
theorem DC.amongL {h0 h : Heap} {N : Nat} (d : DC h0 h N) (hN : N < 2 ^ 61) (xs : List Int) (n : Nat) (hn : n = xs.length) (cs : List V) (hc : cs = flats xs) (cap : Cap) (h1 : 0 < xs.length) (h2 : xs.length < 2 ^ 40) :
    ∃ (x : Int) (h' : Heap), call p 93 [.ptr h0.length 0, .slice h.length 0 n cap] (h ++ [⟨.own, cs⟩]) = some (vi x, h') ∧ x ∈ xs ∧ DC h0 h' (N + 2) ∧ KeepsBut h0.length h h' ∧ h.length ≤ h'.length := by
  have := d.lt
  obtain ⟨x, h', e, hx, d', k, l⟩ := (d.lit [⟨.own, cs⟩]).among hN (Sl.lit xs n hn cs hc cap (by omega)) (by simp [bOf]; omega) h1 h2
  exact ⟨x, h', e, hx, d', (KeepsBut.lit _).trans k, by simp at l; omega⟩
end GL

namespace GL
open Go

theorem Out.cap {lo : Nat} {h : Heap} {v : V} {α : Type} [Flat α] {xs : List α} (ho : Out lo h v xs) : capOK (Flat.sz α) v := by
  obtain ⟨h1, _, ⟨rfl, rfl⟩ | ⟨b, rfl, hb, _⟩ | ⟨b, rfl, rfl, _⟩⟩ := ho
  · trivial
  · rfl
  · exact Nat.le_refl _

theorem KeepsBut.far {c : Nat} {g h h' : Heap} {P : Nat → Prop} (h1 : KeepsBut c g h) (hk : KeepsP P h h') (hp : ∀ i, i < g.length → i ≠ c → P i) : KeepsBut c g h' := fun i blk hc hi hl =>
  hk i blk (hp i (get_lt hi) hc) (h1 i blk hc hi hl) hl

/-- one more, in a draw -/
theorem Out.draw {α : Type} [Flat α] {h0 h g : Heap} {N lo : Nat} {v : V} {xs : List α} (d : DC h0 h N) (kb : KeepsBut h0.length g h) (ho : Out lo h v xs) (hlo : g.length ≤ lo) (hc : h0.length < lo) (x : α) (hx : xs.length ≤ 2 ^ 20)
    {k bytes : Nat} {cs : List V} (hk : k = Flat.sz α) (hb : bytes ≤ 2 ^ 8) (hcs : cs = Flat.cells x) :
    ∃ v' h', appH k bytes v 1 cs (h ++ [⟨.own, cs⟩]) = some (v', h') ∧ Out lo h' v' (xs ++ [x]) ∧ DC h0 h' N ∧ KeepsBut h0.length g h' ∧ h.length ≤ h'.length := by
  have o3 : Out lo (h ++ [⟨.own, cs⟩]) v xs := (Keeps.append h _).out ho (by simp)
  obtain ⟨v', h', e4, o4, k4, l4, b4⟩ := o3.app [x] (by simp) (bytes := bytes) hb (by simp; omega) (k := k) hk (n := 1) rfl (ys := cs) (by simp [flats, hcs])
  refine ⟨v', h', e4, o4, (d.lit _).far k4 fun i hi hv => ?_, (kb.trans (KeepsBut.lit _)).far k4 fun i hi _ hv => ?_, by simp at l4; omega⟩
  · have := (o3.ge hv).1; omega
  · have := (o3.ge hv).1; omega

end GL

/-! GL: lists of one's own, nested ones too, that are written in place. -/
namespace GL
open Go

def OwnB (h : Heap) (b : Nat) : Prop := ∃ cs, h[b]? = some ⟨.own, cs⟩

theorem OwnB.set {h : Heap} {b c : Nat} {cs : List V} (ho : OwnB h c) (hb : b < h.length) : OwnB (h.set b ⟨.own, cs⟩) c := by
  obtain ⟨ds, hd⟩ := ho
  by_cases e : c = b
  · subst e; exact ⟨cs, by simp [hb]⟩
  · exact ⟨ds, by rw [List.getElem?_set_ne (Ne.symm e)]; exact hd⟩
theorem OwnB.keeps {P : Nat → Prop} {h h' : Heap} {b : Nat} (ho : OwnB h b) (hk : KeepsP P h h') (hp : P b) : OwnB h' b := by
  obtain ⟨ds, hd⟩ := ho
  exact ⟨ds, hk b _ hp hd (by simp)⟩

theorem layLen {cs ys cs' : List V} {o : Nat} (h : lay cs o ys = some cs') : cs'.length = cs.length ∧ o + ys.length ≤ cs.length := by
  unfold lay at h
  split at h
  · cases h; refine ⟨?_, by assumption⟩; simp; omega
  · cases h
theorem layMid {a c b ys c' : List V} {o : Nat} (h : lay c o ys = some c') : lay (a ++ c ++ b) (a.length + o) ys = some (a ++ c' ++ b) := by
  unfold lay at h ⊢
  split at h
  · rename_i hl
    cases h
    rw [if_pos (by simp; omega)]
    simp only [Option.some.injEq]
    have e1 : (a ++ c ++ b).take (a.length + o) = a ++ c.take o := by
      rw [List.append_assoc, List.take_append, List.take_of_length_le (by omega), Nat.add_sub_cancel_left, List.take_append]
      rw [show o - c.length = 0 by omega]; simp
    have e2 : (a ++ c ++ b).drop (a.length + o + ys.length) = c.drop (o + ys.length) ++ b := by
      rw [List.append_assoc, Nat.add_assoc, List.drop_append, List.drop_of_length_le (by omega), Nat.add_sub_cancel_left, List.drop_append]
      rw [show o + ys.length - c.length = 0 by omega]; simp
    rw [e1, e2]; simp
  · cases h

section
variable {α : Type} [Data α] {h : Heap} {v : V} {xs : List α} {F : List Nat}
theorem SdF.put (hs : SdF h v xs F) (hn : F.Nodup) (ho : OwnB h (bOf v)) {i : Nat} (hi : i < xs.length) {x' : α} {o : Nat} {ys : List V}
    (hx : ∀ cs G, Data.rep h xs[i] cs G → (∀ c ∈ G, c ∈ F ∧ c ≠ bOf v) → ∃ cs', lay cs o ys = some cs' ∧ ∀ h', KeepsP (fun b => b ∈ G) h h' → Data.rep h' x' cs' G) :
    ∃ h', wrH h (bOf v) (oOf v + i * Data.sz α + o) ys = some h' ∧ SdF h' v (xs.set i x') F ∧ KeepsP (fun b => b ≠ bOf v) h h' ∧ h'.length = h.length ∧ ∀ b, OwnB h b → OwnB h' b := by
  have hlen0 := hs.1
  rcases hs with ⟨_, ⟨rfl, rfl, _⟩ | ⟨b, off, cap, rfl, hcap, hs⟩⟩
  · simp at hi
  · rcases hs with ⟨rfl, _⟩ | ⟨blk, cs, G, rfl, h1, h2, h3, h4⟩
    · simp at hi
    · obtain ⟨ds, hd⟩ := ho
      simp only [bOf, oOf] at hd ⊢
      rw [hd] at h1; cases h1
      have hbG : ∀ c ∈ G, c ≠ b := fun c hc e => by subst e; exact (List.nodup_cons.1 hn).1 hc
      obtain ⟨F1, F2, F3, rfl, r2, r1, r3⟩ := h4.get i hi
      obtain ⟨c', hl, hr⟩ := hx _ F2 r2 fun c hc => ⟨List.mem_cons_of_mem _ (by simp [hc]), by exact hbG c (by simp [hc])⟩
      have hcl := h4.len
      have hle : (i + 1) * Data.sz α ≤ xs.length * Data.sz α := Nat.mul_le_mul_right _ hi
      have hs1 : (i + 1) * Data.sz α = i * Data.sz α + Data.sz α := by rw [Nat.add_mul, Nat.one_mul]
      -- the cells that the slice holds, in three
      have hcs : cs = cs.take (i * Data.sz α) ++ (cs.drop (i * Data.sz α)).take (Data.sz α) ++ cs.drop ((i + 1) * Data.sz α) := by
        rw [hs1, ← List.drop_drop, List.append_assoc, List.take_append_drop, List.take_append_drop]
      unfold cut at h3
      split at h3
      case isFalse => cases h3
      rename_i hle2
      simp only at hle2
      simp only [Option.some.injEq] at h3
      have hds : ds = ds.take off ++ cs ++ ds.drop (off + xs.length * Data.sz α) := by
        rw [← h3, ← List.drop_drop, List.append_assoc, List.take_append_drop, List.take_append_drop]
      have hol : (ds.take off).length = off := by simp; omega
      have htl : (cs.take (i * Data.sz α)).length = i * Data.sz α := by simp; omega
      have hl2 := layMid (a := cs.take (i * Data.sz α)) (b := cs.drop ((i + 1) * Data.sz α)) hl
      rw [← hcs, htl] at hl2
      have hl3 := layMid (a := ds.take off) (b := ds.drop (off + xs.length * Data.sz α)) hl2
      rw [← hds, hol] at hl3
      have hb := get_lt hd
      have hk : KeepsP (fun c => c ≠ b) h (h.set b ⟨.own, ds.take off ++ (cs.take (i * Data.sz α) ++ c' ++ cs.drop ((i + 1) * Data.sz α)) ++ ds.drop (off + xs.length * Data.sz α)⟩) := fun c blk hc hb2 _ => by
        rw [List.getElem?_set_ne (Ne.symm hc)]; exact hb2
      refine ⟨_, by rw [wrH_at hd rfl, Nat.add_assoc, hl3]; rfl, ⟨by simpa using hlen0, .inr ⟨b, off, cap, by simp, by simpa using hcap, .inr ⟨⟨.own, ds.take off ++ (cs.take (i * Data.sz α) ++ c' ++ cs.drop ((i + 1) * Data.sz α)) ++ ds.drop (off + xs.length * Data.sz α)⟩, cs.take (i * Data.sz α) ++ c' ++ cs.drop ((i + 1) * Data.sz α), _, rfl, by simp [hb], by simp, ?_, ?_⟩⟩⟩, hk, by simp, fun c hc => hc.set hb⟩
      · have hll := (layLen hl2).1
        simp only [cut, List.length_set]
        rw [if_pos (by simp only [List.length_append] at hll ⊢; rw [hol, hll]; simp; omega)]
        rw [List.append_assoc, List.drop_append_of_le_length (by omega), List.drop_of_length_le (by omega), List.nil_append, List.take_append_of_le_length (by rw [hll]; omega), List.take_of_length_le (by rw [hll]; omega)]
      · have hset : xs.set i x' = xs.take i ++ [x'] ++ xs.drop (i + 1) := by
          rw [List.set_eq_take_append_cons_drop, if_pos hi]; simp
        rw [hset]
        refine ((r1.keeps (hk.mono fun c hc => ?_)).append (.one (hr _ (hk.mono fun c hc => ?_)))).append (r3.keeps (hk.mono fun c hc => ?_))
        · exact hbG c (by simp [hc])
        · exact hbG c (by simp [hc])
        · exact hbG c (by simp [hc])
end
/-- flat data -/
theorem SdF.putF {α : Type} [Flat α] {h : Heap} {v : V} {xs : List α} {F : List Nat} (hs : SdF h v xs F) (ho : OwnB h (bOf v)) {i : Nat} (hi : i < xs.length) {x' : α} {o : Nat} {ys : List V} (hx : lay (Flat.cells xs[i]) o ys = some (Flat.cells x')) :
    ∃ h', wrH h (bOf v) (oOf v + i * Flat.sz α + o) ys = some h' ∧ SdF h' v (xs.set i x') F ∧ KeepsP (fun b => b ≠ bOf v) h h' ∧ h'.length = h.length ∧ ∀ b, OwnB h b → OwnB h' b := by
  have hn : F.Nodup := by
    rcases hs with ⟨_, ⟨rfl, rfl, rfl⟩ | ⟨b, off, cap, rfl, _, ⟨_, rfl⟩ | ⟨blk, cs, G, rfl, _, _, _, hr⟩⟩⟩
    · exact List.nodup_nil
    · exact List.nodup_nil
    · rw [(Reps.flat.1 hr).2]; simp
  refine hs.put hn ho hi fun cs G hr _ => ?_
  obtain ⟨rfl, rfl⟩ := hr
  exact ⟨_, hx, fun _ _ => ⟨rfl, rfl⟩⟩
/-- where a flat list lies -/
theorem SdF.flatF {α : Type} [Flat α] {h : Heap} {v : V} {xs : List α} {F : List Nat} (hs : SdF h v xs F) : (∀ b ∈ F, b = bOf v) ∧ F.Nodup ∧ (xs ≠ [] → F = [bOf v]) := by
  rcases hs with ⟨_, ⟨rfl, rfl, rfl⟩ | ⟨b, off, cap, rfl, _, ⟨rfl, rfl⟩ | ⟨blk, cs, G, rfl, _, _, _, hr⟩⟩⟩
  · simp
  · simp
  · rw [(Reps.flat.1 hr).2]; simp [bOf]
end GL

/-! GL: what comes in: numbers, structs and slices of them, from the reading of the model. -/
namespace GL
open Go

def AgH (h : Heap) (b0 : Nat) (ss : List (Blk × Option At)) : Prop := ∀ i s, ss[i]? = some s → h[b0 + i]? = some s.1
def AgR (ρ : Rho) (b0 : Nat) (ss : List (Blk × Option At)) : Prop := ∀ i s, ss[i]? = some s → ρ (b0 + i) = s.2

theorem AgH.left {h : Heap} {b0 : Nat} {l r : List (Blk × Option At)} (ha : AgH h b0 (l ++ r)) : AgH h b0 l := fun i s hs =>
  ha i s (by rw [List.getElem?_append_left (by obtain ⟨hl, _⟩ := List.getElem?_eq_some_iff.1 hs; exact hl)]; exact hs)
theorem AgH.right {h : Heap} {b0 : Nat} {l r : List (Blk × Option At)} (ha : AgH h b0 (l ++ r)) : AgH h (b0 + l.length) r := fun i s hs => by
  rw [Nat.add_assoc]
  exact ha (l.length + i) s (by rw [List.getElem?_append_right (by omega), Nat.add_sub_cancel_left]; exact hs)
theorem AgR.left {h : Rho} {b0 : Nat} {l r : List (Blk × Option At)} (ha : AgR h b0 (l ++ r)) : AgR h b0 l := fun i s hs =>
  ha i s (by rw [List.getElem?_append_left (by obtain ⟨hl, _⟩ := List.getElem?_eq_some_iff.1 hs; exact hl)]; exact hs)
theorem AgR.right {h : Rho} {b0 : Nat} {l r : List (Blk × Option At)} (ha : AgR h b0 (l ++ r)) : AgR h (b0 + l.length) r := fun i s hs => by
  rw [Nat.add_assoc]
  exact ha (l.length + i) s (by rw [List.getElem?_append_right (by omega), Nat.add_sub_cancel_left]; exact hs)

/-- a block that is only read, as it lies in memory -/
def SideR (fid : Nat → FuncId) (ρ : Rho) (w : World) (s : Blk × Option At) : Prop :=
  s.1.st ≠ .own ∧ (s.1.st ≠ .dead → allCell s.1.cells = true ∧ ∃ a, s.2 = some a ∧ a.cb < w.heap.size ∧ ∀ (i : Nat) (v : V), s.1.cells[i]? = some v → ∃ x, w.cell? ⟨a.cb, a.co + i, none⟩ = some x ∧ RV fid ρ v x)

/-- cells that came in, as data, with the blocks that they lead to -/
def Opened {α : Type} [Data α] (w : World) (b0 : Nat) (vs : List V) (ss : List (Blk × Option At)) (x : α) (F : List Nat) (cs : List Value) : Prop :=
  (∀ h : Heap, AgH h b0 ss → Data.rep h x vs F) ∧ (∀ b ∈ F, b0 ≤ b ∧ b < b0 + ss.length) ∧
    ∀ (fid : Nat → FuncId) (ρ : Rho), AgR ρ b0 ss → RVs fid ρ vs cs ∧ ∀ s ∈ ss, SideR fid ρ w s

def OpenedL {α : Type} [Data α] (w : World) (b0 : Nat) (vs : List V) (ss : List (Blk × Option At)) (xs : List α) (F : List Nat) (cs : List Value) : Prop :=
  (∀ h : Heap, AgH h b0 ss → Reps h xs vs F) ∧ (∀ b ∈ F, b0 ≤ b ∧ b < b0 + ss.length) ∧
    ∀ (fid : Nat → FuncId) (ρ : Rho), AgR ρ b0 ss → RVs fid ρ vs cs ∧ ∀ s ∈ ss, SideR fid ρ w s

theorem RVs.app {fid : Nat → FuncId} {ρ : Rho} : ∀ {a b : List V} {c d : List Value}, RVs fid ρ a c → RVs fid ρ b d → RVs fid ρ (a ++ b) (c ++ d)
  | [], _, _, _, .nil, h => h
  | _ :: _, _, _, _, .cons h1 h2, h => .cons h1 (RVs.app h2 h)

/-- a type of the program's that is read as such data -/
class ArgT (P : Program) (t : TypeId) (α : Type) [Data α] : Prop where
  opens : ∀ {H : Type} {enc : TypeId × Value → H} {w : World} {fuel : Nat} {cs : List Value} {d : DataW H} {ps : List MemPlace},
    DataW.trod enc P w 0 (fun _ => true) true fuel t cs = some (d, ps) → ∀ b0, ∃ (vs : List V) (ss : List (Blk × Option At)) (x : α) (F : List Nat), Opened w b0 vs ss x F cs

theorem ArgT.int {P : Program} {t : TypeId} (h : P.underlying t = some (.int .i64)) : ArgT P t Int := ⟨fun {H enc w fuel cs d ps} ht b0 => by
  obtain ⟨n, rfl, _⟩ := DataW.trod_int h ht
  exact ⟨[vi n], [], n, [], fun _ _ => ⟨rfl, rfl⟩, by simp, fun fid ρ _ => ⟨.cons (.int _ _) .nil, by simp⟩⟩⟩
theorem ArgT.bool {P : Program} {t : TypeId} (h : P.underlying t = some .bool) : ArgT P t Bool := ⟨fun {H enc w fuel cs d ps} ht b0 => by
  obtain ⟨n, rfl, _⟩ := DataW.trod_bool h ht
  exact ⟨[.bool n], [], n, [], fun _ _ => ⟨rfl, rfl⟩, by simp, fun fid ρ _ => ⟨.cons (.bool _) .nil, by simp⟩⟩⟩

theorem mapM_get {α β : Type} {f : α → Option β} : ∀ {l : List α} {r : List β}, l.mapM f = some r → r.length = l.length ∧ ∀ i (hi : i < l.length) (hr : i < r.length), f l[i] = some r[i]
  | [], r, h => by simp at h; subst h; simp
  | x :: l, r, h => by
    rw [List.mapM_cons] at h
    simp only [bind, pure] at h
    obtain ⟨y, h1, h⟩ := Option.bind_eq_some_iff.1 h
    obtain ⟨ys, h2, h⟩ := Option.bind_eq_some_iff.1 h
    cases h
    obtain ⟨e, k⟩ := mapM_get h2
    refine ⟨by simp [e], fun i hi hr => ?_⟩
    cases i with
    | zero => exact h1
    | succ i => exact k i (by simpa using hi) (by simpa using hr)

theorem cell_spot {w : World} {a : Addr} {v : Value} (h : w.cell? a = some v) : a.spot = none ∧ a.block < w.heap.size := by
  simp only [World.cell?] at h
  split at h
  · rename_i cs T fr hob
    split at h
    · cases h
    · rename_i hsp
      exact ⟨by simpa using hsp, lt_heap hob⟩
  · cases h

/-- these values stand there in a row -/
def Row (w : World) (cb co : Nat) (cs : List Value) : Prop := ∀ i y, cs[i]? = some y → w.cell? ⟨cb, co + i, none⟩ = some y
theorem Row.app {w : World} {cb co : Nat} {a b : List Value} (h1 : Row w cb co a) (h2 : Row w cb (co + a.length) b) : Row w cb co (a ++ b) := fun i y hy => by
  rcases Nat.lt_or_ge i a.length with hi | hi
  · rw [List.getElem?_append_left hi] at hy; exact h1 i y hy
  · rw [List.getElem?_append_right hi] at hy
    have := h2 (i - a.length) y hy
    rwa [show co + a.length + (i - a.length) = co + i by omega] at this

theorem cells_row {w : World} {cb co n : Nat} {cs : List Value} (h : w.cells? 0 ⟨cb, co, none⟩ n = some cs) : cs.length = n ∧ Row w cb co cs := by
  simp only [World.cells?, Nat.zero_le, if_true] at h
  obtain ⟨e, k⟩ := mapM_get h
  simp at e
  refine ⟨e, fun i y hy => ?_⟩
  obtain ⟨hi, rfl⟩ := List.getElem?_eq_some_iff.1 hy
  have := k i (by simpa [e] using hi) hi
  rw [List.getElem_range, add_mk] at this
  exact this

section
variable {P : Program} {e : TypeId} {α : Type} [Data α] [A : ArgT P e α] {H : Type} {enc : TypeId × Value → H} {w : World} {fuel : Nat}

theorem opensL {k : Nat} (cb : Nat) : ∀ (css : List (List Value)) (co b0 : Nat), (∀ i (hi : i < css.length), w.cells? 0 ⟨cb, co + i * k, none⟩ k = some css[i] ∧ ∃ d ps, DataW.trod enc P w 0 (fun _ => true) true fuel e css[i] = some (d, ps)) →
    ∃ (vs : List V) (ss : List (Blk × Option At)) (xs : List α) (F : List Nat), xs.length = css.length ∧ OpenedL w b0 vs ss xs F css.flatten ∧ Row w cb co css.flatten
  | [], co, b0, _ => ⟨[], [], [], [], rfl, ⟨fun _ _ => .nil, by simp, fun _ _ _ => ⟨.nil, by simp⟩⟩, by intro i y h; simp at h⟩
  | c :: css, co, b0, hall => by
    obtain ⟨hc, d, ps, ht⟩ := hall 0 (by simp)
    simp only [Nat.zero_mul, Nat.add_zero, List.getElem_cons_zero] at hc ht
    obtain ⟨vs, ss, x, F, o1, o2, o3⟩ := A.opens ht b0
    obtain ⟨hl, hrow⟩ := cells_row hc
    obtain ⟨vs', ss', xs', F', hx, ⟨q1, q2, q3⟩, hrow'⟩ := opensL cb css (co + k) (b0 + ss.length) fun i hi => by
      have := hall (i + 1) (by simpa using hi)
      rw [show co + (i + 1) * k = co + k + i * k by rw [Nat.add_mul]; omega] at this
      simpa using this
    refine ⟨vs ++ vs', ss ++ ss', x :: xs', F ++ F', by simp [hx], ⟨fun h ha => ⟨vs, vs', F, F', rfl, rfl, o1 h ha.left, q1 h ha.right⟩, fun b hb => ?_, fun fid ρ ha => ?_⟩, ?_⟩
    · rcases List.mem_append.1 hb with hb | hb
      · have := o2 b hb; simp; omega
      · have := q2 b hb; simp; omega
    · obtain ⟨r1, r2⟩ := o3 fid ρ ha.left
      obtain ⟨r3, r4⟩ := q3 fid ρ ha.right
      refine ⟨by rw [List.flatten_cons]; exact r1.app r3, fun s hs => ?_⟩
      rcases List.mem_append.1 hs with hs | hs
      · exact r2 s hs
      · exact r4 s hs
    · rw [List.flatten_cons]
      exact hrow.app (by rw [hl]; exact hrow')

theorem ArgT.list {t : TypeId} (h : P.underlying t = some (.slice e)) (hsz : P.cellsOf e = Data.sz α) : ArgT P t (List α) := ⟨fun {H enc w fuel cs d ps} ht b0 => by
  rcases DataW.trod_slice h ht with ⟨rfl, _⟩ | ⟨a, len, cap, els, rest, f, rfl, rfl, _, _, hlc, hcm, le, ke, kr, _⟩
  · exact ⟨[.nils], [], [], [], fun _ _ => ⟨.nils, rfl, .nil⟩, by simp, fun fid ρ _ => ⟨.cons .nils .nil, by simp⟩⟩
  · have lr := (kr rfl).1
    replace kr := (kr rfl).2
    have hml : cap < 2 ^ 63 := by unfold maxLen at hcm; omega
    have hpos := Data.pos (α := α)
    by_cases h0 : cap = 0
    · subst h0
      have : len = 0 := by omega
      subst this
      refine ⟨[.slice b0 0 0 (.k 0)], [(deadBlk, some ⟨0, 0, 0⟩)], [], [], fun _ _ => ⟨_, rfl, by simp, .inr ⟨b0, 0, _, rfl, Nat.le_refl _, .inl ⟨rfl, rfl⟩⟩⟩, by simp, fun fid ρ hρ => ⟨.cons ?_ .nil, fun s hs => ?_⟩⟩
      · exact .slice (hρ 0 _ rfl) (Nat.le_refl _) (fun c0 h => by cases h; rfl) (fun k h => by cases h) (fun h => absurd rfl h)
      · simp at hs; subst hs
        exact ⟨by simp [deadBlk], fun h => absurd rfl h⟩
    · -- the cells of each element, the spare ones too
      have key : ∀ i, i < cap → ∃ c d ps, w.cells? 0 (a.add (i * P.cellsOf e)) (P.cellsOf e) = some c ∧ DataW.trod enc P w 0 (fun _ => true) true f e c = some (d, ps) := fun i hi => by
        rcases Nat.lt_or_ge i len with hi' | hi'
        · have := ke i hi'
          rw [List.getElem?_eq_getElem (by omega)] at this
          obtain ⟨c, h1, h2⟩ := Option.bind_eq_some_iff.1 this
          exact ⟨c, _, _, h1, h2⟩
        · have := kr (i - len) (by omega)
          rw [List.getElem?_eq_getElem (by omega)] at this
          obtain ⟨c, h1, h2⟩ := Option.bind_eq_some_iff.1 this
          rw [show len + (i - len) = i by omega] at h1
          exact ⟨c, _, _, h1, h2⟩
      obtain ⟨bk, off, spot⟩ := a
      have hspot : spot = none ∧ bk < w.heap.size := by
        obtain ⟨c, _, _, h1, _⟩ := key 0 (by omega)
        simp only [World.cells?, Nat.zero_le, if_true] at h1
        obtain ⟨l1, k1⟩ := mapM_get h1
        have := k1 0 (by simp; omega) (by simp at l1; omega)
        simp only [Nat.zero_mul, List.getElem_range, Addr.add, if_true] at this
        exact cell_spot this
      obtain ⟨rfl, hbk⟩ := hspot
      have hcss : ∃ css : List (List Value), css.length = cap ∧ ∀ i (hi : i < css.length), w.cells? 0 ⟨bk, off + i * Data.sz α, none⟩ (Data.sz α) = some css[i] ∧ ∃ d ps, DataW.trod enc P w 0 (fun _ => true) true f e css[i] = some (d, ps) := by
        rw [hsz] at key
        clear ht ke kr le lr h0 hlc hcm hml
        have : ∀ n, n ≤ cap → ∃ css : List (List Value), css.length = n ∧ ∀ i (hi : i < css.length), w.cells? 0 ⟨bk, off + i * Data.sz α, none⟩ (Data.sz α) = some css[i] ∧ ∃ d ps, DataW.trod enc P w 0 (fun _ => true) true f e css[i] = some (d, ps) := by
          intro n
          induction n with
          | zero => exact fun _ => ⟨[], rfl, fun i hi => by simp at hi⟩
          | succ n ih =>
            intro hn
            obtain ⟨css, hl, hc⟩ := ih (by omega)
            obtain ⟨c, d, ps, h1, h2⟩ := key n (by omega)
            rw [add_mk] at h1
            refine ⟨css ++ [c], by simp [hl], fun i hi => ?_⟩
            simp [hl] at hi
            by_cases hin : i < css.length
            · rw [List.getElem_append_left hin]; exact hc i hin
            · have : i = n := by omega
              subst this
              have e1 : (css ++ [c])[i]'(by simp [hl]) = c := by simp [hl]
              rw [e1]; exact ⟨h1, d, ps, h2⟩
        exact this cap (Nat.le_refl _)
      obtain ⟨css, hcl, hcs⟩ := hcss
      obtain ⟨vs, ss, xs, F, hx, ⟨o1, o2, o3⟩, hrow⟩ := opensL (P := P) (α := α) bk css off (b0 + 1) hcs
      have hxl : xs.length = cap := by omega
      have hsub : (xs.take len).length = len := by simp; omega
      have hF : ∀ h : Heap, AgH h (b0 + 1) ss → ∃ F1, (∀ b ∈ F1, b ∈ F) ∧ Reps h (xs.take len) (vs.take (len * Data.sz α)) F1 := fun h ha => by
        obtain ⟨F1, F2, f, h1, _⟩ := (o1 h ha).cut2 len (by omega)
        exact ⟨F1, fun b hb => by rw [f]; exact List.mem_append_left _ hb, h1⟩
      -- the blocks of the first ones are the same in any memory
      obtain ⟨F1, hF1, hR1⟩ : ∃ F1, (∀ b ∈ F1, b ∈ F) ∧ ∀ h : Heap, AgH h (b0 + 1) ss → Reps h (xs.take len) (vs.take (len * Data.sz α)) F1 := by
        let hh : Heap := List.replicate (b0 + 1) deadBlk ++ ss.map (·.1)
        have ha : AgH hh (b0 + 1) ss := fun i s hs => by
          show (List.replicate (b0 + 1) deadBlk ++ ss.map (·.1))[b0 + 1 + i]? = _
          rw [List.getElem?_append_right (by simp)]
          simp [hs]
        obtain ⟨F1, f1, r1⟩ := hF hh ha
        refine ⟨F1, f1, fun h ha' => r1.keeps fun b blk hb hbk hl => ?_⟩
        obtain ⟨g1, g2⟩ := o2 b (f1 b hb)
        obtain ⟨i, rfl⟩ : ∃ i, b = b0 + 1 + i := ⟨b - (b0 + 1), by omega⟩
        have hi : i < ss.length := by omega
        have e1 := ha i _ (List.getElem?_eq_getElem hi)
        have e2 := ha' i _ (List.getElem?_eq_getElem hi)
        rw [e1] at hbk; cases hbk; exact e2
      refine ⟨[.slice b0 0 len (.k cap)], (⟨.ro, vs⟩, some ⟨bk, off, cap * Data.sz α⟩) :: ss, xs.take len, b0 :: F1, fun h ha => ⟨_, rfl, by rw [hsub]; omega, .inr ⟨b0, 0, .k cap, by rw [hsub], by rw [hsub]; exact hlc, .inr ⟨⟨.ro, vs⟩, _, F1, rfl, ha 0 _ rfl, by simp, ?_, hR1 h ?_⟩⟩⟩, fun b hb => ?_, fun fid ρ ha => ?_⟩
      · rw [hsub]
        have hv : ∀ h : Heap, AgH h (b0 + 1) ss → vs.length = cap * Data.sz α := fun h ha => by rw [(o1 h ha).len, hxl]
        have hvl := hv h fun i s hs => by
          have := ha (i + 1) s (by simpa using hs)
          rwa [show b0 + (i + 1) = b0 + 1 + i by omega] at this
        have : len * Data.sz α ≤ cap * Data.sz α := Nat.mul_le_mul_right _ hlc
        simp only [cut, Nat.zero_add, List.drop_zero]
        rw [if_pos (by omega)]
      · intro i s hs
        have := ha (i + 1) s (by simpa using hs)
        rwa [show b0 + (i + 1) = b0 + 1 + i by omega] at this
      · rcases List.mem_cons.1 hb with rfl | hb
        · simp
        · have := o2 b (hF1 b hb); simp; omega
      · have ha' : AgR ρ (b0 + 1) ss := fun i s hs => by
          have := ha (i + 1) s (by simpa using hs)
          rwa [show b0 + (i + 1) = b0 + 1 + i by omega] at this
        obtain ⟨r1, r2⟩ := o3 fid ρ ha'
        refine ⟨.cons (.slice (ha 0 _ rfl) hlc (fun c0 h => by cases h; rfl) (fun k h => by cases h) fun _ => rfl) .nil, fun s hs => ?_⟩
        rcases List.mem_cons.1 hs with rfl | hs
        · refine ⟨by simp, fun _ => ⟨?_, ⟨bk, off, cap * Data.sz α⟩, rfl, hbk, fun i v hv => ?_⟩⟩
          · have hh : AgH (List.replicate (b0 + 1) deadBlk ++ ss.map (·.1)) (b0 + 1) ss := fun i s hs => by
              rw [List.getElem?_append_right (by simp)]
              simp [hs]
            exact (o1 _ hh).ok
          · obtain ⟨y, hy, hv'⟩ := r1.get hv
            exact ⟨y, hrow i y hy, hv'⟩
        · exact r2 s hs⟩
end
end GL

/-! GL: a law's call, from whatever comes in. -/
namespace GL
open Go

instance pairData {α β : Type} [Data α] [Data β] : Data (α × β) where
  sz := Data.sz α + Data.sz β
  pos := Nat.lt_of_lt_of_le (Data.pos (α := α)) (Nat.le_add_right _ _)
  rep := fun h x cs F => ∃ c d F1 F2, cs = c ++ d ∧ F = F1 ++ F2 ∧ Data.rep h x.1 c F1 ∧ Data.rep h x.2 d F2
  len := by rintro h a cs F ⟨c, d, F1, F2, rfl, rfl, h1, h2⟩; rw [List.length_append, Data.len h1, Data.len h2]
  ok := by
    rintro h a cs F ⟨c, d, F1, F2, rfl, rfl, h1, h2⟩
    have a := Data.ok h1
    have b := Data.ok h2
    simp only [allCell, List.all_append, Bool.and_eq_true] at a b ⊢
    exact ⟨a, b⟩
  keeps := by
    rintro h h' a cs F ⟨c, d, F1, F2, rfl, rfl, h1, h2⟩ hk
    exact ⟨c, d, F1, F2, rfl, rfl, Data.keeps h1 (hk.mono fun b hb => List.mem_append_left _ hb), Data.keeps h2 (hk.mono fun b hb => List.mem_append_right _ hb)⟩
  lt := by
    rintro h a cs F b ⟨c, d, F1, F2, rfl, rfl, h1, h2⟩ hb
    rcases List.mem_append.1 hb with hb | hb
    · exact Data.lt h1 hb
    · exact Data.lt h2 hb

theorem Opened.pair {α β : Type} [Data α] [Data β] {w : World} {b0 : Nat} {vs vs' : List V} {ss ss' : List (Blk × Option At)} {x : α} {y : β} {F F' : List Nat} {cs cs' : List Value}
    (o : Opened w b0 vs ss x F cs) (q : Opened w (b0 + ss.length) vs' ss' y F' cs') : Opened w b0 (vs ++ vs') (ss ++ ss') (x, y) (F ++ F') (cs ++ cs') := by
  obtain ⟨o1, o2, o3⟩ := o
  obtain ⟨q1, q2, q3⟩ := q
  refine ⟨fun h ha => ⟨vs, vs', F, F', rfl, rfl, o1 h ha.left, q1 h ha.right⟩, fun b hb => ?_, fun fid ρ ha => ?_⟩
  · rcases List.mem_append.1 hb with hb | hb
    · have := o2 b hb; simp; omega
    · have := q2 b hb; simp; omega
  · obtain ⟨r1, r2⟩ := o3 fid ρ ha.left
    obtain ⟨r3, r4⟩ := q3 fid ρ ha.right
    refine ⟨r1.app r3, fun s hs => ?_⟩
    rcases List.mem_append.1 hs with hs | hs
    · exact r2 s hs
    · exact r4 s hs
theorem Opened.map {α β : Type} [Data α] [Data β] {w : World} {b0 : Nat} {vs : List V} {ss : List (Blk × Option At)} {x : α} {F : List Nat} {cs : List Value} (f : α → β) (hf : ∀ h a cs F, Data.rep h a cs F → Data.rep h (f a) cs F)
    (o : Opened w b0 vs ss x F cs) : Opened w b0 vs ss (f x) F cs := ⟨fun h ha => hf _ _ _ _ (o.1 h ha), o.2⟩

/-- the fields from here on -/
def OpensF (P : Program) (fs : List Field) (off tot : Nat) (α : Type) [Data α] : Prop :=
  ∀ {H : Type} {enc : TypeId × Value → H} {w : World} {n : Nat} {cs : List Value}, cs.length = tot → (∀ f ∈ fs, ∃ y, DataW.trod enc P w 0 (fun _ => true) true n f.type ((cs.drop f.offset).take (P.cellsOf f.type)) = some y) →
    ∀ b0, ∃ (vs : List V) (ss : List (Blk × Option At)) (x : α) (F : List Nat), Opened w b0 vs ss x F (cs.drop off)

theorem OpensF.last {P : Program} {f : Field} {off tot : Nat} {α : Type} [Data α] (A : ArgT P f.type α) (h1 : f.offset = off) (h2 : off + P.cellsOf f.type = tot) : OpensF P [f] off tot α := fun {H enc w n cs} hl hf b0 => by
  obtain ⟨⟨d, ps⟩, hy⟩ := hf f (List.mem_cons_self ..)
  rw [h1, List.take_of_length_le (by simp; omega)] at hy
  exact A.opens hy b0
theorem OpensF.cons {P : Program} {f : Field} {fs : List Field} {off tot : Nat} {α β : Type} [Data α] [Data β] (A : ArgT P f.type α) (h1 : f.offset = off) (hr : OpensF P fs (off + P.cellsOf f.type) tot β) : OpensF P (f :: fs) off tot (α × β) := fun {H enc w n cs} hl hf b0 => by
  obtain ⟨⟨d, ps⟩, hy⟩ := hf f (List.mem_cons_self ..)
  rw [h1] at hy
  obtain ⟨vs, ss, x, F, o⟩ := A.opens hy b0
  obtain ⟨vs', ss', x', F', o'⟩ := hr hl (fun g hg => hf g (List.mem_cons_of_mem _ hg)) (b0 + ss.length)
  refine ⟨vs ++ vs', ss ++ ss', (x, x'), F ++ F', ?_⟩
  have := o.pair o'
  rwa [← List.drop_drop, List.take_append_drop] at this
/-- one argument -/
def ArgIn {α : Type} [Data α] (w : World) (b0 : Nat) (x : V) (ss : List (Blk × Option At)) (a : α) (F : List Nat) (agg : Bool) (v : Value) : Prop :=
  (∀ h : Heap, AgH h b0 ss → ∃ vs, x = (if agg = true then .agg vs else vs.headD .nils) ∧ (agg = false → vs = [x]) ∧ Data.rep h a vs F) ∧ (∀ b ∈ F, b0 ≤ b ∧ b < b0 + ss.length) ∧
    ∀ (fid : Nat → FuncId) (ρ : Rho), AgR ρ b0 ss → RV fid ρ x v ∧ ∀ s ∈ ss, SideR fid ρ w s

/-- all arguments -/
inductive ArgsIn (w : World) : Nat → List V → List (Blk × Option At) → List Value → Prop
  | nil {b0 : Nat} : ArgsIn w b0 [] [] []
  | cons {α : Type} [Data α] {b0 : Nat} {x : V} {ss ss' : List (Blk × Option At)} {a : α} {F : List Nat} {agg : Bool} {v : Value} {xs : List V} {vs : List Value} :
      ArgIn w b0 x ss a F agg v → ArgsIn w (b0 + ss.length) xs ss' vs → ArgsIn w b0 (x :: xs) (ss ++ ss') (v :: vs)

theorem ArgsIn.out {w : World} {b0 : Nat} {xs : List V} {ss : List (Blk × Option At)} {vs : List Value} (h : ArgsIn w b0 xs ss vs) (fid : Nat → FuncId) (ρ : Rho) (ha : AgR ρ b0 ss) : RVs fid ρ xs vs ∧ ∀ s ∈ ss, SideR fid ρ w s := by
  induction h with
  | nil => exact ⟨.nil, by simp⟩
  | cons h1 _ ih =>
    obtain ⟨_, _, h3⟩ := h1
    obtain ⟨r1, r2⟩ := h3 fid ρ ha.left
    obtain ⟨r3, r4⟩ := ih ha.right
    refine ⟨.cons r1 r3, fun s hs => ?_⟩
    rcases List.mem_append.1 hs with hs | hs
    · exact r2 s hs
    · exact r4 s hs

/-- what an argument is, at the start -/
theorem ArgIn.at {α : Type} [Data α] {w : World} {x : V} {l m r : List (Blk × Option At)} {a : α} {F : List Nat} {agg : Bool} {v : Value} (h : ArgIn w l.length x m a F agg v) :
    ∃ vs, x = (if agg = true then .agg vs else vs.headD .nils) ∧ (agg = false → vs = [x]) ∧ Data.rep (sideH (l ++ m ++ r)) a vs F := h.1 _ fun i s hs => by
  show (List.map (·.1) (l ++ m ++ r))[l.length + i]? = _
  have hi := (List.getElem?_eq_some_iff.1 hs).1
  rw [List.getElem?_map, List.append_assoc, List.getElem?_append_right (by omega), Nat.add_sub_cancel_left, List.getElem?_append_left hi, hs]
  rfl
end GL

namespace GL
open Go

theorem mem_take_succ {α : Type} {l : List α} {i : Nat} (hi : i < l.length) {x : α} : x ∈ l.take (i + 1) ↔ x ∈ l.take i ∨ x = l[i] := by
  rw [List.take_succ_eq_append_getElem hi, List.mem_append, List.mem_singleton]
theorem all_take_succ {α : Type} {l : List α} {i : Nat} (hi : i < l.length) {P : α → Prop} : (∀ x ∈ l.take (i + 1), P x) ↔ (∀ x ∈ l.take i, P x) ∧ P l[i] := by
  constructor
  · exact fun h => ⟨fun x hx => h x ((mem_take_succ hi).2 (.inl hx)), h _ ((mem_take_succ hi).2 (.inr rfl))⟩
  · rintro ⟨h1, h2⟩ x hx
    rcases (mem_take_succ hi).1 hx with hx | rfl
    · exact h1 x hx
    · exact h2

/-- blocks of one's own, made just now -/
structure Fresh (lo : Nat) (h : Heap) (F : List Nat) : Prop where
  nodup : F.Nodup
  ge : ∀ b ∈ F, lo ≤ b
  own : ∀ b ∈ F, OwnB h b
theorem Fresh.nil {lo : Nat} {h : Heap} : Fresh lo h [] := ⟨List.nodup_nil, by simp, by simp⟩
theorem Fresh.keeps {lo : Nat} {h h' : Heap} {F : List Nat} (hf : Fresh lo h F) (hk : KeepsP (fun b => b ∈ F) h h') : Fresh lo h' F := ⟨hf.nodup, hf.ge, fun b hb => (hf.own b hb).keeps hk hb⟩
theorem Fresh.mono {lo lo' : Nat} {h : Heap} {F : List Nat} (hf : Fresh lo h F) (hl : lo' ≤ lo) : Fresh lo' h F := ⟨hf.nodup, fun b hb => Nat.le_trans hl (hf.ge b hb), hf.own⟩
theorem OwnB.lt {h : Heap} {b : Nat} (ho : OwnB h b) : b < h.length := by obtain ⟨_, h1⟩ := ho; exact get_lt h1
theorem Fresh.app {lo : Nat} {h h' : Heap} {F G : List Nat} (hf : Fresh lo h F) (hg : Fresh h.length h' G) (hk : Keeps h h') (hl : lo ≤ h.length) : Fresh lo h' (F ++ G) := by
  have hf' := hf.keeps (hk.p _)
  refine ⟨List.nodup_append.2 ⟨hf.nodup, hg.nodup, fun a ha b hb e => ?_⟩, fun b hb => ?_, fun b hb => ?_⟩
  · have := (hf.own a ha).lt
    have := hg.ge b hb
    omega
  · rcases List.mem_append.1 hb with hb | hb
    · exact hf.ge b hb
    · have := hg.ge b hb; omega
  · rcases List.mem_append.1 hb with hb | hb
    · exact hf'.own b hb
    · exact hg.own b hb

end GL

namespace GL
open Go

def okP (w no p h : Int) : Prop :=
  (0 ≤ p ∧ p ≤ 3) ∧ (0 ≤ h ∧ h ≤ 2) ∧ ¬ (h = 1 ∧ p = 0) ∧ ¬ (h = 2 ∧ p ≠ 3) ∧ ¬ (p = 2 ∧ w ≠ 1) ∧ ¬ (w = 1 ∧ h ≠ 1) ∧ ¬ (p = 3 ∧ w ≠ 2 ∧ ¬ (w = 0 ∧ no = 1))
instance (w no p h : Int) : Decidable (okP w no p h) := by unfold okP; infer_instance
end GL

namespace GL
open Go

/-- all of a list, laid anew -/
theorem appNew {α : Type} [Flat α] {h : Heap} {v : V} {xs : List α} (hs : Sl h v xs) (hl : xs.length ≤ 2 ^ 20) {k bytes : Nat} (hk : k = Flat.sz α) (hb : bytes ≤ 2 ^ 8) :
    rdS (h ++ [⟨.own, []⟩]) k v xs.length = some (flats xs) ∧ ∃ r h', appH k bytes (.slice h.length 0 0 (.k 0)) xs.length (flats xs) (h ++ [⟨.own, []⟩]) = some (r, h') ∧ ∃ F, SdF h' r xs F ∧ Fresh h.length h' F ∧ Keeps h h' ∧ h.length ≤ h'.length := by
  have hs' := hs.keeps (Keeps.append h [⟨.own, []⟩])
  have e1 := hs'.rdS xs.length (Nat.le_refl _)
  rw [List.take_length] at e1
  refine ⟨by rw [hk]; exact e1, ?_⟩
  by_cases h0 : xs.length = 0
  · have : xs = [] := List.length_eq_zero_iff.1 h0
    subst this
    exact ⟨.slice h.length 0 0 (.k 0), h ++ [⟨.own, []⟩], by simp [appH, lenV], [], ⟨by simp, .inr ⟨h.length, 0, .k 0, rfl, Nat.le_refl _, .inl ⟨rfl, rfl⟩⟩⟩, Fresh.nil, Keeps.append h _, by simp⟩
  · have ho : Out h.length (h ++ [⟨.own, []⟩]) (.slice h.length 0 0 (.k 0)) ([] : List α) := Out.empty (Nat.le_refl _) (by simp)
    obtain ⟨r, h', e, o', k', l', b'⟩ := ho.app xs (by omega) hb (by simp; omega) hk rfl rfl
    simp only [List.nil_append] at o'
    have hlen : h.length < h'.length := by simp at l'; omega
    obtain ⟨F, hF, hF2, hF3⟩ := o'.sl.sdF o'.cap
    refine ⟨r, h', e, F, hF, ⟨hF.flatF.2.1, fun b hb => ?_, fun b hb => ?_⟩, Keeps.far (n := h.length) (Keeps.append h _) k' (Nat.le_refl _) fun i hi ⟨_, _, _, e⟩ => by cases e; omega, by omega⟩
    · exact (o'.ge (hF2 b hb).2).1
    · obtain ⟨_, _, ⟨rfl, rfl⟩ | ⟨b1, rfl, hb1, _⟩ | ⟨b1, rfl, rfl, _⟩⟩ := o'
      · simp at h0
      · have := (hF2 b hb).1; simp [bOf] at this; subst this; exact ⟨_, hb1⟩
      · simp at h0

end GL

/-! GL: nested lists of one's own: an element is written, or what it leads to. -/
namespace GL
open Go
section
variable {α : Type} [Data α] {h : Heap} {v : V} {xs : List α} {F : List Nat}

/-- what an element leads to is changed -/
theorem SdF.inner (hs : SdF h v xs F) (hn : F.Nodup) {i : Nat} (hi : i < xs.length) :
    ∃ cs F2, rdH h (bOf v) (oOf v + i * Data.sz α) (Data.sz α) = some cs ∧ Data.rep h xs[i] cs F2 ∧ (∀ b ∈ F2, b ∈ F ∧ b ≠ bOf v) ∧ F2.Nodup ∧ (bOf v ∈ F) ∧ ∀ h' x', KeepsP (fun b => b ∉ F2) h h' → Data.rep h' x' cs F2 → SdF h' v (xs.set i x') F := by
  obtain ⟨cs0, _, _, _, e0, _, _⟩ := hs.load i hi
  have hlen0 := hs.1
  rcases hs with ⟨_, ⟨rfl, rfl, _⟩ | ⟨b, off, cap, rfl, hcap, hs⟩⟩
  · simp at hi
  · rcases hs with ⟨rfl, _⟩ | ⟨blk, cs, G, rfl, h1, h2, h3, h4⟩
    · simp at hi
    · have hbG : ∀ c ∈ G, c ≠ b := fun c hc e => by subst e; exact (List.nodup_cons.1 hn).1 hc
      have hGnd := (List.nodup_cons.1 hn).2
      obtain ⟨F1, F2, F3, rfl, r2, r1, r3⟩ := h4.get i hi
      obtain ⟨n12, n3, d123⟩ := List.nodup_append.1 hGnd
      obtain ⟨n1, n2, d12⟩ := List.nodup_append.1 n12
      have ecs : cs0 = (cs.drop (i * Data.sz α)).take (Data.sz α) := by
        simp only [bOf, oOf, rdH, h1, h2, if_false] at e0
        unfold cut at h3 e0
        split at h3
        case isFalse => cases h3
        split at e0
        case isFalse => cases e0
        simp only [Option.some.injEq] at h3 e0
        have hb : (i + 1) * Data.sz α ≤ xs.length * Data.sz α := Nat.mul_le_mul_right _ hi
        rw [Nat.add_mul] at hb
        rw [← e0, ← h3, List.drop_take, List.take_take, List.drop_drop]
        congr 1
        omega
      refine ⟨cs0, F2, e0, by rw [ecs]; exact r2, fun c hc => ⟨by simp [hc], hbG c (by simp [hc])⟩, n2, List.mem_cons_self .., fun h' x' hk hx => ?_⟩
      rw [ecs] at hx
      refine ⟨by simpa using hlen0, .inr ⟨b, off, cap, by simp, by simpa using hcap, .inr ⟨blk, cs, _, rfl, hk _ _ (fun hm => hbG b (by simp [hm]) rfl) h1 h2, h2, by simpa using h3, ?_⟩⟩⟩
      have hset : xs.set i x' = xs.take i ++ [x'] ++ xs.drop (i + 1) := by
        rw [List.set_eq_take_append_cons_drop, if_pos hi]; simp
      have hs1 : (i + 1) * Data.sz α = i * Data.sz α + Data.sz α := by rw [Nat.add_mul, Nat.one_mul]
      have hcs : cs = cs.take (i * Data.sz α) ++ (cs.drop (i * Data.sz α)).take (Data.sz α) ++ cs.drop ((i + 1) * Data.sz α) := by
        rw [hs1, ← List.drop_drop, List.append_assoc, List.take_append_drop, List.take_append_drop]
      rw [hset, hcs]
      exact ((r1.keeps (hk.mono fun c hc hm => d12 c hc c hm rfl)).append (.one hx)).append (r3.keeps (hk.mono fun c hc hm => d123 c (List.mem_append_right _ hm) c hc rfl))
end
end GL

namespace GL
open Go

structure Rw where
  key : Int
  cols : List Val
instance rwData : Data Rw where
  sz := 2
  pos := by decide
  rep := fun h r cs F => ∃ x, cs = [vi r.key, x] ∧ SdF h x r.cols F
  len := by rintro h a cs F ⟨x, rfl, _⟩; rfl
  ok := by rintro h a cs F ⟨x, rfl, h1⟩; simp [allCell, h1.cell, cell_int]
  keeps := by rintro h h' a cs F ⟨x, rfl, h1⟩ hk; exact ⟨x, rfl, h1.keeps hk⟩
  lt := by rintro h a cs F b ⟨x, rfl, h1⟩ hb; exact h1.lt hb
section
variable {h : Heap} {v : V} {xs : List Rw} {F : List Nat}
end

end GL

namespace GL
open Go

end GL

namespace GL
open Go

end GL

namespace GL
open Go

def upR (a b : Rw) : Prop := a.key < b.key
instance (a b : Rw) : Decidable (upR a b) := by unfold upR; infer_instance
end GL

namespace GL
open Go

end GL

namespace GL
open Go

/-- a list of one's own that grows, with all that it leads to -/
def OdF {α : Type} [Data α] (lo : Nat) (h : Heap) (v : V) (xs : List α) (G : List Nat) : Prop := Od lo h v xs G ∧ Fresh lo h G

section
variable {α : Type} [Data α] {lo : Nat} {h h1 : Heap} {v : V} {xs : List α} {G G' : List Nat}
theorem OdF.one (o : OdF lo h v xs G) (k1 : Keeps h h1) (l1 : h.length ≤ h1.length) (fr : Fresh h.length h1 G') {x : α} {cs : List V} (hr : Data.rep h1 x cs G') (hx : xs.length ≤ 2 ^ 20) {k bytes : Nat} (hk : k = Data.sz α) (hb : bytes ≤ 2 ^ 8) :
    ∃ v' h2, appH k bytes v 1 cs (h1 ++ [⟨.own, cs⟩]) = some (v', h2) ∧ OdF lo h2 v' (xs ++ [x]) (G ++ G') ∧ (∀ h0 : Heap, Keeps h0 h → h0.length ≤ lo → Keeps h0 h2) ∧ h1.length < h2.length := by
  obtain ⟨od, fg⟩ := o
  have hge := fun i (hi : vB v i) => od.ge hi
  have kl : Keeps h1 (h1 ++ [⟨.own, cs⟩]) := Keeps.append h1 _
  have od1 : Od lo (h1 ++ [⟨.own, cs⟩]) v xs G := od.keeps ((k1.trans kl).p fun _ => True) (fun _ _ => trivial) (fun _ _ => trivial) (by simp; omega)
  have hnv : ∀ b ∈ G', ¬ vB v b := fun b hb hv => by have := (hge b hv).2; have := fr.ge b hb; omega
  have hnvG : ∀ b ∈ G, ¬ vB v b := fun b hb hv => by
    obtain ⟨_, _, ⟨rfl, _⟩ | ⟨b1, cs1, rfl, _, _, _, hn⟩ | ⟨b1, rfl, _, hG, _⟩⟩ := od
    · obtain ⟨_, _, _, e⟩ := hv; cases e
    · obtain ⟨_, _, _, e⟩ := hv; cases e; exact hn hb
    · rw [hG] at hb; cases hb
  obtain ⟨v', h2, e, o2, kp, l2, b2⟩ := od1.app (zs := [x]) (G := G') (by simp) (.one (Data.keeps hr (kl.p _))) hnv hb (by simp; omega) hk rfl
  have k2 : KeepsP (fun i => ¬ vB v i) h1 h2 := fun i blk hi h3 h4 => kp i blk hi (kl i blk h3 h4) h4
  refine ⟨v', h2, e, ⟨o2, ?_⟩, fun h0 hk0 hl0 => Keeps.far (n := lo) (hk0.trans k1) k2 hl0 fun i hi hv => by have := (hge i hv).1; omega, by simp at l2; omega⟩
  have f1 := (fg.keeps (k1.p _)).keeps (k2.mono hnvG)
  have f2 := fr.keeps (k2.mono hnv)
  refine ⟨List.nodup_append.2 ⟨fg.nodup, fr.nodup, fun a ha b hb e => ?_⟩, fun b hb => ?_, fun b hb => ?_⟩
  · have := (fg.own a ha).lt; have := fr.ge b hb; omega
  · rcases List.mem_append.1 hb with hb | hb
    · exact fg.ge b hb
    · have := fr.ge b hb; have := od.2.1; omega
  · rcases List.mem_append.1 hb with hb | hb
    · exact f1.own b hb
    · exact f2.own b hb
theorem OdF.fresh (o : OdF lo h v xs G) : ∃ F, SdF h v xs F ∧ Fresh lo h F := by
  obtain ⟨od, fg⟩ := o
  have hge := fun i (hi : vB v i) => od.ge hi
  obtain ⟨F', hs, rfl | ⟨rfl, hv, hn, cs, hcs⟩⟩ := od.sd
  · exact ⟨_, hs, fg⟩
  · refine ⟨_, hs, List.nodup_cons.2 ⟨hn, fg.nodup⟩, fun b hb => ?_, fun b hb => ?_⟩
    · rcases List.mem_cons.1 hb with rfl | hb
      · exact (hge _ hv).1
      · exact fg.ge b hb
    · rcases List.mem_cons.1 hb with rfl | hb
      · exact ⟨cs, hcs⟩
      · exact fg.own b hb
theorem OdF.nil (hl : lo ≤ h.length) : OdF lo h .nils ([] : List α) [] := ⟨Od.nil hl, Fresh.nil⟩
theorem OdF.empty {b : Nat} (hl : lo ≤ b) (hb : b < h.length) : OdF lo h (.slice b 0 0 (.k 0)) ([] : List α) [] := ⟨Od.empty hl hb, Fresh.nil⟩
end

end GL

namespace GL
open Go

end GL

namespace GL
open Go

structure Pl where
  prom : Int
  taken : Int
  word : Int
deriving DecidableEq
abbrev pv (x : Pl) : V := .agg [vi x.prom, vi x.taken, vi x.word]
instance : Flat Pl := ⟨3, fun x => [vi x.prom, vi x.taken, vi x.word], fun _ => rfl, fun _ => rfl, by decide⟩
theorem Sl.loadP {h : Heap} {v : V} {xs : List Pl} (hs : Sl h v xs) (i : Nat) (hi : i < xs.length) : rdH h (bOf v) (oOf v + i * 3) 3 = some [vi xs[i].prom, vi xs[i].taken, vi xs[i].word] := hs.load i hi
theorem Sl.loadP0 {h : Heap} {v : V} {xs : List Pl} (hs : Sl h v xs) (i : Nat) (hi : i < xs.length) : rdH h (bOf v) (oOf v + i * 3) 1 = some [vi xs[i].prom] := by simpa using rdH_sub (hs.loadP i hi) 0 1 (by decide)
theorem Sl.loadP1 {h : Heap} {v : V} {xs : List Pl} (hs : Sl h v xs) (i : Nat) (hi : i < xs.length) : rdH h (bOf v) (oOf v + i * 3 + 1) 1 = some [vi xs[i].taken] := by simpa using rdH_sub (hs.loadP i hi) 1 1 (by decide)
theorem SdF.bIn {α : Type} [Data α] {h : Heap} {v : V} {xs : List α} {F : List Nat} (hs : SdF h v xs F) {i : Nat} (hi : i < xs.length) : bOf v ∈ F := by
  obtain ⟨_, _, _, _, _, _, hF⟩ := hs.load i hi
  rw [hF]; simp

def manyB (n : Int) : Bool := decide (3 ≤ n ∧ n ≤ 9) && decide (n.tmod 2 = 1)
theorem isMany_eq (n : Int) (h : Heap) : call p 318 [vi n] h = some (.bool (manyB n), h) := by
  refine go_eq (fn := g318) rfl rfl fun R hR => ?_
  by_cases h1 : 3 ≤ n ∧ n ≤ 9
  · have b1 := Int.tmod_nonneg (a := n) 2 (by omega)
    have b2 := Int.tmod_lt_of_pos n (b := 2) (by decide)
    have w : IntKind.i64.wrap (n.tmod 2) = n.tmod 2 := by rw [IntWalk.i64_in] <;> omega
    simp [g318, h1, w, -Bool.decide_and]; simpa [manyB, h1] using hR
  · simp [g318, h1, -Bool.decide_and]; simpa [manyB, h1] using hR
theorem l11Places_eq (n : Int) (h : Heap) : call p 321 [vi n] h = some (.bool (manyB n), h) := by
  refine go_eq (fn := g321) rfl rfl fun R hR => ?_
  by_cases h1 : 3 ≤ n ∧ n ≤ 9
  · have b1 := Int.tmod_nonneg (a := n) 2 (by omega)
    have b2 := Int.tmod_lt_of_pos n (b := 2) (by decide)
    have w : IntKind.i64.wrap (n.tmod 2) = n.tmod 2 := by rw [IntWalk.i64_in] <;> omega
    simp [g321, h1, w, -Bool.decide_and]; simpa [manyB, h1] using hR
  · simp [g321, h1, -Bool.decide_and]; simpa [manyB, h1] using hR
theorem slow_eq (n : Nat) (hn : n < 2 ^ 40) (h : Heap) : call p 322 [vi n] h = some (vi (n / 2 + 1 : Nat), h) := by
  refine go_eq (fn := g322) rfl rfl fun R hR => ?_
  have e : (n : Int).tdiv 2 = (n / 2 : Nat) := by rw [Int.tdiv_eq_ediv_of_nonneg (by omega)]; omega
  have w : IntKind.i64.wrap ((n / 2 : Nat) : Int) = (n / 2 : Nat) := by rw [IntWalk.i64_in] <;> omega
  have w2 : IntKind.i64.wrap (((n / 2 : Nat) : Int) + 1) = (n / 2 + 1 : Nat) := by rw [IntWalk.i64_in] <;> omega
  simp [g322, e, w, w2, -Int.natCast_add, -Int.natCast_ediv]; exact hR
theorem l11Slow_eq (n : Nat) (hn : n < 2 ^ 40) (h : Heap) : call p 333 [vi n] h = some (vi (n / 2 + 1 : Nat), h) := by
  refine go_eq (fn := g333) rfl rfl fun R hR => ?_
  have e : (n : Int).tdiv 2 = (n / 2 : Nat) := by rw [Int.tdiv_eq_ediv_of_nonneg (by omega)]; omega
  have w : IntKind.i64.wrap ((n / 2 : Nat) : Int) = (n / 2 : Nat) := by rw [IntWalk.i64_in] <;> omega
  have w2 : IntKind.i64.wrap (((n / 2 : Nat) : Int) + 1) = (n / 2 + 1 : Nat) := by rw [IntWalk.i64_in] <;> omega
  simp [g333, e, w, w2, -Int.natCast_add, -Int.natCast_ediv]; exact hR
@[simp] theorem isBallot_eq (n : Int) (h : Heap) : call p 313 [vi n] h = some (.bool (decide (1 ≤ n ∧ n ≤ 40)), h) := by
  refine go_eq (fn := g313) rfl rfl fun R hR => ?_
  simp [g313, -Bool.decide_and]; exact hR
@[simp] theorem isWord_eq (n : Int) (h : Heap) : call p 323 [vi n] h = some (.bool (decide (1 ≤ n ∧ n ≤ 99)), h) := by
  refine go_eq (fn := g323) rfl rfl fun R hR => ?_
  simp [g323, -Bool.decide_and]; exact hR

/-- rising, between two bounds -/
def risB (lo hi : Int) (xs : List Int) : Bool := decide ((∀ x ∈ xs, lo ≤ x ∧ x ≤ hi) ∧ xs.Pairwise (· < ·))
theorem ris_snoc {l : List Int} {x : Int} (hp : l.Pairwise (· < ·)) (hl : ∀ (h : 0 < l.length), l[l.length - 1] < x) : (l ++ [x]).Pairwise (· < ·) := by
  rw [List.pairwise_append]
  refine ⟨hp, by simp, fun a ha b hb => ?_⟩
  simp at hb; subst hb
  obtain ⟨i, hi, rfl⟩ := List.getElem_of_mem ha
  have h0 : 0 < l.length := by omega
  have := hl h0
  by_cases e : i = l.length - 1
  · subst e; exact this
  · have := (List.pairwise_iff_getElem.1 hp) i (l.length - 1) hi (by omega) (by omega)
    omega

theorem isRising_eq {h : Heap} {v : V} {xs : List Int} (hs : Sl h v xs) (lo hi : Int) : call p 385 [v, vi lo, vi hi] h = some (.bool (risB lo hi xs), h) := by
  have hbd := hs.bd
  refine go_eq (fn := g385) rfl rfl fun R hR => ?_
  simp [g385, hs.len]
  refine Wc_upM (M := [6, 7, 8, 11, 12, 13, 14, 15, 16, 17, 18, 19, 20, 21, 22, 23, 24, 25, 26, 27, 28, 29, 30, 31, 32, 33, 34]) rfl xs.length (fun i s => i ≤ xs.length ∧ s.σ 11 = .v (vi i) ∧ s.h = h ∧ (∀ x ∈ xs.take i, lo ≤ x ∧ x ≤ hi) ∧ (xs.take i).Pairwise (· < ·)) 0
    (by simp) fun i s ⟨gi, g11, gh, q1, q2⟩ hM J hJ => ?_
  by_cases hn : i < xs.length
  · have ht := List.take_succ_eq_append_getElem hn
    have bad : ¬ ((∀ x ∈ xs, lo ≤ x ∧ x ≤ hi) ∧ xs.Pairwise (· < ·)) → R (.bool false) h := fun hb => by
      have : risB lo hi xs = false := by simp only [risB, decide_eq_false_iff_not]; exact hb
      rw [this] at hR; exact hR
    by_cases h1 : lo ≤ xs[i] ∧ xs[i] ≤ hi
    · by_cases h0 : 0 < i
      · have w : IntKind.i64.wrap ((i : Int) - 1) = (i - 1 : Nat) := by rw [IntWalk.i64_in] <;> omega
        have hi1 : i - 1 < xs.length := by omega
        by_cases h2 : xs[i - 1] < xs[i]
        · have h2' : ¬ xs[i] ≤ xs[i - 1] := by omega
          simp [g385_0, hM, g11, gh, hn, hs.idx, hs.loadI, h1, h0, w, hi1, hs.idx 1 .i64 (i - 1) hi1, hs.loadI (i - 1) hi1, h2', hs.step hn, -Bool.decide_and]
          refine hJ _ hn ⟨hn, by simp, rfl, (all_take_succ hn).2 ⟨q1, h1⟩, ?_⟩
          rw [ht]
          refine ris_snoc q2 fun hp => ?_
          simp at hp
          have e : (xs.take i).length - 1 = i - 1 := by simp; omega
          simp only [e, List.getElem_take]; exact h2
        · have h2' : xs[i] ≤ xs[i - 1] := by omega
          simp [g385_0, hM, g11, gh, hn, hs.idx, hs.loadI, h1, h0, w, hi1, hs.idx 1 .i64 (i - 1) hi1, hs.loadI (i - 1) hi1, h2', -Bool.decide_and]
          exact bad fun ⟨_, b⟩ => h2 ((List.pairwise_iff_getElem.1 b) (i - 1) i hi1 hn (by omega))
      · simp [g385_0, hM, g11, gh, hn, hs.idx, hs.loadI, h1, h0, hs.step hn, -Bool.decide_and]
        refine hJ _ hn ⟨hn, by simp, rfl, (all_take_succ hn).2 ⟨q1, h1⟩, ?_⟩
        rw [ht]
        refine ris_snoc q2 fun hp => ?_
        simp at hp; omega
    · simp [g385_0, hM, g11, gh, hn, hs.idx, hs.loadI, h1, -Bool.decide_and]
      exact bad fun ⟨a, _⟩ => h1 (a _ (List.getElem_mem hn))
  · rw [List.take_of_length_le (by omega)] at q1 q2
    simp [g385_0, hM, g11, gh, hn]
    have : risB lo hi xs = true := by simp only [risB, decide_eq_true_eq]; exact ⟨q1, q2⟩
    rw [this] at hR; exact hR

theorem l1Rising_eq {h : Heap} {v : V} {xs : List Int} (hs : Sl h v xs) (lo hi : Int) : call p 337 [v, vi lo, vi hi] h = some (.bool (risB lo hi xs), h) := by
  have hbd := hs.bd
  refine go_eq (fn := g337) rfl rfl fun R hR => ?_
  simp [g337, hs.len]
  refine Wc_upM (M := [6, 7, 8, 11, 12, 13, 14, 15, 16, 17, 18, 19, 20, 21, 22, 23, 24, 25, 26, 27, 28, 29, 30, 31, 32, 33, 34]) rfl xs.length (fun i s => i ≤ xs.length ∧ s.σ 11 = .v (vi i) ∧ s.h = h ∧ (∀ x ∈ xs.take i, lo ≤ x ∧ x ≤ hi) ∧ (xs.take i).Pairwise (· < ·)) 0
    (by simp) fun i s ⟨gi, g11, gh, q1, q2⟩ hM J hJ => ?_
  by_cases hn : i < xs.length
  · have ht := List.take_succ_eq_append_getElem hn
    have bad : ¬ ((∀ x ∈ xs, lo ≤ x ∧ x ≤ hi) ∧ xs.Pairwise (· < ·)) → R (.bool false) h := fun hb => by
      have : risB lo hi xs = false := by simp only [risB, decide_eq_false_iff_not]; exact hb
      rw [this] at hR; exact hR
    by_cases h1 : lo ≤ xs[i] ∧ xs[i] ≤ hi
    · by_cases h0 : 0 < i
      · have w : IntKind.i64.wrap ((i : Int) - 1) = (i - 1 : Nat) := by rw [IntWalk.i64_in] <;> omega
        have hi1 : i - 1 < xs.length := by omega
        by_cases h2 : xs[i - 1] < xs[i]
        · have h2' : ¬ xs[i] ≤ xs[i - 1] := by omega
          simp [g337_0, hM, g11, gh, hn, hs.idx, hs.loadI, h1, h0, w, hi1, hs.idx 1 .i64 (i - 1) hi1, hs.loadI (i - 1) hi1, h2', hs.step hn, -Bool.decide_and]
          refine hJ _ hn ⟨hn, by simp, rfl, (all_take_succ hn).2 ⟨q1, h1⟩, ?_⟩
          rw [ht]
          refine ris_snoc q2 fun hp => ?_
          simp at hp
          have e : (xs.take i).length - 1 = i - 1 := by simp; omega
          simp only [e, List.getElem_take]; exact h2
        · have h2' : xs[i] ≤ xs[i - 1] := by omega
          simp [g337_0, hM, g11, gh, hn, hs.idx, hs.loadI, h1, h0, w, hi1, hs.idx 1 .i64 (i - 1) hi1, hs.loadI (i - 1) hi1, h2', -Bool.decide_and]
          exact bad fun ⟨_, b⟩ => h2 ((List.pairwise_iff_getElem.1 b) (i - 1) i hi1 hn (by omega))
      · simp [g337_0, hM, g11, gh, hn, hs.idx, hs.loadI, h1, h0, hs.step hn, -Bool.decide_and]
        refine hJ _ hn ⟨hn, by simp, rfl, (all_take_succ hn).2 ⟨q1, h1⟩, ?_⟩
        rw [ht]
        refine ris_snoc q2 fun hp => ?_
        simp at hp; omega
    · simp [g337_0, hM, g11, gh, hn, hs.idx, hs.loadI, h1, -Bool.decide_and]
      exact bad fun ⟨a, _⟩ => h1 (a _ (List.getElem_mem hn))
  · rw [List.take_of_length_le (by omega)] at q1 q2
    simp [g337_0, hM, g11, gh, hn]
    have : risB lo hi xs = true := by simp only [risB, decide_eq_true_eq]; exact ⟨q1, q2⟩
    rw [this] at hR; exact hR

theorem arePlaces_eq {h : Heap} {v : V} {xs : List Int} (hs : Sl h v xs) (n : Int) : call p 314 [vi n, v] h = some (.bool (manyB n && risB 0 (n - 1) xs), h) := by
  refine go_eq (fn := g314) rfl rfl fun R hR => ?_
  have e1 := isMany_eq n h
  cases hm : manyB n with
  | false => rw [hm] at e1 hR; simp [g314, e1]; simpa using hR
  | true =>
    rw [hm] at e1 hR
    have hn : 3 ≤ n ∧ n ≤ 9 := by simp only [manyB, Bool.and_eq_true, decide_eq_true_eq] at hm; exact hm.1
    have w : IntKind.i64.wrap (n - 1) = n - 1 := by rw [IntWalk.i64_in] <;> omega
    simp [g314, e1, w, isRising_eq hs]; simpa using hR
end GL

namespace GL
open Go

def okPl (x : Pl) : Bool := decide (0 ≤ x.prom ∧ x.prom ≤ 40) && (decide (x.taken = 0 ∧ x.word = 0) || decide ((1 ≤ x.taken ∧ x.taken ≤ x.prom) ∧ (1 ≤ x.word ∧ x.word ≤ 99)))
def goodP (xs : List Pl) : Bool := manyB xs.length && xs.all okPl

theorem good1_eq (x : Pl) (h : Heap) : call p 320 [pv x] h = some (.bool (!okPl x), h) := by
  refine go_eq (fn := g320) rfl rfl fun R hR => ?_
  have e : (!okPl x) = (!decide (0 ≤ x.prom ∧ x.prom ≤ 40) || (!decide (x.taken = 0 ∧ x.word = 0) && !decide ((1 ≤ x.taken ∧ x.taken ≤ x.prom) ∧ (1 ≤ x.word ∧ x.word ≤ 99)))) := by simp [okPl]
  rw [e] at hR
  by_cases h1 : 0 ≤ x.prom ∧ x.prom ≤ 40 <;> by_cases h2 : x.taken = 0 <;> by_cases h3 : x.word = 0 <;> by_cases h4 : 1 ≤ x.taken ∧ x.taken ≤ x.prom <;> by_cases h5 : 1 ≤ x.word ∧ x.word ≤ 99 <;>
    simp [h1, h2, h3, h4, h5, -Bool.decide_and] at hR <;> simp [g320, fillL, upd, h1, h2, h3, h4, h5, -Bool.decide_and] <;> (try first | omega | exact hR) <;> (try simpa using hR)

theorem indexP_eq {h : Heap} {v : V} {xs : List Pl} (hs : Sl h v xs) (f : Nat) (capt : List V) (q : Pl → Bool) (hf : ∀ n h, call p f (pv n :: capt) h = some (.bool (q n), h)) : ∃ k : Int, call p 394 [v, .fn f capt] h = some (vi k, h) ∧ (0 ≤ k ↔ ∃ x ∈ xs, q x = true) := by
  have : ∃ r h', call p 394 [v, .fn f capt] h = some (r, h') ∧ ∃ k : Int, r = vi k ∧ h' = h ∧ (0 ≤ k ↔ ∃ x ∈ xs, q x = true) := by
    refine go (fn := g394) rfl rfl fun R hR => ?_
    simp [g394, hs.len]
    refine Wc_upM (M := [4, 5, 8, 9, 10, 11, 12, 13, 14, 15, 16, 17, 18]) rfl xs.length (fun i s => s.σ 8 = .v (vi i) ∧ s.h = h ∧ ∀ x ∈ xs.take i, q x = false) 0 (by simp) fun i s ⟨g8, gh, hall⟩ hM J hJ => ?_
    by_cases hn : i < xs.length
    · cases he : q xs[i] with
      | true =>
        simp [g394_0, hM, g8, gh, hn, hs.idx, hs.loadP, hf, he]
        exact hR _ _ ⟨i, rfl, rfl, by simp; exact ⟨xs[i], by simp, he⟩⟩
      | false =>
        simp [g394_0, hM, g8, gh, hn, hs.idx, hs.loadP, hf, he, hs.step hn]
        exact hJ _ hn ⟨by simp, rfl, (all_take_succ hn).2 ⟨hall, he⟩⟩
    · rw [List.take_of_length_le (by omega)] at hall
      simp [g394_0, hM, g8, gh, hn]
      exact hR _ _ ⟨-1, rfl, rfl, by simpa using hall⟩
  obtain ⟨_, _, e, k, rfl, rfl, hk⟩ := this
  exact ⟨k, e, hk⟩
theorem containsP_eq {h : Heap} {v : V} {xs : List Pl} (hs : Sl h v xs) (f : Nat) (capt : List V) (q : Pl → Bool) (hf : ∀ n h, call p f (pv n :: capt) h = some (.bool (q n), h)) : call p 319 [v, .fn f capt] h = some (.bool (xs.any q), h) := by
  obtain ⟨k, e, hk⟩ := indexP_eq hs f capt q hf
  refine go_eq (fn := g319) rfl rfl fun R hR => ?_
  have : decide (0 ≤ k) = xs.any q := by
    rw [Bool.eq_iff_iff]; simp [hk]
  simp [g319, e, this]
  exact hR

theorem GoodPlaces_eq {h : Heap} {v : V} {xs : List Pl} (hs : Sl h v xs) : call p 216 [v] h = some (.bool (goodP xs), h) := by
  refine go_eq (fn := g216) rfl rfl fun R hR => ?_
  have e1 := isMany_eq xs.length h
  have e2 := containsP_eq hs 320 [] (fun x => !okPl x) good1_eq
  have e3 : goodP xs = (manyB xs.length && !xs.any fun x => !okPl x) := by simp [goodP, List.all_eq_not_any_not]
  rw [e3] at hR
  cases hm : manyB xs.length with
  | false => rw [hm] at e1 hR; simp [g216, hs.len, e1]; simpa using hR
  | true => rw [hm] at e1 hR; simp [g216, hs.len, e1, e2, -List.any_eq_true]; simpa using hR

theorem GoodPlacesS_eq {h : Heap} {v : V} {xs : List Pl} (hs : Sl h v xs) : call p 217 [v] h = some (.bool (goodP xs), h) := by
  refine go_eq (fn := g217) rfl rfl fun R hR => ?_
  simp [g217, hs.len]
  refine Wc_upM (M := [2, 4, 7, 8, 9, 10, 11, 12, 13, 14, 15, 16, 17, 18, 19, 20, 21, 22, 23, 24, 25, 26, 27, 28, 29, 30, 31, 32, 33, 34, 35, 36, 37, 38]) rfl xs.length (fun i s => s.σ 7 = .v (vi i) ∧ s.h = h ∧ ∀ x ∈ xs.take i, okPl x = true) 0 (by simp) fun i s ⟨g7, gh, hall⟩ hM J hJ => ?_
  by_cases hn : i < xs.length
  · have bad : okPl xs[i] = false → R (.bool false) h := fun hb => by
      have : goodP xs = false := by
        simp only [goodP, Bool.and_eq_false_iff]
        exact .inr (List.all_eq_false.2 ⟨xs[i], by simp, by simp [hb]⟩)
      rw [this] at hR; exact hR
    have nxt : okPl xs[i] = true → ∀ x ∈ xs.take (i + 1), okPl x = true := fun hb => (all_take_succ hn).2 ⟨hall, hb⟩
    have e0 : okPl xs[i] = (decide (0 ≤ xs[i].prom ∧ xs[i].prom ≤ 40) && decide (0 ≤ xs[i].taken ∧ xs[i].taken ≤ xs[i].prom) && (decide (xs[i].taken = 0) == decide (xs[i].word = 0)) && decide (0 ≤ xs[i].word ∧ xs[i].word ≤ 99)) := by
      rw [Bool.eq_iff_iff]
      by_cases h2 : xs[i].taken = 0 <;> by_cases h3 : xs[i].word = 0 <;> simp [okPl, h2, h3] <;> omega
    rw [e0] at bad nxt
    clear e0
    have lp := hs.loadP i hn
    generalize xs[i] = y at *
    by_cases h1 : 0 ≤ y.prom ∧ y.prom ≤ 40
    · by_cases h4 : 0 ≤ y.taken ∧ y.taken ≤ y.prom
      · by_cases h5 : (decide (y.taken = 0) == decide (y.word = 0)) = true
        · by_cases h6 : 0 ≤ y.word ∧ y.word ≤ 99
          · have h5' : decide (y.taken = 0) = decide (y.word = 0) := by simpa using h5
            simp [g217_0, hM, g7, gh, hn, hs.idx, lp, upd, h1, h4, h5', h6, hs.step hn, -Bool.decide_and, -decide_eq_decide]
            exact hJ _ hn ⟨by simp, rfl, nxt (by simp [h1, h4, h5', h6, -Bool.decide_and, -decide_eq_decide])⟩
          · have h5' : decide (y.taken = 0) = decide (y.word = 0) := by simpa using h5
            simp [g217_0, hM, g7, gh, hn, hs.idx, lp, upd, h1, h4, h5', h6, hs.step hn, -Bool.decide_and, -decide_eq_decide]
            exact bad (by simp [h6, -Bool.decide_and])
        · have h5' : (decide (y.taken = 0) == decide (y.word = 0)) = false := by simpa using h5
          have h5'' : ¬ decide (y.taken = 0) = decide (y.word = 0) := by simpa using h5'
          simp [g217_0, hM, g7, gh, hn, hs.idx, lp, upd, h1, h4, h5', h5'', hs.step hn, -Bool.decide_and, -decide_eq_decide]
          exact bad (by simp [h5', -Bool.decide_and])
      · simp [g217_0, hM, g7, gh, hn, hs.idx, lp, upd, h1, h4, hs.step hn, -Bool.decide_and]
        exact bad (by simp [h4, -Bool.decide_and])
    · simp [g217_0, hM, g7, gh, hn, hs.idx, lp, upd, h1, hs.step hn, -Bool.decide_and]
      exact bad (by simp [h1, -Bool.decide_and])
  · rw [List.take_of_length_le (by omega)] at hall
    have : xs.all okPl = true := List.all_eq_true.2 hall
    simp [g217_0, hM, g7, gh, hn, hs.len, l11Places_eq]
    simpa [goodP, this] using hR

theorem samePlaces_same {h : Heap} {v w : V} {xs : List Pl} (hs : Sl h v xs) (ht : Sl h w xs) : call p 215 [v, w] h = some (.bool true, h) := by
  refine go_eq (fn := g215) rfl rfl fun R hR => ?_
  simp [g215, hs.len, ht.len]
  refine Wc_upM (M := [4, 5, 13, 14, 15, 16, 17, 18, 19, 20, 21, 22, 23, 24, 25]) rfl xs.length (fun i s => s.σ 13 = .v (vi i) ∧ s.h = h) 0 (by simp) fun i s ⟨g13, gh⟩ hM J hJ => ?_
  by_cases hn : i < xs.length
  · simp [g215_0, hM, g13, gh, hn, hs.idx, ht.idx, hs.loadP, ht.loadP, eqCells, hs.step hn]
    exact hJ _ hn ⟨by simp, rfl⟩
  · simp [g215_0, hM, g13, gh, hn]
    exact hR

theorem clonePl_ok {h : Heap} {v : V} {xs : List Pl} (hs : Sl h v xs) (hl : xs.length ≤ 2 ^ 20) : ∃ r h', call p 393 [v] h = some (r, h') ∧ ∃ F, SdF h' r xs F ∧ Fresh h.length h' F ∧ Keeps h h' ∧ h.length ≤ h'.length := by
  refine go (fn := g393) rfl rfl fun R hR => ?_
  obtain ⟨e1, r, h', e2, F, q1, q2, q3, q4⟩ := appNew hs hl (k := 3) (bytes := 24) rfl (by decide)
  have hlen := hs.len
  rcases hs with ⟨_, ⟨rfl, rfl⟩ | ⟨b, off, cap, rfl, _⟩⟩
  · simp [g393]
    exact hR _ _ ⟨[], SdF.nil, Fresh.nil, Keeps.refl _, Nat.le_refl _⟩
  · simp [g393, fillL, e1, e2]
    exact hR _ _ ⟨F, q1, q2, q3, q4⟩
end GL

namespace GL
open Go

def zP : Pl := ⟨0, 0, 0⟩
def ask1 (no : Int) (st : List Pl × Nat × Int × Int) (k : Int) : List Pl × Nat × Int × Int :=
  if no ≤ (st.1.getD k.toNat zP).prom then st else
    (st.1.set k.toNat ⟨no, (st.1.getD k.toNat zP).taken, (st.1.getD k.toNat zP).word⟩, st.2.1 + 1, if st.2.2.1 < (st.1.getD k.toNat zP).taken then ((st.1.getD k.toNat zP).taken, (st.1.getD k.toNat zP).word) else st.2.2)
def askR (l : List Pl) (no : Int) (who : List Int) : List Pl × Nat × Int × Int := who.foldl (ask1 no) (l, 0, 0, 0)
def take1 (no word : Int) (st : List Pl × List Int) (k : Int) : List Pl × List Int :=
  if (st.1.getD k.toNat zP).prom ≤ no then (st.1.set k.toNat ⟨no, no, word⟩, st.2 ++ [k]) else st
def takeR (l : List Pl) (no word : Int) (who : List Int) : List Pl × List Int := who.foldl (take1 no word) (l, [])

theorem askR_snoc (l : List Pl) (no : Int) {who : List Int} {i : Nat} (hi : i < who.length) : askR l no (who.take (i + 1)) = ask1 no (askR l no (who.take i)) who[i] := by
  rw [List.take_succ_eq_append_getElem hi, askR, List.foldl_append]; rfl
theorem takeR_snoc (l : List Pl) (no word : Int) {who : List Int} {i : Nat} (hi : i < who.length) : takeR l no word (who.take (i + 1)) = take1 no word (takeR l no word (who.take i)) who[i] := by
  rw [List.take_succ_eq_append_getElem hi, takeR, List.foldl_append]; rfl
theorem ask1_len (no : Int) (st : List Pl × Nat × Int × Int) (k : Int) : (ask1 no st k).1.length = st.1.length := by unfold ask1; split <;> simp
theorem take1_len (no word : Int) (st : List Pl × List Int) (k : Int) : (take1 no word st k).1.length = st.1.length := by unfold take1; split <;> simp
theorem askR_len (l : List Pl) (no : Int) (who : List Int) : (askR l no who).1.length = l.length := by
  have : ∀ (who : List Int) (st : List Pl × Nat × Int × Int), (who.foldl (ask1 no) st).1.length = st.1.length := by
    intro who; induction who with
    | nil => intro st; rfl
    | cons k ks ih => intro st; rw [List.foldl_cons, ih, ask1_len]
  exact this who _
theorem takeR_len (l : List Pl) (no word : Int) (who : List Int) : (takeR l no word who).1.length = l.length := by
  have : ∀ (who : List Int) (st : List Pl × List Int), (who.foldl (take1 no word) st).1.length = st.1.length := by
    intro who; induction who with
    | nil => intro st; rfl
    | cons k ks ih => intro st; rw [List.foldl_cons, ih, take1_len]
  exact this who _
/-- who was not yet asked stands as it stood -/
theorem askR_rest (l : List Pl) (no : Int) {who : List Int} (h0 : ∀ k ∈ who, 0 ≤ k) (hr : who.Pairwise (· < ·)) {i : Nat} (hi : i ≤ who.length) (j : Nat) (hj : ∀ k ∈ who.take i, k < j) : (askR l no (who.take i)).1[j]? = l[j]? := by
  induction i with
  | zero => simp [askR]
  | succ i ih =>
    have hil : i < who.length := by omega
    have ht := List.take_succ_eq_append_getElem hil
    have hlt : who[i] < j := hj _ (by rw [ht]; exact List.mem_append_right _ (List.mem_singleton.2 rfl))
    have hge := h0 who[i] (List.getElem_mem _)
    rw [askR_snoc l no hil]
    have := ih (by omega) fun k hk => hj k (by rw [ht]; exact List.mem_append_left _ hk)
    unfold ask1
    split
    · exact this
    · rw [List.getElem?_set_ne (by omega)]; exact this
theorem takeR_rest (l : List Pl) (no word : Int) {who : List Int} (h0 : ∀ k ∈ who, 0 ≤ k) (hr : who.Pairwise (· < ·)) {i : Nat} (hi : i ≤ who.length) (j : Nat) (hj : ∀ k ∈ who.take i, k < j) : (takeR l no word (who.take i)).1[j]? = l[j]? := by
  induction i with
  | zero => simp [takeR]
  | succ i ih =>
    have hil : i < who.length := by omega
    have ht := List.take_succ_eq_append_getElem hil
    have hlt : who[i] < j := hj _ (by rw [ht]; exact List.mem_append_right _ (List.mem_singleton.2 rfl))
    have hge := h0 who[i] (List.getElem_mem _)
    rw [takeR_snoc l no word hil]
    have := ih (by omega) fun k hk => hj k (by rw [ht]; exact List.mem_append_left _ hk)
    unfold take1
    split
    · rw [List.getElem?_set_ne (by omega)]; exact this
    · exact this
theorem ris_take {who : List Int} (hr : who.Pairwise (· < ·)) {i : Nat} (hi : i < who.length) : ∀ k ∈ who.take i, k < who[i] := fun k hk => by
  obtain ⟨j, hj, rfl⟩ := List.getElem_of_mem hk
  rw [List.length_take] at hj
  rw [List.getElem_take]
  exact (List.pairwise_iff_getElem.1 hr) j i (by omega) hi (by omega)
theorem ask1_at (no : Int) (st : List Pl × Nat × Int × Int) {k : Nat} (hk : k < st.1.length) : ask1 no st k = if no ≤ st.1[k].prom then st else (st.1.set k ⟨no, st.1[k].taken, st.1[k].word⟩, st.2.1 + 1, if st.2.2.1 < st.1[k].taken then (st.1[k].taken, st.1[k].word) else st.2.2) := by
  unfold ask1
  have e : st.1.getD (k : Int).toNat zP = st.1[k] := by simp [hk]
  rw [e]; rfl
theorem take1_at (no word : Int) (st : List Pl × List Int) {k : Nat} (hk : k < st.1.length) : take1 no word st k = if st.1[k].prom ≤ no then (st.1.set k ⟨no, no, word⟩, st.2 ++ [(k : Int)]) else st := by
  unfold take1
  have e : st.1.getD (k : Int).toNat zP = st.1[k] := by simp [hk]
  rw [e]; rfl
theorem askR_n (l : List Pl) (no : Int) (who : List Int) : (askR l no who).2.1 ≤ who.length := by
  have : ∀ (who : List Int) (st : List Pl × Nat × Int × Int), (who.foldl (ask1 no) st).2.1 ≤ st.2.1 + who.length := by
    intro who; induction who with
    | nil => intro st; exact Nat.le_refl _
    | cons k ks ih =>
      intro st; rw [List.foldl_cons, List.length_cons]
      have := ih (ask1 no st k)
      have h1 : (ask1 no st k).2.1 ≤ st.2.1 + 1 := by unfold ask1; split <;> simp
      omega
  have := this who (l, 0, 0, 0)
  simp only [Nat.zero_add] at this; exact this

theorem askPlaces_ok {h : Heap} {v w : V} {l : List Pl} {who : List Int} (hs : Sl h v l) (hw : Sl h w who) (hl : l.length ≤ 2 ^ 20) (no : Int) (h0 : ∀ k ∈ who, 0 ≤ k ∧ k < l.length) (hr : who.Pairwise (· < ·)) :
    ∃ r h', call p 315 [v, vi no, w] h = some (r, h') ∧ ∃ o F, r = .tup [o, vi (if (askR l no who).2.1 < l.length / 2 + 1 then 0 else (askR l no who).2.2.2), .bool (decide (l.length / 2 + 1 ≤ (askR l no who).2.1))] ∧ SdF h' o (askR l no who).1 F ∧ Fresh h.length h' F ∧ Keeps h h' ∧ h.length ≤ h'.length := by
  refine go (fn := g315) rfl rfl fun R hR => ?_
  obtain ⟨o, h1, e1, F, c1, f1, k1, l1⟩ := clonePl_ok hs hl
  have hw1 := hw.keeps k1
  have hs1 := hs.keeps k1
  simp only [g315]
  simp [e1, upd, takeB, fillL, hw.len, hs.len]
  refine Wc_upM (M := [10, 13, 19, 20, 21, 22, 23, 24, 25, 26, 27, 28, 29, 30, 31, 32, 33, 34, 35, 36, 37, 38, 39, 40, 41, 42, 43, 44, 45, 46, 47, 48, 49]) rfl who.length (fun i s => i ≤ who.length ∧ s.σ 19 = .v (vi i) ∧ s.σ 10 = .v (vi (askR l no (who.take i)).2.1) ∧ (∃ pr, s.L 11 = (1, [vi pr, vi (askR l no (who.take i)).2.2.1, vi (askR l no (who.take i)).2.2.2])) ∧ SdF s.h o (askR l no (who.take i)).1 F ∧ Fresh h.length s.h F ∧ Keeps h s.h ∧ h.length ≤ s.h.length) 0
    ⟨by omega, by simp, by simp [askR], ⟨0, by simp [upd, askR]⟩, by simpa [askR] using c1, f1, k1, l1⟩ fun i s ⟨gi, g19, g10, ⟨pr, gL⟩, ho, fr, hk, hlen⟩ hM J hJ => ?_
  by_cases hn : i < who.length
  · have hsi := hs.keeps hk
    have hwi := hw.keeps hk
    obtain ⟨b0, b1⟩ := h0 who[i] (List.getElem_mem hn)
    obtain ⟨k, hkk⟩ := Int.eq_ofNat_of_zero_le b0
    have hkl : k < l.length := by omega
    have lw := hwi.loadI i hn
    rw [hkk] at lw
    have hll := askR_len l no (who.take i)
    have hko : k < (askR l no (who.take i)).1.length := by rw [hll]; exact hkl
    have hsame : (askR l no (who.take i)).1[k] = l[k] := by
      have := askR_rest l no (fun k hk => (h0 k hk).1) hr gi k (fun j hj => by have := ris_take hr hn j hj; omega)
      rw [List.getElem?_eq_getElem hko, List.getElem?_eq_getElem hkl] at this
      injection this
    have hst := askR_snoc l no hn
    rw [hkk, ask1_at no _ hko, hsame] at hst
    have hcnt := askR_n l no (who.take i)
    simp only [List.length_take] at hcnt
    have wi := hs.bd
    have wb := hw.bd
    by_cases hp : no ≤ l[k].prom
    · rw [if_pos hp] at hst
      simp [g315_0, hM, g19, hn, hwi.idx, lw, hsi.idx 3 .i64 k hkl, hsi.loadP0 k hkl, hp, hwi.step hn]
      exact hJ _ hn ⟨hn, by simp, by simp [hst, g10], ⟨pr, by rw [hst]; exact gL⟩, by rw [hst]; exact ho, fr, hk, hlen⟩
    · rw [if_neg hp] at hst
      obtain ⟨h2, e2, s2, k2, l2, o2⟩ := ho.putF (fr.own _ (ho.bIn hko)) hko (x' := ⟨no, l[k].taken, l[k].word⟩) (o := 0) (ys := [vi no]) (by rw [hsame]; simp [Flat.cells, lay])
      simp only [Nat.add_zero] at e2
      have e2' : wrH s.h (bOf o) (oOf o + k * 3) [vi no] = some h2 := e2
      have hbo := fr.ge _ (ho.bIn hko)
      have hk2 : Keeps h h2 := Keeps.far (n := h.length) hk k2 (Nat.le_refl _) fun b hb e => by omega
      have hs2 := hs.keeps hk2
      have fr2 : Fresh h.length h2 F := ⟨fr.nodup, fr.ge, fun b hb => o2 b (fr.own b hb)⟩
      have w1 : IntKind.i64.wrap (((askR l no (who.take i)).2.1 : Int) + 1) = ((askR l no (who.take i)).2.1 + 1 : Nat) := by rw [IntWalk.i64_in] <;> omega
      by_cases ht : (askR l no (who.take i)).2.2.1 < l[k].taken
      · rw [if_pos ht] at hst
        simp [g315_0, hM, g19, g10, gL, upd, hn, hwi.idx, lw, hsi.idx 3 .i64 k hkl, hsi.loadP0 k hkl, hp, ho.idx 3 .i64 k hko, e2', w1, hs2.loadP1 k hkl, hs2.loadP k hkl, ht, hwi.step hn, -Int.natCast_add]
        exact hJ _ hn ⟨hn, by simp, by simp [hst], ⟨l[k].prom, by simp [hst]⟩, by rw [hst]; exact s2, fr2, hk2, by show h.length ≤ h2.length; omega⟩
      · rw [if_neg ht] at hst
        simp [g315_0, hM, g19, g10, gL, upd, hn, hwi.idx, lw, hsi.idx 3 .i64 k hkl, hsi.loadP0 k hkl, hp, ho.idx 3 .i64 k hko, e2', w1, hs2.loadP1 k hkl, ht, hwi.step hn, -Int.natCast_add]
        exact hJ _ hn ⟨hn, by simp, by simp [hst], ⟨pr, by rw [hst]; exact gL⟩, by rw [hst]; exact s2, fr2, hk2, by show h.length ≤ h2.length; omega⟩
  · rw [List.take_of_length_le (by omega)] at g10 gL ho
    have es := slow_eq l.length (by omega) s.h
    by_cases hc : (askR l no who).2.1 < l.length / 2 + 1
    · have hR2 := hR (.tup [o, vi 0, .bool false]) s.h ⟨o, F, by rw [if_pos hc, decide_eq_false (by omega)], ho, fr, hk, hlen⟩
      have hc' : ((askR l no who).2.1 : Int) < (l.length / 2 + 1 : Nat) := by omega
      simp [g315_0, hM, g19, hn, g10, es, hc', hs.len, -Int.natCast_add]
      exact hR2
    · have hR2 := hR (.tup [o, vi (askR l no who).2.2.2, .bool true]) s.h ⟨o, F, by rw [if_neg hc, decide_eq_true (by omega)], ho, fr, hk, hlen⟩
      have hc' : ¬ ((askR l no who).2.1 : Int) < (l.length / 2 + 1 : Nat) := by omega
      simp [g315_0, hM, g19, hn, g10, gL, es, hc', hs.len, upd, -Int.natCast_add]
      exact hR2
end GL

namespace GL
open Go

theorem l12Ask_ok {h : Heap} {v w : V} {l : List Pl} {who : List Int} {F : List Nat} {lo : Nat} (hs : SdF h v l F) (fr : Fresh lo h F) (hw : Sl h w who) (hne : who = [] ∨ bOf w ≠ bOf v) (hl : l.length ≤ 2 ^ 20) (no : Int) (h0 : ∀ k ∈ who, 0 ≤ k ∧ k < l.length) :
    ∃ r h', call p 317 [v, vi no, w] h = some (r, h') ∧ r = .tup [vi (if (askR l no who).2.1 < l.length / 2 + 1 then 0 else (askR l no who).2.2.2), .bool (decide (l.length / 2 + 1 ≤ (askR l no who).2.1))] ∧ SdF h' v (askR l no who).1 F ∧ Fresh lo h' F ∧ KeepsP (fun b => b ≠ bOf v) h h' ∧ h'.length = h.length := by
  refine go (fn := g317) rfl rfl fun R hR => ?_
  simp only [g317]
  simp [upd, takeB, fillL, hw.len, hs.len]
  refine Wc_upM (M := [8, 11, 14, 15, 16, 17, 18, 19, 20, 21, 22, 23, 24, 25, 26, 27, 28, 29, 30, 31, 32, 33, 34, 35, 36, 37, 38, 39, 40, 41, 42, 43, 44]) rfl who.length (fun i s => i ≤ who.length ∧ s.σ 14 = .v (vi i) ∧ s.σ 8 = .v (vi (askR l no (who.take i)).2.1) ∧ (∃ pr, s.L 9 = (1, [vi pr, vi (askR l no (who.take i)).2.2.1, vi (askR l no (who.take i)).2.2.2])) ∧ SdF s.h v (askR l no (who.take i)).1 F ∧ Fresh lo s.h F ∧ KeepsP (fun b => b ≠ bOf v) h s.h ∧ s.h.length = h.length) 0
    ⟨by omega, by simp, by simp [askR], ⟨0, by simp [upd, askR]⟩, by simpa [askR] using hs, fr, KeepsP.refl _ _, rfl⟩ fun i s ⟨gi, g14, g8, ⟨pr, gL⟩, ho, fr, hk, hlen⟩ hM J hJ => ?_
  by_cases hn : i < who.length
  · have hwi : Sl s.h w who := hw.but hne hk
    obtain ⟨b0, b1⟩ := h0 who[i] (List.getElem_mem hn)
    obtain ⟨k, hkk⟩ := Int.eq_ofNat_of_zero_le b0
    have hkl : k < l.length := by omega
    have lw := hwi.loadI i hn
    rw [hkk] at lw
    have hll := askR_len l no (who.take i)
    have hko : k < (askR l no (who.take i)).1.length := by rw [hll]; exact hkl
    have hst := askR_snoc l no hn
    rw [hkk, ask1_at no _ hko] at hst
    have hcnt := askR_n l no (who.take i)
    simp only [List.length_take] at hcnt
    have wi := hs.bd
    have wb := hw.bd
    by_cases hp : no ≤ (askR l no (who.take i)).1[k].prom
    · rw [if_pos hp] at hst
      simp [g317_0, hM, g14, hn, hwi.idx, lw, ho.idx 3 .i64 k hko, ho.sl.loadP0 k hko, hp, hwi.step hn]
      exact hJ _ hn ⟨hn, by simp, by simp [hst, g8], ⟨pr, by rw [hst]; exact gL⟩, by rw [hst]; exact ho, fr, hk, hlen⟩
    · rw [if_neg hp] at hst
      obtain ⟨h2, e2, s2, k2, l2, o2⟩ := ho.putF (fr.own _ (ho.bIn hko)) hko (x' := ⟨no, (askR l no (who.take i)).1[k].taken, (askR l no (who.take i)).1[k].word⟩) (o := 0) (ys := [vi no]) (by simp [Flat.cells, lay])
      simp only [Nat.add_zero] at e2
      have e2' : wrH s.h (bOf v) (oOf v + k * 3) [vi no] = some h2 := e2
      have fr2 : Fresh lo h2 F := ⟨fr.nodup, fr.ge, fun b hb => o2 b (fr.own b hb)⟩
      have w1 : IntKind.i64.wrap (((askR l no (who.take i)).2.1 : Int) + 1) = ((askR l no (who.take i)).2.1 + 1 : Nat) := by rw [IntWalk.i64_in] <;> omega
      have hk2 : k < ((askR l no (who.take i)).1.set k ⟨no, (askR l no (who.take i)).1[k].taken, (askR l no (who.take i)).1[k].word⟩).length := by simpa using hko
      have v1 := s2.sl.loadP1 k hk2
      have v2 := s2.sl.loadP k hk2
      rw [List.getElem_set_self] at v1 v2
      by_cases ht : (askR l no (who.take i)).2.2.1 < (askR l no (who.take i)).1[k].taken
      · rw [if_pos ht] at hst
        simp [g317_0, hM, g14, g8, gL, upd, hn, hwi.idx, lw, ho.idx 3 .i64 k hko, ho.sl.loadP0 k hko, hp, e2', w1, v1, v2, ht, hwi.step hn, -Int.natCast_add]
        exact hJ _ hn ⟨hn, by simp, by simp [hst], ⟨no, by simp [hst]⟩, by rw [hst]; exact s2, fr2, hk.trans k2, by show h2.length = h.length; omega⟩
      · rw [if_neg ht] at hst
        simp [g317_0, hM, g14, g8, gL, upd, hn, hwi.idx, lw, ho.idx 3 .i64 k hko, ho.sl.loadP0 k hko, hp, e2', w1, v1, ht, hwi.step hn, -Int.natCast_add]
        exact hJ _ hn ⟨hn, by simp, by simp [hst], ⟨pr, by rw [hst]; exact gL⟩, by rw [hst]; exact s2, fr2, hk.trans k2, by show h2.length = h.length; omega⟩
  · rw [List.take_of_length_le (by omega)] at g8 gL ho
    have es := l11Slow_eq l.length (by omega) s.h
    by_cases hc : (askR l no who).2.1 < l.length / 2 + 1
    · have hR2 := hR (.tup [vi 0, .bool false]) s.h ⟨by rw [if_pos hc, decide_eq_false (by omega)], ho, fr, hk, hlen⟩
      have hc' : ((askR l no who).2.1 : Int) < (l.length / 2 + 1 : Nat) := by omega
      simp [g317_0, hM, g14, hn, g8, es, hc', hs.len, -Int.natCast_add]
      exact hR2
    · have hR2 := hR (.tup [vi (askR l no who).2.2.2, .bool true]) s.h ⟨by rw [if_neg hc, decide_eq_true (by omega)], ho, fr, hk, hlen⟩
      have hc' : ¬ ((askR l no who).2.1 : Int) < (l.length / 2 + 1 : Nat) := by omega
      simp [g317_0, hM, g14, hn, g8, gL, es, hc', hs.len, upd, -Int.natCast_add]
      exact hR2

theorem takeR_n (l : List Pl) (no word : Int) (who : List Int) : (takeR l no word who).2.length ≤ who.length := by
  have : ∀ (who : List Int) (st : List Pl × List Int), (who.foldl (take1 no word) st).2.length ≤ st.2.length + who.length := by
    intro who; induction who with
    | nil => intro st; exact Nat.le_refl _
    | cons k ks ih =>
      intro st; rw [List.foldl_cons, List.length_cons]
      have := ih (take1 no word st k)
      have h1 : (take1 no word st k).2.length ≤ st.2.length + 1 := by unfold take1; split <;> simp
      omega
  have := this who (l, [])
  simp only [List.length_nil, Nat.zero_add] at this; exact this

theorem takeWord_ok {h : Heap} {v w : V} {l : List Pl} {who : List Int} (hs : Sl h v l) (hw : Sl h w who) (hl : l.length ≤ 2 ^ 20) (hwl : who.length ≤ 2 ^ 20) (no word : Int) (h0 : ∀ k ∈ who, 0 ≤ k ∧ k < l.length) (hr : who.Pairwise (· < ·)) :
    ∃ r h', call p 324 [v, vi no, vi word, w] h = some (r, h') ∧ ∃ o t F, r = .tup [o, t] ∧ SdF h' o (takeR l no word who).1 F ∧ Fresh h.length h' F ∧ Sl h' t (takeR l no word who).2 ∧ Keeps h h' ∧ h.length ≤ h'.length := by
  refine go (fn := g324) rfl rfl fun R hR => ?_
  obtain ⟨o, h1, e1, F, c1, f1, k1, l1⟩ := clonePl_ok hs hl
  have ltF : ∀ b ∈ F, b < h1.length := fun b hb => by obtain ⟨_, h1, _⟩ := c1.lt hb; exact get_lt h1
  have ka : Keeps h1 (h1 ++ [⟨.own, []⟩]) := Keeps.append _ _
  simp only [g324]
  simp [e1, upd, takeB, fillL, hw.len, hs.len]
  refine Wc_upM (M := [11, 13, 19, 20, 21, 22, 23, 24, 25, 26, 27, 28, 29, 30, 31, 32, 33, 34, 35, 36, 37, 38, 39, 40, 41]) rfl who.length (fun i s => i ≤ who.length ∧ s.σ 19 = .v (vi i) ∧ (∃ t, s.σ 11 = .v t ∧ Out h1.length s.h t (takeR l no word (who.take i)).2) ∧ SdF s.h o (takeR l no word (who.take i)).1 F ∧ Fresh h.length s.h F ∧ Keeps h s.h ∧ h1.length ≤ s.h.length) 0
    ⟨by omega, by simp, ⟨_, by simp; rfl, by simpa [takeR] using Out.empty (Nat.le_refl _) (by simp)⟩, by simpa [takeR] using c1.keep ka, f1.keeps (ka.p _), k1.trans ka, by simp⟩ fun i s ⟨gi, g19, ⟨t, g11, hout⟩, ho, fr, hk, hlen⟩ hM J hJ => ?_
  by_cases hn : i < who.length
  · have hsi := hs.keeps hk
    have hwi := hw.keeps hk
    obtain ⟨b0, b1⟩ := h0 who[i] (List.getElem_mem hn)
    obtain ⟨k, hkk⟩ := Int.eq_ofNat_of_zero_le b0
    have hkl : k < l.length := by omega
    have lw := hwi.loadI i hn
    rw [hkk] at lw
    have hll := takeR_len l no word (who.take i)
    have hko : k < (takeR l no word (who.take i)).1.length := by rw [hll]; exact hkl
    have hsame : (takeR l no word (who.take i)).1[k] = l[k] := by
      have := takeR_rest l no word (fun k hk => (h0 k hk).1) hr gi k (fun j hj => by have := ris_take hr hn j hj; omega)
      rw [List.getElem?_eq_getElem hko, List.getElem?_eq_getElem hkl] at this
      injection this
    have hst := takeR_snoc l no word hn
    rw [hkk, take1_at no word _ hko, hsame] at hst
    have hcnt := takeR_n l no word (who.take i)
    simp only [List.length_take] at hcnt
    by_cases hp : l[k].prom ≤ no
    · rw [if_pos hp] at hst
      obtain ⟨h2, e2, s2, k2, l2, o2⟩ := ho.putF (fr.own _ (ho.bIn hko)) hko (x' := ⟨no, no, word⟩) (o := 0) (ys := [vi no, vi no, vi word]) (by simp [Flat.cells, lay])
      simp only [Nat.add_zero] at e2
      have e2' : wrH s.h (bOf o) (oOf o + k * 3) [vi no, vi no, vi word] = some h2 := e2
      have hbo := fr.ge _ (ho.bIn hko)
      have hbl := ltF _ (ho.bIn hko)
      have hk2 : Keeps h h2 := Keeps.far (n := h.length) hk k2 (Nat.le_refl _) fun b hb e => by omega
      have fr2 : Fresh h.length h2 F := ⟨fr.nodup, fr.ge, fun b hb => o2 b (fr.own b hb)⟩
      have out2 : Out h1.length h2 t _ := hout.keeps k2 (fun b hb e => by have := (hout.ge hb).1; omega) (by omega)
      obtain ⟨t', h3, e3, out3, k3, l3⟩ := out2.one (k : Int) (by omega)
      have nb : ∀ b ∈ F, ¬ vB t b := fun b hb hv => by have := (out2.ge hv).1; have := ltF b hb; omega
      have s3 := s2.keeps (k3.mono nb)
      have fr3 := fr2.keeps (k3.mono nb)
      have hk3 : Keeps h h3 := out2.far hk2 k3 (by omega)
      simp [g324_0, hM, g19, g11, hn, hwi.idx, lw, hsi.idx 3 .i64 k hkl, hsi.loadP0 k hkl, hp, ho.idx 3 .i64 k hko, takeB, e2', fillL, rdS_last, e3, hwi.step hn]
      exact hJ _ hn ⟨hn, by simp, ⟨t', by simp, by rw [hst]; exact out3⟩, by rw [hst]; exact s3, fr3, hk3, by show h1.length ≤ h3.length; omega⟩
    · rw [if_neg hp] at hst
      simp [g324_0, hM, g19, hn, hwi.idx, lw, hsi.idx 3 .i64 k hkl, hsi.loadP0 k hkl, hp, hwi.step hn]
      exact hJ _ hn ⟨hn, by simp, ⟨t, by simp [g11], by rw [hst]; exact hout⟩, by rw [hst]; exact ho, fr, hk, hlen⟩
  · rw [List.take_of_length_le (by omega)] at hout ho
    simp [g324_0, hM, g19, g11, hn]
    exact hR _ _ ⟨o, t, F, rfl, ho, fr, hout.sl, hk, by omega⟩

theorem l12Take_ok {h : Heap} {v w : V} {l : List Pl} {who : List Int} {F : List Nat} {lo : Nat} (hs : SdF h v l F) (fr : Fresh lo h F) (hw : Sl h w who) (hne : who = [] ∨ bOf w ≠ bOf v) (hl : l.length ≤ 2 ^ 20) (hwl : who.length ≤ 2 ^ 20) (no word : Int) (h0 : ∀ k ∈ who, 0 ≤ k ∧ k < l.length) :
    ∃ t h', call p 325 [v, vi no, vi word, w] h = some (t, h') ∧ SdF h' v (takeR l no word who).1 F ∧ Fresh lo h' F ∧ Sl h' t (takeR l no word who).2 ∧ KeepsP (fun b => b ≠ bOf v) h h' ∧ h.length ≤ h'.length := by
  refine go (fn := g325) rfl rfl fun R hR => ?_
  have ltF : ∀ b ∈ F, b < h.length := fun b hb => by obtain ⟨_, h1, _⟩ := hs.lt hb; exact get_lt h1
  simp only [g325]
  simp [upd, takeB, fillL, hw.len, hs.len]
  refine Wc_upM (M := [9, 11, 14, 15, 16, 17, 18, 19, 20, 21, 22, 23, 24, 25, 26, 27, 28, 29, 30, 31, 32, 33, 34, 35, 36]) rfl who.length (fun i s => i ≤ who.length ∧ s.σ 14 = .v (vi i) ∧ (∃ t, s.σ 9 = .v t ∧ Out h.length s.h t (takeR l no word (who.take i)).2) ∧ SdF s.h v (takeR l no word (who.take i)).1 F ∧ Fresh lo s.h F ∧ KeepsP (fun b => b ≠ bOf v) h s.h ∧ h.length ≤ s.h.length) 0
    ⟨by omega, by simp, ⟨.nils, by simp, by simpa [takeR] using Out.nil (Nat.le_refl _)⟩, by simpa [takeR] using hs, fr, KeepsP.refl _ _, by simp⟩ fun i s ⟨gi, g14, ⟨t, g9, hout⟩, ho, fr, hk, hlen⟩ hM J hJ => ?_
  by_cases hn : i < who.length
  · have hwi : Sl s.h w who := hw.but hne hk
    obtain ⟨b0, b1⟩ := h0 who[i] (List.getElem_mem hn)
    obtain ⟨k, hkk⟩ := Int.eq_ofNat_of_zero_le b0
    have hkl : k < l.length := by omega
    have lw := hwi.loadI i hn
    rw [hkk] at lw
    have hll := takeR_len l no word (who.take i)
    have hko : k < (takeR l no word (who.take i)).1.length := by rw [hll]; exact hkl
    have hst := takeR_snoc l no word hn
    rw [hkk, take1_at no word _ hko] at hst
    have hcnt := takeR_n l no word (who.take i)
    simp only [List.length_take] at hcnt
    by_cases hp : (takeR l no word (who.take i)).1[k].prom ≤ no
    · rw [if_pos hp] at hst
      obtain ⟨h2, e2, s2, k2, l2, o2⟩ := ho.putF (fr.own _ (ho.bIn hko)) hko (x' := ⟨no, no, word⟩) (o := 0) (ys := [vi no, vi no, vi word]) (by simp [Flat.cells, lay])
      simp only [Nat.add_zero] at e2
      have e2' : wrH s.h (bOf v) (oOf v + k * 3) [vi no, vi no, vi word] = some h2 := e2
      have hbl := ltF _ (ho.bIn hko)
      have fr2 : Fresh lo h2 F := ⟨fr.nodup, fr.ge, fun b hb => o2 b (fr.own b hb)⟩
      have out2 : Out h.length h2 t _ := hout.keeps k2 (fun b hb e => by have := (hout.ge hb).1; omega) (by omega)
      obtain ⟨t', h3, e3, out3, k3, l3⟩ := out2.one (k : Int) (by omega)
      have nb : ∀ b ∈ F, ¬ vB t b := fun b hb hv => by have := (out2.ge hv).1; have := ltF b hb; omega
      have s3 := s2.keeps (k3.mono nb)
      have fr3 := fr2.keeps (k3.mono nb)
      have hk3 : KeepsP (fun b => b ≠ bOf v) h h3 := fun b blk hb h4 h5 => k3 b blk (fun hv => by have := (out2.ge hv).1; have := get_lt h4; omega) ((hk.trans k2) b blk hb h4 h5) h5
      simp [g325_0, hM, g14, g9, hn, hwi.idx, lw, ho.idx 3 .i64 k hko, ho.sl.loadP0 k hko, hp, takeB, e2', fillL, rdS_last, e3, hwi.step hn]
      exact hJ _ hn ⟨hn, by simp, ⟨t', by simp, by rw [hst]; exact out3⟩, by rw [hst]; exact s3, fr3, hk3, by show h.length ≤ h3.length; omega⟩
    · rw [if_neg hp] at hst
      simp [g325_0, hM, g14, hn, hwi.idx, lw, ho.idx 3 .i64 k hko, ho.sl.loadP0 k hko, hp, hwi.step hn]
      exact hJ _ hn ⟨hn, by simp, ⟨t, by simp [g9], by rw [hst]; exact hout⟩, by rw [hst]; exact ho, fr, hk, hlen⟩
  · rw [List.take_of_length_le (by omega)] at hout ho
    simp [g325_0, hM, g14, g9, hn]
    exact hR _ _ ⟨ho, fr, hout.sl, hk, hlen⟩
end GL

namespace GL
open Go

theorem goodP_facts {l : List Pl} (h : goodP l = true) : manyB l.length = true ∧ (3 ≤ l.length ∧ l.length ≤ 9) ∧ ∀ x ∈ l, okPl x = true := by
  simp only [goodP, Bool.and_eq_true, List.all_eq_true] at h
  refine ⟨h.1, ?_, h.2⟩
  have := h.1
  simp only [manyB, Bool.and_eq_true, decide_eq_true_eq] at this
  omega
theorem risB_facts {lo hi : Int} {who : List Int} (h : risB lo hi who = true) : (∀ k ∈ who, lo ≤ k ∧ k ≤ hi) ∧ who.Pairwise (· < ·) := by
  simpa only [risB, decide_eq_true_eq] using h
theorem ris_len {n : Nat} {who : List Int} (h : risB 0 ((n : Int) - 1) who = true) : who.length ≤ n := by
  obtain ⟨h1, h2⟩ := risB_facts h
  have key : ∀ i (hi : i < who.length), (i : Int) ≤ who[i] := by
    intro i
    induction i with
    | zero => intro hi; exact (h1 _ (List.getElem_mem hi)).1
    | succ i ih =>
      intro hi
      have a := ih (by omega)
      have b := (List.pairwise_iff_getElem.1 h2) i (i + 1) (by omega) hi (by omega)
      omega
  by_cases h0 : who.length = 0
  · omega
  · have a := key (who.length - 1) (by omega)
    have b := (h1 _ (List.getElem_mem (l := who) (n := who.length - 1) (by omega))).2
    omega

end GL

namespace GL
open Go

def newP (n : Int) : List Pl := if manyB n = true then List.replicate n.toNat zP else []
theorem flats_zP (n : Nat) : flats (List.replicate n zP) = (List.replicate n [vi 0, vi 0, vi 0]).flatten := by
  induction n with
  | zero => rfl
  | succ n ih => rw [List.replicate_succ, List.replicate_succ, List.flatten_cons, ← ih]; rfl
theorem newP_lit (h : Heap) (n : Nat) (hn : n < 2 ^ 40) : ∃ F, SdF (h ++ [⟨.own, (List.replicate n [vi 0, vi 0, vi 0]).flatten⟩]) (.slice h.length 0 n (.k n)) (List.replicate n zP) F ∧ Fresh h.length (h ++ [⟨.own, (List.replicate n [vi 0, vi 0, vi 0]).flatten⟩]) F := by
  have s := Sl.lit (h := h) (List.replicate n zP) n (by simp) _ (flats_zP n).symm (.k n) (by simp; omega)
  obtain ⟨F, s, hF, hF2⟩ := s.sdF (Nat.le_refl n)
  refine ⟨F, s, s.flatF.2.1, fun b hb => ?_, fun b hb => ?_⟩
  · have := (hF b hb).1; simp [bOf] at this; omega
  · have := (hF b hb).1; simp [bOf] at this; subst this; exact ⟨_, get_last _ _⟩

theorem NewPlaces_ok (n : Int) (h : Heap) : ∃ r h', call p 224 [vi n] h = some (r, h') ∧ ∃ o F, r = .tup [o, .bool (manyB n)] ∧ SdF h' o (newP n) F ∧ Fresh h.length h' F ∧ Keeps h h' ∧ h.length ≤ h'.length := by
  refine go (fn := g224) rfl rfl fun R hR => ?_
  have e1 := isMany_eq n h
  cases hm : manyB n with
  | false => rw [hm] at e1; simp [g224, e1]; exact hR _ _ ⟨.nils, [], by rw [hm], by simpa [newP, hm] using SdF.nil, Fresh.nil, Keeps.refl _, Nat.le_refl _⟩
  | true =>
    rw [hm] at e1
    have hn : 3 ≤ n ∧ n ≤ 9 := by simp only [manyB, Bool.and_eq_true, decide_eq_true_eq] at hm; exact hm.1
    obtain ⟨k, rfl⟩ := Int.eq_ofNat_of_zero_le (by omega : 0 ≤ n)
    have c2 : (k : Int) * 24 ≤ (room : Int) := by unfold room; omega
    have c3 : (k : Int) ≤ (room : Int) := by unfold room; omega
    obtain ⟨F, s, fr⟩ := newP_lit h k (by omega)
    simp [g224, e1, c2, c3]
    exact hR _ _ ⟨_, F, by rw [hm], by rw [newP, if_pos hm]; exact s, fr, Keeps.append _ _, by simp⟩
theorem NewPlacesS_ok (n : Int) (h : Heap) : ∃ r h', call p 225 [vi n] h = some (r, h') ∧ ∃ o F, r = .tup [o, .bool (manyB n)] ∧ SdF h' o (newP n) F ∧ Fresh h.length h' F ∧ Keeps h h' ∧ h.length ≤ h'.length := by
  refine go (fn := g225) rfl rfl fun R hR => ?_
  have e1 := l11Places_eq n h
  cases hm : manyB n with
  | false => rw [hm] at e1; simp [g225, e1]; exact hR _ _ ⟨.nils, [], by rw [hm], by simpa [newP, hm] using SdF.nil, Fresh.nil, Keeps.refl _, Nat.le_refl _⟩
  | true =>
    rw [hm] at e1
    have hn : 3 ≤ n ∧ n ≤ 9 := by simp only [manyB, Bool.and_eq_true, decide_eq_true_eq] at hm; exact hm.1
    obtain ⟨k, rfl⟩ := Int.eq_ofNat_of_zero_le (by omega : 0 ≤ n)
    have c2 : (k : Int) * 24 ≤ (room : Int) := by unfold room; omega
    have c3 : (k : Int) ≤ (room : Int) := by unfold room; omega
    obtain ⟨F, s, fr⟩ := newP_lit h k (by omega)
    simp [g225, e1, c2, c3]
    exact hR _ _ ⟨_, F, by rw [hm], by rw [newP, if_pos hm]; exact s, fr, Keeps.append _ _, by simp⟩

/-- how many took the same -/
def sameN (l : List Pl) (x : Pl) : Nat := l.countP fun y => decide (y.taken = x.taken ∧ y.word = x.word)
theorem countP_snoc {α : Type} (q : α → Bool) {xs : List α} {i : Nat} (hi : i < xs.length) : (xs.take (i + 1)).countP q = (xs.take i).countP q + if q xs[i] = true then 1 else 0 := by
  rw [List.take_succ_eq_append_getElem hi, List.countP_append, List.countP_cons, List.countP_nil, Nat.zero_add]

def chosen1 (l : List Pl) (x : Pl) : Bool := decide (0 < x.taken ∧ l.length / 2 + 1 ≤ sameN l x)
def chosenO (l : List Pl) : Option Pl := if goodP l = true then l.find? (chosen1 l) else none
def chosenW (l : List Pl) : Int := match chosenO l with | some x => x.word | none => 0

theorem find_take_none {α : Type} {q : α → Bool} {xs : List α} {i : Nat} (hi : i < xs.length) (h : ∀ x ∈ xs.take i, q x = false) (hq : q xs[i] = true) : xs.find? q = some xs[i] := by
  conv => lhs; rw [← List.take_append_drop i xs, List.drop_eq_getElem_cons hi]
  rw [List.find?_append, List.find?_eq_none.2 (fun x hx => by simp [h x hx]), Option.none_or, List.find?_cons_of_pos hq]

theorem ChosenIn_eq {h : Heap} {v : V} {l : List Pl} (hs : Sl h v l) : call p 218 [v] h = some (.tup [vi (chosenW l), .bool (chosenO l).isSome], h) := by
  refine go_eq (fn := g218) rfl rfl fun R hR => ?_
  have e1 := GoodPlaces_eq hs
  cases hg : goodP l with
  | false =>
    rw [hg] at e1; simp [g218, e1]
    simpa [chosenW, chosenO, hg] using hR
  | true =>
    rw [hg] at e1
    obtain ⟨hm, hl, hok⟩ := goodP_facts hg
    simp only [g218]
    simp [hs.len, e1]
    refine Wc_upM (M := [2, 3, 5, 6, 8, 14, 15, 16, 17, 18, 19, 20, 21, 22, 23, 24, 25, 26, 27, 28, 29, 30, 31, 32, 33, 34, 35, 36, 37, 38, 39, 40, 41, 42, 43, 44, 45, 46, 47, 48, 49, 50, 51]) rfl l.length (fun i s => s.σ 14 = .v (vi i) ∧ s.h = h ∧ ∀ x ∈ l.take i, chosen1 l x = false) 0 (by simp) fun i s ⟨g14, gh, hall⟩ hM J hJ => ?_
    by_cases hn : i < l.length
    · have lp := hs.loadP i hn
      have inner : ∀ (s0 : S) (K : Ex → S → Prop) (c : Nat), s0.σ 20 = .v (vi 0) → s0.σ 6 = .v (vi 0) → s0.σ 18 = .v v → s0.σ 19 = .v (vi l.length) → s0.σ 5 = .lp 5 c 0 → s0.L 5 = (c, [vi l[i].prom, vi l[i].taken, vi l[i].word]) → s0.h = h →
          (∀ s', (∀ k, k ∉ [6, 8, 20, 21, 22, 23, 24, 25, 26, 27, 28, 29, 30, 31, 32, 33, 34, 35, 36, 37, 38, 39, 40, 41, 42, 43] → s'.σ k = s0.σ k) → s'.σ 6 = .v (vi (if 0 < l[i].taken then sameN l l[i] else 0 : Nat)) → s'.L 5 = (c, [vi l[i].prom, vi l[i].taken, vi l[i].word]) → s'.h = h → K (.exit 2) s') → Wc p (.loop g218_0) s0 K := by
        intro s0 K c g20 g6 g18 g19 g5 gL gh hK
        refine Wc_upM (M := [6, 8, 20, 21, 22, 23, 24, 25, 26, 27, 28, 29, 30, 31, 32, 33, 34, 35, 36, 37, 38, 39, 40, 41, 42, 43]) rfl l.length (fun j t => j ≤ l.length ∧ t.σ 20 = .v (vi j) ∧ t.h = h ∧ t.L 5 = (c, [vi l[i].prom, vi l[i].taken, vi l[i].word]) ∧ t.σ 6 = .v (vi (if 0 < l[i].taken then sameN (l.take j) l[i] else 0 : Nat))) 0
          ⟨Nat.zero_le _, g20, gh, gL, by simp [g6, sameN]⟩ fun j t ⟨gj, g20, th, tL, g6⟩ hM2 J2 hJ2 => ?_
        by_cases hj : j < l.length
        · have lq := hs.loadP j hj
          have hcs : sameN (l.take (j + 1)) l[i] = sameN (l.take j) l[i] + if decide (l[j].taken = l[i].taken ∧ l[j].word = l[i].word) = true then 1 else 0 := countP_snoc (fun y : Pl => decide (y.taken = l[i].taken ∧ y.word = l[i].word)) hj
          have hle : (l.take j).countP (fun y : Pl => decide (y.taken = l[i].taken ∧ y.word = l[i].word)) ≤ j := Nat.le_trans List.countP_le_length (by simp; omega)
          have w1 : IntKind.i64.wrap ((sameN (l.take j) l[i] : Int) + 1) = (sameN (l.take j) l[i] + 1 : Nat) := by rw [IntWalk.i64_in] <;> (unfold sameN; omega)
          by_cases h1 : 0 < l[i].taken
          · rw [if_pos h1] at g6
            by_cases h2 : l[j].taken = l[i].taken
            · by_cases h3 : l[j].word = l[i].word
              · rw [if_pos (by simp [h2, h3])] at hcs
                simp [g218_0, hM2, g18, g19, g20, g5, th, tL, g6, hj, hs.idx, lq, upd, h1, h2, h3, w1, hs.step hj, -Int.natCast_add]
                exact hJ2 _ hj ⟨hj, by simp, rfl, by simp [upd, tL], by simp [h1, hcs]⟩
              · rw [if_neg (by simp [h3])] at hcs
                simp [g218_0, hM2, g18, g19, g20, g5, th, tL, g6, hj, hs.idx, lq, upd, h1, h2, h3, hs.step hj, -Int.natCast_add]
                exact hJ2 _ hj ⟨hj, by simp, rfl, by simp [upd, tL], by simp [g6, h1, hcs]⟩
            · rw [if_neg (by simp [h2])] at hcs
              simp [g218_0, hM2, g18, g19, g20, g5, th, tL, g6, hj, hs.idx, lq, upd, h1, h2, hs.step hj, -Int.natCast_add]
              exact hJ2 _ hj ⟨hj, by simp, rfl, by simp [upd, tL], by simp [g6, h1, hcs]⟩
          · rw [if_neg h1] at g6
            simp [g218_0, hM2, g18, g19, g20, g5, th, tL, g6, hj, hs.idx, lq, upd, h1, hs.step hj]
            exact hJ2 _ hj ⟨hj, by simp, rfl, by simp [upd, tL], by simp [g6, h1]⟩
        · rw [List.take_of_length_le (by omega)] at g6
          simp [g218_0, hM2, g19, g20, th, hj]
          exact hK _ (fun k hk => by simp only [List.mem_cons, List.not_mem_nil, or_false, not_or] at hk; simp [upd, hk, hM2]) (by simp [g6]) tL rfl
      simp [g218_1, hM, g14, gh, hn, hs.idx, lp, upd, hs.len]
      refine inner _ _ ((s.L 5).1 + 1) (by simp) (by simp) (by simp) (by simp) (by simp) (by simp [upd]) rfl fun s' hM3 g6 gL gh => ?_
      have es := slow_eq l.length (by omega) h
      have hM4 : s'.σ 0 = .v v := by rw [hM3 0 (by decide)]; simp [hM]
      have hM5 : s'.σ 5 = .lp 5 ((s.L 5).1 + 1) 0 := by rw [hM3 5 (by decide)]; simp
      have hM6 : s'.σ 14 = .v (vi i) := by rw [hM3 14 (by decide)]; simp [g14]
      by_cases hc : chosen1 l l[i] = true
      · have hc2 := hc
        simp only [chosen1, decide_eq_true_eq] at hc2
        rw [if_pos hc2.1] at g6
        have hc3 : ((l.length / 2 + 1 : Nat) : Int) ≤ (sameN l l[i] : Int) := by omega
        simp [hM4, hM5, gh, g6, gL, hs.len, es, hc3, -Int.natCast_add]
        have hf := find_take_none hn hall hc
        simpa [chosenW, chosenO, hg, hf] using hR
      · have hc2 := hc
        simp only [chosen1, decide_eq_true_eq, not_and] at hc2
        have hc3 : ¬ ((l.length / 2 + 1 : Nat) : Int) ≤ ((if 0 < l[i].taken then sameN l l[i] else 0 : Nat) : Int) := by
          split
          · rename_i h1; have := hc2 h1; omega
          · omega
        simp [hM4, hM6, gh, g6, hs.len, es, hc3, hs.step hn, -Int.natCast_add]
        exact hJ _ hn ⟨by simp, rfl, (all_take_succ hn).2 ⟨hall, by simpa using hc⟩⟩
    · rw [List.take_of_length_le (by omega)] at hall
      have hf : l.find? (chosen1 l) = none := List.find?_eq_none.2 fun x hx => by simp [hall x hx]
      simp [g218_1, hM, g14, gh, hn]
      simpa [chosenW, chosenO, hg, hf] using hR
end GL

namespace GL
open Go

/-! groups of most places -/
theorem rise_count (P : Nat → Bool) : ∀ (n : Nat) (A : List Int), A.Pairwise (· < ·) → (∀ k ∈ A, 0 ≤ k ∧ k < n) → (∀ k ∈ A, P k.toNat = true) → A.length ≤ (List.range n).countP P
  | 0, A, _, h2, _ => by
    cases A with
    | nil => simp
    | cons k A => have := h2 k (List.mem_cons_self ..); omega
  | n + 1, A, h1, h2, h3 => by
    rw [List.range_succ, List.countP_append]
    rcases List.eq_nil_or_concat A with rfl | ⟨B, k, rfl⟩
    · simp
    · rw [List.concat_eq_append] at *
      rw [List.pairwise_append] at h1
      have hk := h2 k (by simp)
      have hB : ∀ j ∈ B, 0 ≤ j ∧ j < n := fun j hj => by
        have a := h2 j (by simp [hj])
        have b := h1.2.2 j hj k (by simp)
        omega
      have ih := rise_count P n B h1.1 hB fun j hj => h3 j (by simp [hj])
      by_cases e : k = n
      · have := h3 k (by simp)
        rw [e] at this
        simp only [Int.toNat_natCast] at this
        simp only [List.length_append, List.length_singleton, List.countP_cons, List.countP_nil, this]
        simp; omega
      · have ih2 := rise_count P n (B ++ [k]) (by rw [List.pairwise_append]; exact h1) (fun j hj => by
          rcases List.mem_append.1 hj with hj | hj
          · exact hB j hj
          · simp at hj; subst hj; omega) h3
        omega
theorem countP_range {l : List Pl} (Q : Pl → Bool) : (List.range l.length).countP (fun j => Q (l.getD j zP)) = l.countP Q := by
  have : l = (List.range l.length).map fun j => l.getD j zP := by
    refine List.ext_getElem (by simp) fun i h1 h2 => ?_
    simp [h1]
  conv => rhs; rw [this, List.countP_map]
  rfl
theorem quorum {l : List Pl} {A : List Int} (hr : A.Pairwise (· < ·)) (h0 : ∀ k ∈ A, 0 ≤ k ∧ k < l.length) (Q : Pl → Bool) (hA : l.length / 2 + 1 ≤ A.length) (hQ : l.length / 2 + 1 ≤ l.countP Q) :
    ∃ k : Nat, (k : Int) ∈ A ∧ ∃ hk : k < l.length, Q l[k] = true := by
  apply Classical.byContradiction
  intro hno
  have hc := rise_count (fun j => !Q (l.getD j zP)) l.length A hr h0 fun k hk => by
    have := h0 k hk
    obtain ⟨j, rfl⟩ := Int.eq_ofNat_of_zero_le this.1
    have hj : j < l.length := by omega
    simp only [Int.toNat_natCast]
    have e : l.getD j zP = l[j] := by simp [hj]
    rw [e]
    cases hq : Q l[j]
    · rfl
    · exact absurd ⟨j, hk, hj, hq⟩ hno
  have e1 := countP_range (l := l) Q
  have e2 := List.length_eq_countP_add_countP (fun j => Q (l.getD j zP)) (l := List.range l.length)
  rw [List.length_range, e1] at e2
  have e3 : (List.range l.length).countP (fun a => decide ¬Q (l.getD a zP) = true) = (List.range l.length).countP (fun j => !Q (l.getD j zP)) := by
    congr 1; funext j; cases Q (l.getD j zP) <;> rfl
  rw [e3] at e2
  omega

def asked (l : List Pl) (no : Int) (who : List Int) : List Int := who.filter fun k => decide ((l.getD k.toNat zP).prom < no)
theorem askR_asked (l : List Pl) (no : Int) {who : List Int} (h0 : ∀ k ∈ who, 0 ≤ k ∧ k < l.length) (hr : who.Pairwise (· < ·)) (hok : ∀ x ∈ l, okPl x = true) : ∀ i, i ≤ who.length →
    (askR l no (who.take i)).2.1 = (asked l no (who.take i)).length ∧ 0 ≤ (askR l no (who.take i)).2.2.1 ∧ (∀ k ∈ asked l no (who.take i), (l.getD k.toNat zP).taken ≤ (askR l no (who.take i)).2.2.1) ∧
      (((askR l no (who.take i)).2.2 = (0, 0)) ∨ ∃ k ∈ asked l no (who.take i), (askR l no (who.take i)).2.2 = ((l.getD k.toNat zP).taken, (l.getD k.toNat zP).word) ∧ 0 < (l.getD k.toNat zP).taken) := by
  intro i
  induction i with
  | zero => intro _; simp [askR, asked]
  | succ i ih =>
    intro hi
    have hn : i < who.length := by omega
    obtain ⟨i1, i2, i3, i4⟩ := ih (by omega)
    obtain ⟨b0, b1⟩ := h0 who[i] (List.getElem_mem hn)
    obtain ⟨k, hkk⟩ := Int.eq_ofNat_of_zero_le b0
    have hkl : k < l.length := by omega
    have hko : k < (askR l no (who.take i)).1.length := by rw [askR_len]; exact hkl
    have hsame : (askR l no (who.take i)).1[k] = l[k] := by
      have := askR_rest l no (fun k hk => (h0 k hk).1) hr (by omega : i ≤ who.length) k (fun j hj => by have := ris_take hr hn j hj; omega)
      rw [List.getElem?_eq_getElem hko, List.getElem?_eq_getElem hkl] at this
      injection this
    have hst := askR_snoc l no hn
    rw [hkk, ask1_at no _ hko, hsame] at hst
    have hgd : l.getD (k : Int).toNat zP = l[k] := by simp [hkl]
    have hf : asked l no (who.take (i + 1)) = asked l no (who.take i) ++ if l[k].prom < no then [(k : Int)] else [] := by
      rw [asked, List.take_succ_eq_append_getElem hn, List.filter_append, hkk, List.filter_cons, hgd]
      simp only [List.filter_nil, decide_eq_true_eq]; rfl
    have hk0 := hok l[k] (List.getElem_mem _)
    simp only [okPl, Bool.and_eq_true, Bool.or_eq_true, decide_eq_true_eq] at hk0
    rw [hst, hf]
    by_cases hp : no ≤ l[k].prom
    · rw [if_pos hp, if_neg (by omega : ¬ l[k].prom < no), List.append_nil]
      exact ⟨i1, i2, i3, i4⟩
    · have hlt : l[k].prom < no := by omega
      rw [if_neg hp, if_pos hlt]
      refine ⟨by simp [i1], ?_⟩
      simp only
      by_cases ht : (askR l no (who.take i)).2.2.1 < l[k].taken
      · rw [if_pos ht]
        refine ⟨by simp only; omega, fun j hj => ?_, .inr ⟨k, by simp, by rw [hgd], by rw [hgd]; omega⟩⟩
        rcases List.mem_append.1 hj with hj | hj
        · have := i3 j hj; simp only; omega
        · rw [List.mem_singleton] at hj; subst hj; rw [hgd]; exact Int.le_refl _
      · rw [if_neg ht]
        refine ⟨i2, fun j hj => ?_, ?_⟩
        · rcases List.mem_append.1 hj with hj | hj
          · exact i3 j hj
          · rw [List.mem_singleton] at hj; subst hj; rw [hgd]; omega
        · rcases i4 with h | ⟨j, hj, e⟩
          · exact .inl h
          · exact .inr ⟨j, List.mem_append_left _ hj, e⟩

/-- what is told to one who asked most -/
theorem ask_told {l : List Pl} {no : Int} {who : List Int} (hok : ∀ x ∈ l, okPl x = true) (h0 : ∀ k ∈ who, 0 ≤ k ∧ k < l.length) (hr : who.Pairwise (· < ·)) (hq : l.length / 2 + 1 ≤ (askR l no who).2.1) {t w : Int} (ht : 0 < t)
    (hc : l.length / 2 + 1 ≤ l.countP fun y => decide (t ≤ y.taken)) (hw : ∀ x ∈ l, t ≤ x.taken → x.word = w) : (askR l no who).2.2.2 = w := by
  obtain ⟨i1, i2, i3, i4⟩ := askR_asked l no h0 hr hok who.length (Nat.le_refl _)
  rw [List.take_length] at i1 i2 i3 i4
  rw [i1] at hq
  have hsub : ∀ k ∈ asked l no who, k ∈ who := fun k hk => (List.mem_filter.1 hk).1
  obtain ⟨k, hk, hkl, hkq⟩ := quorum (hr.filter _) (fun k hk => h0 k (hsub k hk)) (fun y => decide (t ≤ y.taken)) hq hc
  have a := i3 k hk
  have hgd : ∀ (j : Nat), (hj : j < l.length) → l.getD (j : Int).toNat zP = l[j] := fun j hj => by simp [hj]
  rw [hgd k hkl] at a
  simp only [decide_eq_true_eq] at hkq
  rcases i4 with e | ⟨j, hj, e, hp⟩
  · rw [e] at a; simp only at a; omega
  · have hj0 := h0 j (hsub j hj)
    obtain ⟨m, rfl⟩ := Int.eq_ofNat_of_zero_le hj0.1
    rw [hgd m (by omega)] at e
    rw [e] at a ⊢
    exact hw _ (List.getElem_mem _) (by simp only at a; omega)

end GL

namespace GL
open Go

theorem Out.fr {α : Type} [Flat α] {lo : Nat} {h : Heap} {v : V} {xs : List α} (ho : Out lo h v xs) : ∃ F, SdF h v xs F ∧ Fresh lo h F := by
  have ho0 := ho
  obtain ⟨_, _, ⟨rfl, rfl⟩ | ⟨b1, rfl, hb1, _⟩ | ⟨b1, rfl, rfl, _⟩⟩ := ho
  · exact ⟨[], SdF.nil, Fresh.nil⟩
  · obtain ⟨F, hF, hF2, hF3⟩ := ho0.sl.sdF ho0.cap
    refine ⟨F, hF, hF.flatF.2.1, fun b hb => (ho0.ge (hF2 b hb).2).1, fun b hb => ?_⟩
    have := (hF2 b hb).1; simp [bOf] at this; subst this; exact ⟨_, hb1⟩
  · exact ⟨[], ⟨by simp, .inr ⟨b1, 0, .k 0, rfl, Nat.le_refl _, .inl ⟨rfl, rfl⟩⟩⟩, Fresh.nil⟩
theorem OdF.draw {α : Type} [Data α] {h0 h h1 g : Heap} {N lo : Nat} {v : V} {xs : List α} {G G' : List Nat} (d : DC h0 h1 N) (kb : KeepsBut h0.length g h1) (o : OdF lo h v xs G) (k1 : KeepsBut h0.length h h1) (l1 : h.length ≤ h1.length) (hlo : g.length ≤ lo) (hc : h0.length < lo)
    (fr : Fresh h.length h1 G') {x : α} {cs : List V} (hr : Data.rep h1 x cs G') (hx : xs.length ≤ 2 ^ 20) {k bytes : Nat} (hk : k = Data.sz α) (hb : bytes ≤ 2 ^ 8) :
    ∃ v' h2, appH k bytes v 1 cs (h1 ++ [⟨.own, cs⟩]) = some (v', h2) ∧ OdF lo h2 v' (xs ++ [x]) (G ++ G') ∧ DC h0 h2 N ∧ KeepsBut h0.length g h2 ∧ h1.length < h2.length := by
  obtain ⟨od, fg⟩ := o
  have hge := fun i (hi : vB v i) => od.ge hi
  have kl : Keeps h1 (h1 ++ [⟨.own, cs⟩]) := Keeps.append h1 _
  have kp1 : KeepsP (fun b => b ≠ h0.length) h (h1 ++ [⟨.own, cs⟩]) := k1.P.trans (kl.p _)
  have nG : ∀ b ∈ G, b ≠ h0.length := fun b hb => by have := fg.ge b hb; omega
  have od1 : Od lo (h1 ++ [⟨.own, cs⟩]) v xs G := od.keeps kp1 (fun i hi => by have := (hge i hi).1; omega) nG (by simp; omega)
  have hnv : ∀ b ∈ G', ¬ vB v b := fun b hb hv => by have := (hge b hv).2; have := fr.ge b hb; omega
  have hnvG : ∀ b ∈ G, ¬ vB v b := fun b hb hv => by
    obtain ⟨_, _, ⟨rfl, _⟩ | ⟨b1, cs1, rfl, _, _, _, hn⟩ | ⟨b1, rfl, _, hG, _⟩⟩ := od
    · obtain ⟨_, _, _, e⟩ := hv; cases e
    · obtain ⟨_, _, _, e⟩ := hv; cases e; exact hn hb
    · rw [hG] at hb; cases hb
  obtain ⟨v', h2, e, o2, kp, l2, b2⟩ := od1.app (zs := [x]) (G := G') (by simp) (.one (Data.keeps hr (kl.p _))) hnv hb (by simp; omega) hk rfl
  have k2 : KeepsP (fun i => ¬ vB v i) h1 h2 := fun i blk hi h3 h4 => kp i blk hi (kl i blk h3 h4) h4
  have f1 := (fg.keeps (k1.P.mono nG)).keeps (k2.mono hnvG)
  have f2 := fr.keeps (k2.mono hnv)
  refine ⟨v', h2, e, ⟨o2, List.nodup_append.2 ⟨fg.nodup, fr.nodup, fun a ha b hb e => ?_⟩, fun b hb => ?_, fun b hb => ?_⟩, d.far k2 fun i hi hv => by have := (hge i hv).1; omega, kb.far k2 fun i hi _ hv => by have := (hge i hv).1; omega, by simp at l2; omega⟩
  · have := (fg.own a ha).lt; have := fr.ge b hb; omega
  · rcases List.mem_append.1 hb with hb | hb
    · exact fg.ge b hb
    · have := fr.ge b hb; have := od.2.1; omega
  · rcases List.mem_append.1 hb with hb | hb
    · exact f1.own b hb
    · exact f2.own b hb

structure Bt where
  no : Int
  word : Int
  fst : List Int
  snd : List Int
instance btData : Data Bt where
  sz := 4
  pos := by decide
  rep := fun h c cs F => ∃ x y F1 F2, cs = [vi c.no, vi c.word, x, y] ∧ F = F1 ++ F2 ∧ SdF h x c.fst F1 ∧ SdF h y c.snd F2
  len := by rintro h a cs F ⟨x, y, F1, F2, rfl, _⟩; rfl
  ok := by rintro h a cs F ⟨x, y, F1, F2, rfl, _, h1, h2⟩; simp [allCell, h1.cell, h2.cell, cell_int]
  keeps := by
    rintro h h' a cs F ⟨x, y, F1, F2, rfl, rfl, h1, h2⟩ hk
    exact ⟨x, y, F1, F2, rfl, rfl, h1.keeps (hk.mono fun b hb => List.mem_append_left _ hb), h2.keeps (hk.mono fun b hb => List.mem_append_right _ hb)⟩
  lt := by
    rintro h a cs F b ⟨x, y, F1, F2, rfl, rfl, h1, h2⟩ hb
    rcases List.mem_append.1 hb with hb | hb
    · exact h1.lt hb
    · exact h2.lt hb
theorem SdF.loadBt {h : Heap} {v : V} {xs : List Bt} {F : List Nat} (hs : SdF h v xs F) (i : Nat) (hi : i < xs.length) : ∃ x y F1 F2, rdH h (bOf v) (oOf v + i * 4) 4 = some [vi xs[i].no, vi xs[i].word, x, y] ∧ SdF h x xs[i].fst F1 ∧ SdF h y xs[i].snd F2 ∧ (∀ b ∈ F1, b ∈ F) ∧ ∀ b ∈ F2, b ∈ F := by
  obtain ⟨cs, G1, G2, G3, e, ⟨x, y, F1, F2, rfl, rfl, h1, h2⟩, hF⟩ := hs.load i hi
  exact ⟨x, y, F1, F2, e, h1, h2, fun b hb => by rw [hF]; simp [hb], fun b hb => by rw [hF]; simp [hb]⟩

theorem DC.someOf {h0 h : Heap} {N : Nat} (d : DC h0 h N) (hN : N < 2 ^ 57) (n : Nat) (hn : n ≤ 30) : ∃ v h', call p 312 [.ptr h0.length 0, vi n] h = some (v, h') ∧ ∃ (xs : List Int), Out h.length h' v xs ∧ xs.length ≤ 30 ∧ DC h0 h' (N + 60) ∧ KeepsBut h0.length h h' ∧ h.length ≤ h'.length := by
  have hlt := d.lt
  refine go (fn := g312) rfl rfl fun R hR => ?_
  simp only [g312]
  simp
  refine Wc_upM (M := [5, 6, 7, 8, 9, 10, 11, 12, 13, 14, 15, 16, 17, 18]) rfl n (fun i s => i ≤ n ∧ s.σ 6 = .v (vi i) ∧ ∃ (xs : List Int) (v : V), s.σ 5 = .v v ∧ Out h.length s.h v xs ∧ xs.length ≤ i ∧ DC h0 s.h (N + i * 2) ∧ KeepsBut h0.length h s.h ∧ h.length ≤ s.h.length) 0
    ⟨by omega, by simp, [], .nils, by simp, Out.nil (Nat.le_refl _), by simp, by simpa using d, KeepsBut.refl _ _, by simp⟩ fun i s ⟨gi, g6, xs, v, g5, ho, hx, d, kb, hl⟩ hM J hJ => ?_
  by_cases hi : i < n
  · have w1 : IntKind.i64.wrap ((i : Int) + 1) = (i + 1 : Nat) := by rw [IntWalk.i64_in] <;> omega
    obtain ⟨b, h1, e1, d1, k1, l1⟩ := d.one (by omega) 3 (by decide)
    have o1 := k1.out ho (by omega) (by omega)
    cases b
    · obtain ⟨v', h2, e2, o2, d2, k2, l2⟩ := Out.draw (k := 1) (bytes := 8) d1 (kb.trans k1) o1 (Nat.le_refl _) hlt (i : Int) (by omega) rfl (by decide) rfl
      simp [Flat.cells] at e2
      simp [g312_0, hM, g6, g5, hi, e1, fillL, rdS_last, e2, w1, -Int.natCast_add]
      exact hJ _ hi ⟨hi, by simp, _, v', by simp, o2, by simp; omega, d2.mono (by omega), k2, by show h.length ≤ h2.length; omega⟩
    · simp [g312_0, hM, g6, hi, e1, w1, -Int.natCast_add]
      exact hJ _ hi ⟨hi, by simp, xs, v, by simp [g5], o1, by omega, d1.mono (by omega), kb.trans k1, by show h.length ≤ h1.length; omega⟩
  · simp [g312_0, hM, g6, g5, hi]
    exact hR _ _ ⟨xs, ho, by omega, d.mono (by omega), kb, hl⟩
end GL

namespace GL
open Go

theorem DC.ballots {h0 h : Heap} {N : Nat} (d : DC h0 h N) (hN : N < 2 ^ 56) (n : Nat) (hn : n ≤ 30) : ∃ v h', call p 327 [.ptr h0.length 0, vi n] h = some (v, h') ∧ ∃ (xs : List Bt) (F : List Nat), SdF h' v xs F ∧ (∀ b ∈ F, h.length ≤ b) ∧ DC h0 h' (N + 2000) ∧ KeepsBut h0.length h h' ∧ h.length ≤ h'.length := by
  obtain ⟨k0, h1, e1, hk0, d1, k1, l1⟩ := d.pick (by omega) 8 (by decide)
  have hlt := d.lt
  refine go (fn := g327) rfl rfl fun R hR => ?_
  have loop : ∀ (s0 : S) (K : Ex → S → Prop), s0.σ 7 = .v (vi k0) → s0.σ 6 = .v (vi 0) → s0.σ 5 = .v .nils → s0.σ 0 = .v (.ptr h0.length 0) → s0.σ 1 = .v (vi n) → s0.h = h1 →
      (∀ s' (xs : List Bt) v G, s'.σ 0 = .v (.ptr h0.length 0) → s'.σ 5 = .v v → OdF h.length s'.h v xs G → DC h0 s'.h (N + 1500) → KeepsBut h0.length h s'.h → h.length ≤ s'.h.length → K (.exit 0) s') → Wc p (.loop g327_0) s0 K := by
    intro s0 K g7 g6 g5 g0 g1 gh hK
    refine Wc_dnM (M := [5, 6, 7, 10, 11, 12, 13, 14, 15, 16, 17, 18, 19, 20, 21, 22, 23, 24, 25, 26, 27, 28, 29, 30, 31, 32]) rfl (fun k s => k ≤ 8 ∧ s.σ 7 = .v (vi k) ∧ (∃ no : Nat, s.σ 6 = .v (vi no) ∧ no ≤ 3 * (8 - k)) ∧ ∃ (xs : List Bt) (v : V) (G : List Nat), xs.length + k ≤ 8 ∧ s.σ 5 = .v v ∧ OdF h.length s.h v xs G ∧ DC h0 s.h (N + 2 + xs.length * 130) ∧ KeepsBut h0.length h s.h ∧ h.length ≤ s.h.length) k0
      ⟨by omega, g7, ⟨0, g6, by omega⟩, [], .nils, [], by simp; omega, g5, OdF.nil (by rw [gh]; omega), by rw [gh]; simpa using d1, by rw [gh]; exact k1, by rw [gh]; omega⟩ fun k s ⟨gk, g7, ⟨no, g6, hno⟩, xs, v, G, hx, g5, ho, d, kb, hl⟩ hM J hJ => ?_
    by_cases hk0 : 0 < k
    · have w2 : IntKind.i64.wrap ((k : Int) - 1) = (k - 1 : Nat) := by rw [IntWalk.i64_in] <;> omega
      obtain ⟨a, h2, e2, ha, d2, k2, l2⟩ := d.pick (by omega) 3 (by decide)
      obtain ⟨b, h3, e3, hb, d3, k3, l3⟩ := d2.pick (by omega) 9 (by decide)
      obtain ⟨x, h4, e4, as, o4, _, d4, k4, l4⟩ := d3.someOf (by omega) n hn
      obtain ⟨y, h5, e5, bs, o5, _, d5, k5, l5⟩ := d4.someOf (by omega) n hn
      have w3 : IntKind.i64.wrap (1 + (a : Int)) = (1 + a : Nat) := by rw [IntWalk.i64_in] <;> omega
      have w4 : IntKind.i64.wrap ((no : Int) + ((1 + a : Nat) : Int)) = (no + (1 + a) : Nat) := by rw [IntWalk.i64_in] <;> omega
      have w5 : IntKind.i64.wrap (1 + (b : Int)) = (1 + b : Nat) := by rw [IntWalk.i64_in] <;> omega
      obtain ⟨F1, s1, f1⟩ := o4.fr
      obtain ⟨F2, s2, f2⟩ := o5.fr
      have n1 : ∀ b ∈ F1, b ≠ h0.length := fun b hb => by have := f1.ge b hb; omega
      have s1' := s1.keeps (k5.P.mono n1)
      have f1' := f1.keeps (k5.P.mono n1)
      have f12 : Fresh s.h.length h5 (F1 ++ F2) := ⟨List.nodup_append.2 ⟨f1.nodup, f2.nodup, fun a ha b hb e => by have := (f1.own a ha).lt; have := f2.ge b hb; omega⟩, fun b hb => by
          rcases List.mem_append.1 hb with hb | hb
          · have := f1.ge b hb; omega
          · have := f2.ge b hb; omega, fun b hb => by
          rcases List.mem_append.1 hb with hb | hb
          · exact f1'.own b hb
          · exact f2.own b hb⟩
      have hr : Data.rep h5 (⟨(no + (1 + a) : Nat), (1 + b : Nat), as, bs⟩ : Bt) [vi (no + (1 + a) : Nat), vi (1 + b : Nat), x, y] (F1 ++ F2) := ⟨x, y, F1, F2, rfl, rfl, s1', s2⟩
      have kk := ((k2.trans k3).trans k4).trans k5
      obtain ⟨v', h6, e6, o6, d6, k6, l6⟩ := OdF.draw d5 (kb.trans kk) ho kk (by omega) (Nat.le_refl _) (by omega) f12 hr (by omega) (k := 4) rfl (bytes := 64) (by decide)
      have z1 := s1'.cells
      have z2 := s1'.cell
      have z3 := s2.cells
      have z4 := s2.cell
      simp [g327_0, hM, g0, g1, g7, g6, g5, hk0, e2, w3, w4, e3, w5, e4, e5, takeB, z1, z2, z3, z4, rdS_last, e6, fillL, w2, -Int.natCast_add]
      exact hJ (k - 1) _ (by omega) ⟨by omega, by simp, ⟨no + (1 + a), by simp, by omega⟩, xs ++ [⟨(no + (1 + a) : Nat), (1 + b : Nat), as, bs⟩], v', G ++ (F1 ++ F2), by simp; omega, by simp, o6, d6.mono (by simp; omega), k6, by show h.length ≤ h6.length; omega⟩
    · have : k = 0 := by omega
      subst this
      simp [g327_0, hM, g7]
      exact hK _ xs v G (by simp [hM, g0]) (by simp [g5]) ho (d.mono (by omega)) kb hl
  simp [g327, e1]
  refine loop _ _ (by simp) (by simp) (by simp) (by simp) (by simp) rfl fun s' xs v G g0 g5 ho d kb hl => ?_
  obtain ⟨F, hs, fr⟩ := ho.fresh
  have ne : ∀ b ∈ F, b ≠ h0.length := fun b hb => by have := fr.ge b hb; omega
  by_cases hp : 0 < xs.length
  · obtain ⟨q, h4, e4, d4, k4, l4⟩ := d.one (by omega) 20 (by decide)
    have hs4 := hs.keeps (k4.P.mono ne)
    cases q
    · simp [g0, g5, hs.len, hp, e4]
      exact hR _ _ ⟨xs, F, hs4, fr.ge, d4.mono (by omega), kb.trans k4, by omega⟩
    · obtain ⟨a, h5, e5, _, d5, k5, l5⟩ := d4.amongL (by omega) [0, 40, 41] 3 rfl [vi 0, vi 40, vi 41] rfl (.k 3) (by decide) (by decide)
      have hs5 := hs4.keeps (k5.P.mono ne)
      have fr5 := (fr.keeps (k4.P.mono ne)).keeps (k5.P.mono ne)
      have hb := hs5.bIn hp
      obtain ⟨h6, e6, s6, k6, l6, _⟩ := hs5.put fr5.nodup (fr5.own _ hb) (i := 0) hp (x' := ⟨a, xs[0].word, xs[0].fst, xs[0].snd⟩) (o := 0) (ys := [vi a]) fun cs G hr hG => by
        obtain ⟨x, y, F1, F2, rfl, rfl, h1, h2⟩ := hr
        exact ⟨[vi a, vi xs[0].word, x, y], by simp [lay], fun h' hk => ⟨x, y, F1, F2, rfl, rfl, h1.keeps (hk.mono fun b hb => List.mem_append_left _ hb), h2.keeps (hk.mono fun b hb => List.mem_append_right _ hb)⟩⟩
      simp only [Nat.zero_mul, Nat.add_zero] at e6
      have i0 := hs.idx 4 .i64 0 hp
      simp at i0
      have hge := fr.ge _ hb
      simp [g0, g5, hs.len, hp, e4, fillL, e5, i0, e6]
      exact hR _ _ ⟨_, F, s6, fr.ge, (d5.far k6 fun i hi e => by omega).mono (by omega), ((kb.trans k4).trans k5).far k6 fun i hi _ e => by omega, by omega⟩
  · simp [g0, g5, hs.len, hp]
    exact hR _ _ ⟨xs, F, hs, fr.ge, d.mono (by omega), kb, hl⟩
end GL

namespace GL
open Go

def okBt (n : Int) (b : Bt) : Bool := decide (1 ≤ b.no ∧ b.no ≤ 40) && decide (1 ≤ b.word ∧ b.word ≤ 99) && risB 0 (n - 1) b.fst && risB 0 (n - 1) b.snd

theorem l12Ballot_eq {h : Heap} {x y : V} {b : Bt} {F1 F2 : List Nat} (hx : SdF h x b.fst F1) (hy : SdF h y b.snd F2) (n : Int) (hn : 0 ≤ n ∧ n ≤ 2 ^ 40) : call p 330 [vi n, .agg [vi b.no, vi b.word, x, y]] h = some (.bool (okBt n b), h) := by
  refine go_eq (fn := g330) rfl rfl fun R hR => ?_
  have w : IntKind.i64.wrap (n - 1) = n - 1 := by rw [IntWalk.i64_in] <;> omega
  have r1 := l1Rising_eq hx.sl 0 (n - 1)
  have r2 := l1Rising_eq hy.sl 0 (n - 1)
  by_cases h1 : 1 ≤ b.no ∧ b.no ≤ 40
  · by_cases h2 : 1 ≤ b.word ∧ b.word ≤ 99
    · cases h3 : risB 0 (n - 1) b.fst with
      | false =>
        rw [h3] at r1
        have e : okBt n b = false := by simp [okBt, h3]
        rw [e] at hR
        simp [g330, fillL, upd, hx.cells, hx.cell, hy.cells, hy.cell, h1, h2, w, r1, -Bool.decide_and]; exact hR
      | true =>
        rw [h3] at r1
        have e : okBt n b = risB 0 (n - 1) b.snd := by simp [okBt, h1, h2, h3]
        rw [e] at hR
        simp [g330, fillL, upd, hx.cells, hx.cell, hy.cells, hy.cell, h1, h2, w, r1, r2, -Bool.decide_and]; exact hR
    · have e : okBt n b = false := by simp only [okBt, decide_eq_false h2, Bool.and_false, Bool.false_and]
      rw [e] at hR
      simp [g330, fillL, upd, hx.cells, hx.cell, hy.cells, hy.cell, h1, h2, -Bool.decide_and]; exact hR
  · have e : okBt n b = false := by simp only [okBt, decide_eq_false h1, Bool.false_and]
    rw [e] at hR
    simp [g330, fillL, upd, hx.cells, hx.cell, hy.cells, hy.cell, h1, -Bool.decide_and]; exact hR

def runOk (l : List Pl) (b : Bt) : Bool := decide (l.length / 2 + 1 ≤ (askR l b.no b.fst).2.1)
def runWd (l : List Pl) (b : Bt) : Int := if (askR l b.no b.fst).2.2.2 = 0 then b.word else (askR l b.no b.fst).2.2.2
def runT (l : List Pl) (b : Bt) : List Pl × List Int := takeR (askR l b.no b.fst).1 b.no (runWd l b) b.snd
def runP (l : List Pl) (b : Bt) : List Pl := if runOk l b = true then (runT l b).1 else (askR l b.no b.fst).1
def runW (l : List Pl) (b : Bt) : Int := if runOk l b = true then if l.length / 2 + 1 ≤ (runT l b).2.length then runWd l b else 0 else 0
theorem runP_len (l : List Pl) (b : Bt) : (runP l b).length = l.length := by
  unfold runP runT
  split
  · rw [takeR_len, askR_len]
  · rw [askR_len]

theorem l12Run_ok {h : Heap} {v x y : V} {l : List Pl} {b : Bt} {F F1 F2 : List Nat} {lo : Nat} (hs : SdF h v l F) (fr : Fresh lo h F) (hx : SdF h x b.fst F1) (hy : SdF h y b.snd F2) (n1 : ∀ c ∈ F1, c < lo) (n2 : ∀ c ∈ F2, c < lo) (hl : 0 < l.length ∧ l.length ≤ 2 ^ 20)
    (h1 : ∀ k ∈ b.fst, 0 ≤ k ∧ k < l.length) (h2 : ∀ k ∈ b.snd, 0 ≤ k ∧ k < l.length) (hyl : b.snd.length ≤ 2 ^ 20) :
    ∃ r h', call p 331 [v, .agg [vi b.no, vi b.word, x, y]] h = some (r, h') ∧ r = vi (runW l b) ∧ SdF h' v (runP l b) F ∧ Fresh lo h' F ∧ KeepsP (fun c => c ≠ bOf v) h h' ∧ h.length ≤ h'.length := by
  refine go (fn := g331) rfl rfl fun R hR => ?_
  have hbv := fr.ge _ (hs.bIn hl.1)
  have ne1 : b.fst = [] ∨ bOf x ≠ bOf v := by
    by_cases e : b.fst = []
    · exact .inl e
    · have : 0 < b.fst.length := List.length_pos_iff.2 e
      have := n1 _ (hx.bIn this); exact .inr (by omega)
  have ne2 : b.snd = [] ∨ bOf y ≠ bOf v := by
    by_cases e : b.snd = []
    · exact .inl e
    · have : 0 < b.snd.length := List.length_pos_iff.2 e
      have := n2 _ (hy.bIn this); exact .inr (by omega)
  obtain ⟨_, h3, e1, rfl, c1, f1, k1, l1⟩ := l12Ask_ok hs fr hx.sl ne1 hl.2 b.no h1
  have hy3 := hy.keeps (k1.mono fun c hc => by have := n2 c hc; omega)
  have hal := askR_len l b.no b.fst
  cases hok : runOk l b with
  | false =>
    have hok2 := hok
    simp only [runOk, decide_eq_false_iff_not] at hok2
    rw [if_pos (by omega), decide_eq_false hok2] at e1
    simp [g331, fillL, upd, hx.cells, hx.cell, hy.cells, hy.cell, e1]
    exact hR _ _ ⟨by simp [runW, hok], by simpa [runP, hok] using c1, f1, k1, by omega⟩
  | true =>
    have hok2 := hok
    simp only [runOk, decide_eq_true_eq] at hok2
    rw [if_neg (by omega), decide_eq_true hok2] at e1
    obtain ⟨t, h4, e2, c2, f2, t2, k2, l2⟩ := l12Take_ok c1 f1 hy3.sl ne2 (by omega) hyl b.no (runWd l b) (fun k hk => by rw [hal]; exact h2 k hk)
    have es := l11Slow_eq l.length (by omega) h4
    have k12 := k1.trans k2
    have fin : ∀ w : Int, w = runW l b → R (vi w) h4 := fun w hw => hR _ _ ⟨by rw [hw], by simpa [runP, hok, runT] using c2, f2, k12, by omega⟩
    have c2l := c2.len
    rw [takeR_len, hal] at c2l
    have e2' : ∀ w : Int, w = runWd l b → call p 325 [v, vi b.no, vi w, y] h3 = some (t, h4) := fun w hw => by rw [hw]; exact e2
    by_cases h0 : (askR l b.no b.fst).2.2.2 = 0
    · have e3 := e2' b.word (by simp [runWd, h0])
      by_cases hq : (takeR (askR l b.no b.fst).1 b.no (runWd l b) b.snd).2.length < l.length / 2 + 1
      · have hq' : ((takeR (askR l b.no b.fst).1 b.no (runWd l b) b.snd).2.length : Int) < (l.length / 2 + 1 : Nat) := by omega
        simp [g331, fillL, upd, hx.cells, hx.cell, hy.cells, hy.cell, e1, h0, e3, t2.len, c2l, es, hq', -Int.natCast_add]
        exact fin 0 (by simp only [runW, hok, if_true]; rw [if_neg (by simp only [runT]; omega)])
      · have hq' : ¬ ((takeR (askR l b.no b.fst).1 b.no (runWd l b) b.snd).2.length : Int) < (l.length / 2 + 1 : Nat) := by omega
        simp [g331, fillL, upd, hx.cells, hx.cell, hy.cells, hy.cell, e1, h0, e3, t2.len, c2l, es, hq', -Int.natCast_add]
        exact fin b.word (by simp only [runW, hok, if_true]; rw [if_pos (by simp only [runT]; omega)]; simp [runWd, h0])
    · have e3 := e2' (askR l b.no b.fst).2.2.2 (by simp [runWd, h0])
      by_cases hq : (takeR (askR l b.no b.fst).1 b.no (runWd l b) b.snd).2.length < l.length / 2 + 1
      · have hq' : ((takeR (askR l b.no b.fst).1 b.no (runWd l b) b.snd).2.length : Int) < (l.length / 2 + 1 : Nat) := by omega
        simp [g331, fillL, upd, hx.cells, hx.cell, hy.cells, hy.cell, e1, h0, e3, t2.len, c2l, es, hq', -Int.natCast_add]
        exact fin 0 (by simp only [runW, hok, if_true]; rw [if_neg (by simp only [runT]; omega)])
      · have hq' : ¬ ((takeR (askR l b.no b.fst).1 b.no (runWd l b) b.snd).2.length : Int) < (l.length / 2 + 1 : Nat) := by omega
        simp [g331, fillL, upd, hx.cells, hx.cell, hy.cells, hy.cell, e1, h0, e3, t2.len, c2l, es, hq', -Int.natCast_add]
        exact fin _ (by simp only [runW, hok, if_true]; rw [if_pos (by simp only [runT]; omega)]; simp [runWd, h0])
end GL

namespace GL
open Go

def ltBt (a b : Bt) : Prop := a.no < b.no
instance (a b : Bt) : Decidable (ltBt a b) := by unfold ltBt; infer_instance
def btsB (n : Int) (bs : List Bt) : Bool := manyB n && decide (bs.length ≤ 40) && bs.all (okBt n) && decide (bs.Pairwise ltBt)
def stepB (st : List Pl × List Int) (b : Bt) : List Pl × List Int := (runP st.1 b, st.2 ++ [runW st.1 b])
def runAll (n : Int) (bs : List Bt) : List Pl × List Int := bs.foldl stepB (newP n, [])
theorem runAll_snoc (n : Int) {bs : List Bt} {i : Nat} (hi : i < bs.length) : runAll n (bs.take (i + 1)) = stepB (runAll n (bs.take i)) bs[i] := by
  rw [List.take_succ_eq_append_getElem hi, runAll, List.foldl_append]; rfl
theorem runAll_len (n : Int) (bs : List Bt) : (runAll n bs).1.length = (newP n).length ∧ (runAll n bs).2.length = bs.length := by
  have : ∀ (bs : List Bt) (st : List Pl × List Int), (bs.foldl stepB st).1.length = st.1.length ∧ (bs.foldl stepB st).2.length = st.2.length + bs.length := by
    intro bs; induction bs with
    | nil => intro st; exact ⟨rfl, rfl⟩
    | cons b bs ih =>
      intro st; rw [List.foldl_cons]
      obtain ⟨a, c⟩ := ih (stepB st b)
      refine ⟨by rw [a, stepB, runP_len], ?_⟩
      rw [c, stepB, List.length_append, List.length_cons]; simp; omega
  have := this bs (newP n, [])
  simp only [List.length_nil, Nat.zero_add] at this
  exact this
theorem newP_len {n : Nat} (hm : manyB n = true) : (newP n).length = n := by rw [newP, if_pos hm]; simp
theorem bt_snoc {l : List Bt} {x : Bt} (hp : l.Pairwise ltBt) (hl : ∀ (h : 0 < l.length), l[l.length - 1].no < x.no) : (l ++ [x]).Pairwise ltBt := by
  rw [List.pairwise_append]
  refine ⟨hp, by simp, fun a ha b hb => ?_⟩
  simp at hb; subst hb
  obtain ⟨i, hi, rfl⟩ := List.getElem_of_mem ha
  have h0 : 0 < l.length := by omega
  have := hl h0
  by_cases e : i = l.length - 1
  · subst e; exact this
  · have := (List.pairwise_iff_getElem.1 hp) i (l.length - 1) hi (by omega) (by omega)
    unfold ltBt at *; omega
theorem okBt_facts {n : Nat} {b : Bt} (h : okBt n b = true) : (1 ≤ b.no ∧ b.no ≤ 40) ∧ (1 ≤ b.word ∧ b.word ≤ 99) ∧ ((∀ k ∈ b.fst, 0 ≤ k ∧ k < n) ∧ b.fst.Pairwise (· < ·)) ∧ ((∀ k ∈ b.snd, 0 ≤ k ∧ k < n) ∧ b.snd.Pairwise (· < ·)) ∧ b.fst.length ≤ n ∧ b.snd.length ≤ n := by
  simp only [okBt, Bool.and_eq_true, decide_eq_true_eq] at h
  obtain ⟨⟨⟨h1, h2⟩, h3⟩, h4⟩ := h
  obtain ⟨a1, a2⟩ := risB_facts h3
  obtain ⟨b1, b2⟩ := risB_facts h4
  exact ⟨h1, h2, ⟨fun k hk => by have := a1 k hk; omega, a2⟩, ⟨fun k hk => by have := b1 k hk; omega, b2⟩, ris_len h3, ris_len h4⟩
theorem nat_of_many {n : Int} (hm : manyB n = true) : ∃ k : Nat, n = k ∧ 3 ≤ k ∧ k ≤ 9 := by
  have hn : 3 ≤ n ∧ n ≤ 9 := by simp only [manyB, Bool.and_eq_true, decide_eq_true_eq] at hm; exact hm.1
  obtain ⟨k, rfl⟩ := Int.eq_ofNat_of_zero_le (by omega : 0 ≤ n)
  exact ⟨k, rfl, by omega, by omega⟩

theorem RunBallotsS_ok {h : Heap} {v : V} {bs : List Bt} {F : List Nat} (hs : SdF h v bs F) (n : Int) : ∃ r h', call p 229 [vi n, v] h = some (r, h') ∧ ∃ o t G, r = .tup [o, t, .bool (btsB n bs)] ∧ SdF h' o (if btsB n bs = true then (runAll n bs).1 else []) G ∧ Fresh h.length h' G ∧ Sl h' t (if btsB n bs = true then (runAll n bs).2 else []) ∧ Keeps h h' ∧ h.length ≤ h'.length := by
  refine go (fn := g229) rfl rfl fun R hR => ?_
  obtain ⟨_, h1, e1, o, G, rfl, c1, f1, k1, l1⟩ := NewPlacesS_ok n h
  have bad : btsB n bs = false → R (.tup [.nils, .nils, .bool false]) h1 := fun hb => hR _ _ ⟨.nils, .nils, [], by rw [hb], by rw [if_neg (by rw [hb]; decide)]; exact SdF.nil, Fresh.nil, by rw [if_neg (by rw [hb]; decide)]; exact Sl.nil, k1, l1⟩
  have hs1 := hs.keep k1
  cases hm : manyB n with
  | false =>
    rw [hm] at e1
    simp [g229, e1]
    exact bad (by simp [btsB, hm])
  | true =>
  rw [hm] at e1
  obtain ⟨k, rfl, hk3, hk9⟩ := nat_of_many hm
  by_cases hl : bs.length ≤ 40
  · have hl' : ¬ (40 : Int) < bs.length := by omega
    simp only [g229]
    simp [e1, hs1.len, hl']
    refine Wc_upM (M := [4, 5, 6, 9, 10, 28, 29, 30, 31, 32, 33, 34, 35, 36, 37, 38, 39, 40, 41, 42, 43, 44, 45, 46, 47, 48, 49, 50, 51, 52]) rfl bs.length (fun i s => i ≤ bs.length ∧ s.σ 28 = .v (vi i) ∧ s.h = h1 ∧ (∀ b ∈ bs.take i, okBt k b = true) ∧ (bs.take i).Pairwise ltBt) 0
      (by simp) fun i s ⟨gi, g28, gh, q1, q2⟩ hM J hJ => ?_
    by_cases hn : i < bs.length
    · have ht := List.take_succ_eq_append_getElem hn
      obtain ⟨x, y, F1, F2, e2, hx, hy, _, _⟩ := hs1.loadBt i hn
      have e3 := l12Ballot_eq hx hy k (by omega)
      have z1 := hx.cells
      have z2 := hx.cell
      have z3 := hy.cells
      have z4 := hy.cell
      cases hok : okBt k bs[i] with
      | false =>
        rw [hok] at e3
        simp [g229_0, hM, g28, gh, hn, hs1.idx, e2, upd, z1, z2, z3, z4, e3]
        refine bad ?_
        have : bs.all (okBt k) = false := List.all_eq_false.2 ⟨bs[i], by simp, by simp [hok]⟩
        simp [btsB, this]
      | true =>
        rw [hok] at e3
        by_cases h0 : 0 < i
        · have w : IntKind.i64.wrap ((i : Int) - 1) = (i - 1 : Nat) := by rw [IntWalk.i64_in] <;> omega
          have hi1 : i - 1 < bs.length := by omega
          obtain ⟨x', y', _, _, e4, _⟩ := hs1.loadBt (i - 1) hi1
          have e5 := rdH_sub e4 0 1 (by decide)
          simp at e5
          by_cases h2 : bs[i - 1].no < bs[i].no
          · have h2' : ¬ bs[i].no ≤ bs[i - 1].no := by omega
            simp [g229_0, hM, g28, gh, hn, hs1.idx, e2, upd, z1, z2, z3, z4, e3, h0, w, hs1.idx 4 .i64 (i - 1) hi1, e5, h2', hs1.step hn]
            refine hJ _ hn ⟨hn, by simp, rfl, (all_take_succ (P := fun b => okBt k b = true) hn).2 ⟨q1, hok⟩, ?_⟩
            rw [ht]
            refine bt_snoc q2 fun hp => ?_
            simp at hp
            have e : (bs.take i).length - 1 = i - 1 := by simp; omega
            simp only [e, List.getElem_take]; exact h2
          · have h2' : bs[i].no ≤ bs[i - 1].no := by omega
            simp [g229_0, hM, g28, gh, hn, hs1.idx, e2, upd, z1, z2, z3, z4, e3, h0, w, hs1.idx 4 .i64 (i - 1) hi1, e5, h2']
            refine bad ?_
            have : ¬ bs.Pairwise ltBt := fun b => h2 ((List.pairwise_iff_getElem.1 b) (i - 1) i hi1 hn (by omega))
            simp [btsB, this]
        · simp [g229_0, hM, g28, gh, hn, hs1.idx, e2, upd, z1, z2, z3, z4, e3, h0, hs1.step hn]
          refine hJ _ hn ⟨hn, by simp, rfl, (all_take_succ (P := fun b => okBt k b = true) hn).2 ⟨q1, hok⟩, ?_⟩
          rw [ht]
          refine bt_snoc q2 fun hp => ?_
          simp at hp; omega
    · rw [List.take_of_length_le (by omega)] at q1 q2
      have hb : btsB k bs = true := by simp only [btsB, hm, Bool.true_and, Bool.and_eq_true, decide_eq_true_eq, List.all_eq_true]; exact ⟨⟨hl, q1⟩, q2⟩
      have ltF : ∀ b ∈ F, b < h.length := fun b hb => by obtain ⟨_, h1, _⟩ := hs.lt hb; exact get_lt h1
      have ltG : ∀ b ∈ G, b < h1.length := fun b hb => by obtain ⟨_, h1, _⟩ := c1.lt hb; exact get_lt h1
      have hnp := newP_len hm
      simp [g229_0, hM, g28, gh, hn, hs1.len]
      refine Wc_upM (M := [11, 13, 55, 56, 57, 58, 59, 60, 61, 62, 63, 64, 65]) rfl bs.length (fun i s => i ≤ bs.length ∧ s.σ 55 = .v (vi i) ∧ SdF s.h o (runAll k (bs.take i)).1 G ∧ Fresh h.length s.h G ∧ (∃ t, s.σ 11 = .v t ∧ Out h1.length s.h t (runAll k (bs.take i)).2) ∧ Keeps h s.h ∧ h1.length ≤ s.h.length) 0
        ⟨by omega, by simp, by simpa [runAll] using c1, f1, ⟨.nils, by simp, by simpa [runAll] using Out.nil (Nat.le_refl _)⟩, k1, Nat.le_refl _⟩ fun i s ⟨gi, g55, ho, fr, ⟨t, g11, hout⟩, hk, hlen⟩ hM2 J hJ => ?_
      by_cases hn : i < bs.length
      · have hsi := hs.keep hk
        obtain ⟨x, y, F1, F2, e2, hx, hy, m1, m2⟩ := hsi.loadBt i hn
        obtain ⟨b1, b2, b3, b4, b5, b6⟩ := okBt_facts (q1 _ (List.getElem_mem hn))
        have hll := (runAll_len k (bs.take i)).1
        rw [hnp] at hll
        have htl := (runAll_len k (bs.take i)).2
        rw [List.length_take] at htl
        obtain ⟨_, h3, e3, rfl, c3, f3, k3, l3⟩ := l12Run_ok ho fr hx hy (fun c hc => ltF c (m1 c hc)) (fun c hc => ltF c (m2 c hc)) (by omega) (fun j hj => by have := b3.1 j hj; omega) (fun j hj => by have := b4.1 j hj; omega) (by omega)
        have hbo := ho.bIn (i := 0) (by omega)
        have hob := fr.ge _ hbo
        have out3 : Out h1.length h3 t _ := hout.keeps k3 (fun b hb e => by have := (hout.ge hb).1; have := ltG _ hbo; omega) (by omega)
        have hk3 : Keeps h h3 := Keeps.far (n := h.length) hk k3 (Nat.le_refl _) fun b hb e => by omega
        obtain ⟨t', h4, e4, out4, k4, l4⟩ := out3.one (runW (runAll k (bs.take i)).1 bs[i]) (by omega)
        have nb : ∀ b ∈ G, ¬ vB t b := fun b hb hv => by have := (out3.ge hv).1; have := ltG b hb; omega
        have z1 := hx.cells
        have z2 := hx.cell
        have z3 := hy.cells
        have z4 := hy.cell
        have hst := runAll_snoc k hn
        simp [g229_1, hM2, hM, g55, g11, hn, hsi.idx, e2, upd, z1, z2, z3, z4, e3, fillL, rdS_last, e4, hs.step hn]
        exact hJ _ hn ⟨hn, by simp, by rw [hst]; exact c3.keeps (k4.mono nb), f3.keeps (k4.mono nb), ⟨t', by simp, by rw [hst]; exact out4⟩, out3.far hk3 k4 (by omega), by show h1.length ≤ h4.length; omega⟩
      · rw [List.take_of_length_le (by omega)] at ho hout
        simp [g229_1, hM2, hM, g55, g11, hn]
        exact hR _ _ ⟨o, t, G, by rw [hb], by rw [if_pos hb]; exact ho, fr, by rw [if_pos hb]; exact hout.sl, hk, by omega⟩
  · have hl' : (40 : Int) < bs.length := by omega
    simp [g229, e1, hs1.len, hl']
    exact bad (by simp [btsB, hl])
end GL

namespace GL
open Go

theorem DC.placesOf {h0 h : Heap} {N : Nat} (d : DC h0 h N) (hN : N < 2 ^ 55) : ∃ v h', call p 311 [.ptr h0.length 0] h = some (v, h') ∧ ∃ (xs : List Pl) (F : List Nat), SdF h' v xs F ∧ xs.length ≤ 9 ∧ (∀ b ∈ F, h.length ≤ b) ∧ DC h0 h' (N + 3000) ∧ KeepsBut h0.length h h' ∧ h.length ≤ h'.length := by
  have hlt := d.lt
  obtain ⟨n, h1, e1, hn, d1, k1, l1⟩ := d.amongL (by omega) [3, 5, 5, 7] 4 rfl [vi 3, vi 5, vi 5, vi 7] rfl (.k 4) (by decide) (by decide)
  have hn7 : manyB n = true ∧ 3 ≤ n ∧ n ≤ 7 := by simp at hn; rcases hn with rfl | rfl | rfl <;> decide
  obtain ⟨k, rfl⟩ := Int.eq_ofNat_of_zero_le (by omega : 0 ≤ n)
  obtain ⟨w, h2, e2, bs, F, s2, g2, d2, k2, l2⟩ := d1.ballots (by omega) k (by omega)
  obtain ⟨_, h3, e3, o, t, G, rfl, c3, f3, _, k3, l3⟩ := RunBallotsS_ok s2 k
  have d3 := d2.keeps k3
  have kb3 := (k1.trans k2).trans (k3.but h0.length)
  refine go (fn := g311) rfl rfl fun R hR => ?_
  have tail : ∀ (v : V) (xs : List Pl) (F : List Nat) (h4 : Heap), SdF h4 v xs F → Fresh h.length h4 F → 0 < xs.length → xs.length ≤ 9 → DC h0 h4 (N + 2500) → KeepsBut h0.length h h4 → h.length ≤ h4.length →
      ∃ (q : Bool) (h5 : Heap) (a : Int) (h6 h7 : Heap), call p 92 [.ptr h0.length 0, vi 20] h4 = some (.bool q, h5) ∧ R v h5 ∧ call p 93 [.ptr h0.length 0, .slice h5.length 0 3 (.k 3)] (h5 ++ [⟨.own, [vi (-1), vi 40, vi 41]⟩]) = some (vi a, h6) ∧ idxV 3 v (.int .i64 0) = some (.ptr (bOf v) (oOf v)) ∧ wrH h6 (bOf v) (oOf v) [vi a] = some h7 ∧ R v h7 := by
    intro v xs F h4 hs fr hp hl d kb hlen
    have ne : ∀ b ∈ F, b ≠ h0.length := fun b hb => by have := fr.ge b hb; omega
    obtain ⟨q, h5, e5, d5, k5, l5⟩ := d.one (by omega) 20 (by decide)
    obtain ⟨a, h6, e6, _, d6, k6, l6⟩ := d5.amongL (by omega) [-1, 40, 41] 3 rfl [vi (-1), vi 40, vi 41] rfl (.k 3) (by decide) (by decide)
    have hs5 := hs.keeps (k5.P.mono ne)
    have hs6 := hs5.keeps (k6.P.mono ne)
    have fr6 := (fr.keeps (k5.P.mono ne)).keeps (k6.P.mono ne)
    have hb := hs6.bIn hp
    obtain ⟨h7, e7, s7, k7, l7, _⟩ := hs6.putF (fr6.own _ hb) hp (x' := ⟨a, xs[0].taken, xs[0].word⟩) (o := 0) (ys := [vi a]) (by simp [Flat.cells, lay])
    simp only [Nat.zero_mul, Nat.add_zero] at e7
    have i0 := hs.idx 3 .i64 0 hp
    simp at i0
    have hge := fr.ge _ hb
    exact ⟨q, h5, a, h6, h7, e5, hR _ _ ⟨xs, F, hs5, hl, fr.ge, d5.mono (by omega), kb.trans k5, by omega⟩, e6, i0, e7, hR _ _ ⟨_, F, s7, by simpa using hl, fr.ge, (d6.far k7 fun i hi e => by omega).mono (by omega), ((kb.trans k5).trans k6).far k7 fun i hi _ e => by omega, by omega⟩⟩
  cases hb : btsB k bs with
  | true =>
    rw [hb] at e3 c3
    simp only [if_true] at c3
    have hl : (runAll k bs).1.length = k := by rw [(runAll_len k bs).1, newP_len hn7.1]
    obtain ⟨q, h5, a, h6, h7, e5, r5, e6, i0, e7, r7⟩ := tail o _ G h3 c3 (f3.mono (by omega)) (by omega) (by omega) (d3.mono (by omega)) kb3 (by omega)
    cases q
    · simp [g311, fillL, takeB, e1, e2, e3, e5]; exact r5
    · simp [g311, fillL, takeB, e1, e2, e3, e5, e6, i0, e7]; exact r7
  | false =>
    rw [hb] at e3
    obtain ⟨_, h4, e4, o4, G4, rfl, c4, f4, k4, l4⟩ := NewPlacesS_ok 3 h3
    have hl : (newP 3).length = 3 := by decide
    obtain ⟨q, h5, a, h6, h7, e5, r5, e6, i0, e7, r7⟩ := tail o4 _ G4 h4 c4 (f4.mono (by omega)) (by omega) (by omega) ((d3.keeps k4).mono (by omega)) (kb3.trans (k4.but _)) (by omega)
    cases q
    · simp [g311, fillL, takeB, e1, e2, e3, e4, e5]; exact r5
    · simp [g311, fillL, takeB, e1, e2, e3, e4, e5, e6, i0, e7]; exact r7

theorem DC.places {h0 h : Heap} {N : Nat} (d : DC h0 h N) (hN : N < 2 ^ 60) : ∃ (n : Int) (h' : Heap), call p 326 [.ptr h0.length 0] h = some (vi n, h') ∧ (2 ≤ n ∧ n ≤ 11) ∧ DC h0 h' (N + 2) ∧ KeepsBut h0.length h h' ∧ h.length ≤ h'.length := by
  obtain ⟨n, h1, e1, hn, d1, k1, l1⟩ := d.amongL (by omega) [3, 5, 5, 7, 9, 2, 4, 11] 8 rfl [vi 3, vi 5, vi 5, vi 7, vi 9, vi 2, vi 4, vi 11] rfl (.k 8) (by decide) (by decide)
  have hn2 : 2 ≤ n ∧ n ≤ 11 := by simp at hn; omega
  have : ∃ v h', call p 326 [.ptr h0.length 0] h = some (v, h') ∧ v = vi n ∧ h' = h1 := by
    refine go (fn := g326) rfl rfl fun R hR => ?_
    simp [g326, fillL, e1]
    exact hR _ _ ⟨rfl, rfl⟩
  obtain ⟨_, _, e, rfl, rfl⟩ := this
  exact ⟨n, _, e, hn2, d1, k1, l1⟩
end GL

namespace GL
open Go

theorem okPl_ask {x : Pl} {no : Int} (hx : okPl x = true) (hn : 1 ≤ no ∧ no ≤ 40) (hp : ¬ no ≤ x.prom) : okPl ⟨no, x.taken, x.word⟩ = true := by
  simp only [okPl, Bool.and_eq_true, Bool.or_eq_true, decide_eq_true_eq] at hx ⊢
  omega
theorem askR_ok {no : Int} (hn : 1 ≤ no ∧ no ≤ 40) : ∀ (who : List Int) (st : List Pl × Nat × Int × Int), (∀ k ∈ who, 0 ≤ k ∧ k < st.1.length) → (∀ x ∈ st.1, okPl x = true) → ∀ x ∈ (who.foldl (ask1 no) st).1, okPl x = true
  | [], _, _, h => h
  | k :: ks, st, h0, h => by
    rw [List.foldl_cons]
    have hk := h0 k (List.mem_cons_self ..)
    obtain ⟨m, rfl⟩ := Int.eq_ofNat_of_zero_le hk.1
    have hm : m < st.1.length := by omega
    refine askR_ok hn ks _ (fun j hj => by rw [ask1_len]; exact h0 j (List.mem_cons_of_mem _ hj)) ?_
    rw [ask1_at no st hm]
    split
    · exact h
    · rename_i hp
      intro x hx
      rcases List.mem_or_eq_of_mem_set hx with hx | rfl
      · exact h x hx
      · exact okPl_ask (h _ (List.getElem_mem hm)) hn hp
theorem takeR_at (l : List Pl) (no word : Int) {who : List Int} (h0 : ∀ k ∈ who, 0 ≤ k ∧ k < l.length) (hr : who.Pairwise (· < ·)) : ∀ i, i ≤ who.length →
    (∀ k ∈ (takeR l no word (who.take i)).2, k ∈ who.take i ∧ (l.getD k.toNat zP).prom ≤ no) ∧ ∀ j : Nat, (takeR l no word (who.take i)).1[j]? = if (j : Int) ∈ (takeR l no word (who.take i)).2 then some ⟨no, no, word⟩ else l[j]? := by
  intro i
  induction i with
  | zero => intro _; simp [takeR]
  | succ i ih =>
    intro hi
    have hn : i < who.length := by omega
    obtain ⟨i1, i2⟩ := ih (by omega)
    have ht := List.take_succ_eq_append_getElem hn
    obtain ⟨b0, b1⟩ := h0 who[i] (List.getElem_mem hn)
    obtain ⟨k, hkk⟩ := Int.eq_ofNat_of_zero_le b0
    have hkl : k < l.length := by omega
    have hko : k < (takeR l no word (who.take i)).1.length := by rw [takeR_len]; exact hkl
    have hsame : (takeR l no word (who.take i)).1[k] = l[k] := by
      have := takeR_rest l no word (fun k hk => (h0 k hk).1) hr (by omega : i ≤ who.length) k (fun j hj => by have := ris_take hr hn j hj; omega)
      rw [List.getElem?_eq_getElem hko, List.getElem?_eq_getElem hkl] at this
      injection this
    have hst := takeR_snoc l no word hn
    rw [hkk, take1_at no word _ hko, hsame] at hst
    rw [hst]
    by_cases hp : l[k].prom ≤ no
    · rw [if_pos hp]
      refine ⟨fun j hj => ?_, fun j => ?_⟩
      · simp only [List.mem_append, List.mem_singleton] at hj
        rcases hj with hj | rfl
        · obtain ⟨a, b⟩ := i1 j hj
          exact ⟨by rw [ht]; exact List.mem_append_left _ a, b⟩
        · refine ⟨by rw [ht, hkk]; exact List.mem_append_right _ (List.mem_singleton.2 rfl), ?_⟩
          have e : l.getD (k : Int).toNat zP = l[k] := by simp [hkl]
          rw [e]; exact hp
      · by_cases e : k = j
        · subst e
          rw [List.getElem?_set_self hko, if_pos (by simp)]
        · rw [List.getElem?_set_ne e, i2 j]
          have : ((j : Int) ∈ (takeR l no word (who.take i)).2 ++ [(k : Int)]) ↔ (j : Int) ∈ (takeR l no word (who.take i)).2 := by simp; omega
          simp only [this]
    · rw [if_neg hp]
      refine ⟨fun j hj => ?_, i2⟩
      obtain ⟨a, b⟩ := i1 j hj
      exact ⟨by rw [ht]; exact List.mem_append_left _ a, b⟩

end GL

namespace GL
open Go

theorem isGood_eq {h : Heap} {x y : V} {b : Bt} {F1 F2 : List Nat} (hx : SdF h x b.fst F1) (hy : SdF h y b.snd F2) (n : Int) (hm : manyB n = true) : call p 328 [.agg [vi b.no, vi b.word, x, y], vi n] h = some (.bool (okBt n b), h) := by
  refine go_eq (fn := g328) rfl rfl fun R hR => ?_
  have r1 := arePlaces_eq hx.sl n
  have r2 := arePlaces_eq hy.sl n
  rw [hm, Bool.true_and] at r1 r2
  by_cases h1 : 1 ≤ b.no ∧ b.no ≤ 40
  · by_cases h2 : 1 ≤ b.word ∧ b.word ≤ 99
    · cases h3 : risB 0 (n - 1) b.fst with
      | false =>
        rw [h3] at r1
        have e : okBt n b = false := by simp [okBt, h3]
        rw [e] at hR
        simp [g328, fillL, upd, hx.cells, hx.cell, hy.cells, hy.cell, h1, h2, r1, -Bool.decide_and]; exact hR
      | true =>
        rw [h3] at r1
        have e : okBt n b = risB 0 (n - 1) b.snd := by simp [okBt, h1, h2, h3]
        rw [e] at hR
        simp [g328, fillL, upd, hx.cells, hx.cell, hy.cells, hy.cell, h1, h2, r1, r2, -Bool.decide_and]; exact hR
    · have e : okBt n b = false := by simp only [okBt, decide_eq_false h2, Bool.and_false, Bool.false_and]
      rw [e] at hR
      simp [g328, fillL, upd, hx.cells, hx.cell, hy.cells, hy.cell, h1, h2, -Bool.decide_and]; exact hR
  · have e : okBt n b = false := by simp only [okBt, decide_eq_false h1, Bool.false_and]
    rw [e] at hR
    simp [g328, fillL, upd, hx.cells, hx.cell, hy.cells, hy.cell, h1, -Bool.decide_and]; exact hR

theorem runBallot_ok {h : Heap} {v x y : V} {l : List Pl} {b : Bt} {F1 F2 : List Nat} (hs : Sl h v l) (hx : SdF h x b.fst F1) (hy : SdF h y b.snd F2) (hl : 0 < l.length ∧ l.length ≤ 2 ^ 20)
    (h1 : (∀ k ∈ b.fst, 0 ≤ k ∧ k < l.length) ∧ b.fst.Pairwise (· < ·)) (h2 : (∀ k ∈ b.snd, 0 ≤ k ∧ k < l.length) ∧ b.snd.Pairwise (· < ·)) (hyl : b.snd.length ≤ 2 ^ 20) :
    ∃ r h', call p 329 [v, .agg [vi b.no, vi b.word, x, y]] h = some (r, h') ∧ ∃ o F, r = .tup [o, vi (runW l b)] ∧ SdF h' o (runP l b) F ∧ Fresh h.length h' F ∧ Keeps h h' ∧ h.length ≤ h'.length := by
  refine go (fn := g329) rfl rfl fun R hR => ?_
  obtain ⟨_, h3, e1, o, F, rfl, c1, f1, k1, l1⟩ := askPlaces_ok hs hx.sl hl.2 b.no h1.1 h1.2
  have hy3 := hy.keep k1
  have hal := askR_len l b.no b.fst
  cases hok : runOk l b with
  | false =>
    have hok2 := hok
    simp only [runOk, decide_eq_false_iff_not] at hok2
    rw [if_pos (by omega), decide_eq_false hok2] at e1
    simp [g329, fillL, upd, hx.cells, hx.cell, hy.cells, hy.cell, e1]
    exact hR _ _ ⟨o, F, by simp [runW, hok], by simpa [runP, hok] using c1, f1, k1, l1⟩
  | true =>
    have hok2 := hok
    simp only [runOk, decide_eq_true_eq] at hok2
    rw [if_neg (by omega), decide_eq_true hok2] at e1
    obtain ⟨_, h4, e2, o2, t, F4, rfl, c2, f2, t2, k2, l2⟩ := takeWord_ok c1.sl hy3.sl (by omega) hyl b.no (runWd l b) (fun k hk => by rw [hal]; exact h2.1 k hk) h2.2
    have es := slow_eq l.length (by omega) h4
    have hs4 := hs.len
    have fin : ∀ w : Int, w = runW l b → R (.tup [o2, vi w]) h4 := fun w hw => hR _ _ ⟨o2, F4, by rw [hw], by simpa [runP, hok, runT] using c2, f2.mono l1, k1.trans k2, by omega⟩
    have e2' : ∀ w : Int, w = runWd l b → call p 324 [o, vi b.no, vi w, y] h3 = some (.tup [o2, t], h4) := fun w hw => by rw [hw]; exact e2
    by_cases h0 : (askR l b.no b.fst).2.2.2 = 0
    · have e3 := e2' b.word (by simp [runWd, h0])
      by_cases hq : (takeR (askR l b.no b.fst).1 b.no (runWd l b) b.snd).2.length < l.length / 2 + 1
      · have hq' : ((takeR (askR l b.no b.fst).1 b.no (runWd l b) b.snd).2.length : Int) < (l.length / 2 + 1 : Nat) := by omega
        simp [g329, fillL, upd, hx.cells, hx.cell, hy.cells, hy.cell, e1, h0, e3, t2.len, hs4, es, hq', -Int.natCast_add]
        exact fin 0 (by simp only [runW, hok, if_true]; rw [if_neg (by simp only [runT]; omega)])
      · have hq' : ¬ ((takeR (askR l b.no b.fst).1 b.no (runWd l b) b.snd).2.length : Int) < (l.length / 2 + 1 : Nat) := by omega
        simp [g329, fillL, upd, hx.cells, hx.cell, hy.cells, hy.cell, e1, h0, e3, t2.len, hs4, es, hq', -Int.natCast_add]
        exact fin b.word (by simp only [runW, hok, if_true]; rw [if_pos (by simp only [runT]; omega)]; simp [runWd, h0])
    · have e3 := e2' (askR l b.no b.fst).2.2.2 (by simp [runWd, h0])
      by_cases hq : (takeR (askR l b.no b.fst).1 b.no (runWd l b) b.snd).2.length < l.length / 2 + 1
      · have hq' : ((takeR (askR l b.no b.fst).1 b.no (runWd l b) b.snd).2.length : Int) < (l.length / 2 + 1 : Nat) := by omega
        simp [g329, fillL, upd, hx.cells, hx.cell, hy.cells, hy.cell, e1, h0, e3, t2.len, hs4, es, hq', -Int.natCast_add]
        exact fin 0 (by simp only [runW, hok, if_true]; rw [if_neg (by simp only [runT]; omega)])
      · have hq' : ¬ ((takeR (askR l b.no b.fst).1 b.no (runWd l b) b.snd).2.length : Int) < (l.length / 2 + 1 : Nat) := by omega
        simp [g329, fillL, upd, hx.cells, hx.cell, hy.cells, hy.cell, e1, h0, e3, t2.len, hs4, es, hq', -Int.natCast_add]
        exact fin _ (by simp only [runW, hok, if_true]; rw [if_pos (by simp only [runT]; omega)]; simp [runWd, h0])

theorem RunBallots_ok {h : Heap} {v : V} {bs : List Bt} {F : List Nat} (hs : SdF h v bs F) (n : Int) : ∃ r h', call p 228 [vi n, v] h = some (r, h') ∧ ∃ o t, r = .tup [o, t, .bool (btsB n bs)] ∧ Sl h' o (if btsB n bs = true then (runAll n bs).1 else []) ∧ Sl h' t (if btsB n bs = true then (runAll n bs).2 else []) ∧ Keeps h h' ∧ h.length ≤ h'.length := by
  refine go (fn := g228) rfl rfl fun R hR => ?_
  obtain ⟨_, h1, e1, o, G, rfl, c1, f1, k1, l1⟩ := NewPlaces_ok n h
  have bad : ∀ H : Heap, Keeps h H → h.length ≤ H.length → btsB n bs = false → R (.tup [.nils, .nils, .bool false]) H := fun H k l hb => hR _ _ ⟨.nils, .nils, by rw [hb], by rw [if_neg (by rw [hb]; decide)]; exact Sl.nil, by rw [if_neg (by rw [hb]; decide)]; exact Sl.nil, k, l⟩
  have hs1 := hs.keep k1
  cases hm : manyB n with
  | false =>
    rw [hm] at e1
    simp [g228, e1]
    exact bad _ k1 l1 (by simp [btsB, hm])
  | true =>
  rw [hm] at e1
  obtain ⟨k, rfl, hk3, hk9⟩ := nat_of_many hm
  by_cases hl : bs.length ≤ 40
  · have hl' : ¬ (40 : Int) < bs.length := by omega
    have hnp := newP_len hm
    simp only [g228]
    simp [e1, hs1.len, hl', fillL]
    refine Wc_upM (M := [4, 5, 6, 7, 9, 10, 11, 12, 28, 29, 30, 31, 32, 33, 34, 35, 36, 37, 38, 39, 40, 41, 42, 43, 44, 45, 46, 47, 48, 49, 50, 51, 52, 53, 54, 55, 56, 57, 58, 59, 60, 61, 62]) rfl bs.length (fun i s => i ≤ bs.length ∧ s.σ 28 = .v (vi i) ∧ (∃ o t lo, s.σ 7 = .v o ∧ s.σ 9 = .v t ∧ Sl s.h o (runAll k (bs.take i)).1 ∧ h.length ≤ lo ∧ Out lo s.h t (runAll k (bs.take i)).2) ∧ Keeps h s.h ∧ h.length ≤ s.h.length ∧ (∀ b ∈ bs.take i, okBt k b = true) ∧ (bs.take i).Pairwise ltBt) 0
      ⟨by omega, by simp, ⟨o, .slice h1.length 0 0 (.k 0), h1.length, by simp, by simp, by simpa [runAll] using c1.sl.keeps (Keeps.append h1 [⟨.own, []⟩]), l1, by simpa [runAll] using Out.empty (Nat.le_refl _) (by simp)⟩, k1.trans (Keeps.append _ _), by simp; omega, by simp, by simp⟩ fun i s ⟨gi, g28, ⟨o, t, lo, g7, g9, ho, hlo, hout⟩, hk, hlen, q1, q2⟩ hM J hJ => ?_
    by_cases hn : i < bs.length
    · have ht := List.take_succ_eq_append_getElem hn
      have hsi := hs.keep hk
      obtain ⟨x, y, F1, F2, e2, hx, hy, _, _⟩ := hsi.loadBt i hn
      have e3 := isGood_eq hx hy k hm
      have z1 := hx.cells
      have z2 := hx.cell
      have z3 := hy.cells
      have z4 := hy.cell
      cases hok : okBt k bs[i] with
      | false =>
        rw [hok] at e3
        simp [g228_0, hM, g28, hn, hsi.idx, e2, upd, z1, z2, z3, z4, e3]
        refine bad _ hk hlen ?_
        have : bs.all (okBt k) = false := List.all_eq_false.2 ⟨bs[i], by simp, by simp [hok]⟩
        simp [btsB, this]
      | true =>
        rw [hok] at e3
        obtain ⟨b1, b2, b3, b4, b5, b6⟩ := okBt_facts hok
        have hll := (runAll_len k (bs.take i)).1
        rw [hnp] at hll
        have htl := (runAll_len k (bs.take i)).2
        rw [List.length_take] at htl
        obtain ⟨_, h3, e6, o2, F3, rfl, c3, f3, k3, l3⟩ := runBallot_ok ho hx hy (by omega) ⟨fun j hj => by have := b3.1 j hj; omega, b3.2⟩ ⟨fun j hj => by have := b4.1 j hj; omega, b4.2⟩ (by omega)
        have out3 : Out lo h3 t _ := hout.keeps (k3.p fun _ => True) (fun _ _ => trivial) l3
        obtain ⟨t', h4, e7, out4, k4, l4⟩ := out3.one (runW (runAll k (bs.take i)).1 bs[i]) (by omega)
        have ltl : ∀ b, vB t b → b < s.h.length := fun b hb => (hout.ge hb).2
        have c4 : Sl h4 o2 (runP (runAll k (bs.take i)).1 bs[i]) := (c3.keeps (k4.mono fun b hb hv => by have := f3.ge b hb; have := ltl b hv; omega)).sl
        have hst := runAll_snoc k hn
        have fin : ∀ (s' : S), s'.h = h4 → s'.σ 28 = .v (vi ((i : Int) + 1)) → s'.σ 7 = .v o2 → s'.σ 9 = .v t' → (bs.take (i + 1)).Pairwise ltBt → J s' := fun s' a b c d e => hJ s' hn ⟨hn, by rw [b]; simp, ⟨o2, t', lo, c, d, by rw [a, hst]; exact c4, hlo, by rw [a, hst]; exact out4⟩, by rw [a]; exact out3.far (hk.trans k3) k4 hlo, by rw [a]; omega, (all_take_succ (P := fun b => okBt k b = true) hn).2 ⟨q1, hok⟩, e⟩
        by_cases h0 : 0 < i
        · have w : IntKind.i64.wrap ((i : Int) - 1) = (i - 1 : Nat) := by rw [IntWalk.i64_in] <;> omega
          have hi1 : i - 1 < bs.length := by omega
          obtain ⟨x', y', _, _, e4, _⟩ := hsi.loadBt (i - 1) hi1
          have e5 := rdH_sub e4 0 1 (by decide)
          simp at e5
          by_cases h2 : bs[i - 1].no < bs[i].no
          · have h2' : ¬ bs[i].no ≤ bs[i - 1].no := by omega
            simp [g228_0, hM, g28, g7, g9, hn, hsi.idx, e2, upd, z1, z2, z3, z4, e3, h0, w, hsi.idx 4 .i64 (i - 1) hi1, e5, h2', e6, fillL, rdS_last, e7, hsi.step hn]
            refine fin _ rfl (by simp) (by simp) (by simp) ?_
            rw [ht]
            refine bt_snoc q2 fun hp => ?_
            simp at hp
            have e : (bs.take i).length - 1 = i - 1 := by simp; omega
            simp only [e, List.getElem_take]; exact h2
          · have h2' : bs[i].no ≤ bs[i - 1].no := by omega
            simp [g228_0, hM, g28, hn, hsi.idx, e2, upd, z1, z2, z3, z4, e3, h0, w, hsi.idx 4 .i64 (i - 1) hi1, e5, h2']
            refine bad _ hk hlen ?_
            have : ¬ bs.Pairwise ltBt := fun b => h2 ((List.pairwise_iff_getElem.1 b) (i - 1) i hi1 hn (by omega))
            simp [btsB, this]
        · simp [g228_0, hM, g28, g7, g9, hn, hsi.idx, e2, upd, z1, z2, z3, z4, e3, h0, e6, fillL, rdS_last, e7, hsi.step hn]
          refine fin _ rfl (by simp) (by simp) (by simp) ?_
          rw [ht]
          refine bt_snoc q2 fun hp => ?_
          simp at hp; omega
    · rw [List.take_of_length_le (by omega)] at q1 q2 ho hout
      have hb : btsB k bs = true := by simp only [btsB, hm, Bool.true_and, Bool.and_eq_true, decide_eq_true_eq, List.all_eq_true]; exact ⟨⟨hl, q1⟩, q2⟩
      simp [g228_0, hM, g28, g7, g9, hn]
      exact hR _ _ ⟨o, t, by rw [hb], by rw [if_pos hb]; exact ho, by rw [if_pos hb]; exact hout.sl, hk, hlen⟩
  · have hl' : (40 : Int) < bs.length := by omega
    simp [g228, e1, hs1.len, hl']
    exact bad _ k1 l1 (by simp [btsB, hl])

theorem ChosenInS_eq {h : Heap} {v : V} {l : List Pl} (hs : Sl h v l) : call p 231 [v] h = some (.tup [vi (chosenW l), .bool (chosenO l).isSome], h) := by
  refine go_eq (fn := g231) rfl rfl fun R hR => ?_
  have e1 := GoodPlacesS_eq hs
  cases hg : goodP l with
  | false =>
    rw [hg] at e1; simp [g231, e1]
    simpa [chosenW, chosenO, hg] using hR
  | true =>
    rw [hg] at e1
    obtain ⟨hm, hl, hok⟩ := goodP_facts hg
    simp only [g231]
    simp [hs.len, e1]
    refine Wc_upM (M := [2, 3, 5, 6, 8, 14, 15, 16, 17, 18, 19, 20, 21, 22, 23, 24, 25, 26, 27, 28, 29, 30, 31, 32, 33, 34, 35, 36, 37, 38, 39, 40, 41, 42, 43, 44, 45, 46, 47, 48, 49, 50, 51]) rfl l.length (fun i s => s.σ 14 = .v (vi i) ∧ s.h = h ∧ ∀ x ∈ l.take i, chosen1 l x = false) 0 (by simp) fun i s ⟨g14, gh, hall⟩ hM J hJ => ?_
    by_cases hn : i < l.length
    · have lp := hs.loadP i hn
      have inner : ∀ (s0 : S) (K : Ex → S → Prop) (c : Nat), s0.σ 20 = .v (vi 0) → s0.σ 6 = .v (vi 0) → s0.σ 18 = .v v → s0.σ 19 = .v (vi l.length) → s0.σ 5 = .lp 5 c 0 → s0.L 5 = (c, [vi l[i].prom, vi l[i].taken, vi l[i].word]) → s0.h = h →
          (∀ s', (∀ k, k ∉ [6, 8, 20, 21, 22, 23, 24, 25, 26, 27, 28, 29, 30, 31, 32, 33, 34, 35, 36, 37, 38] → s'.σ k = s0.σ k) → s'.σ 6 = .v (vi (sameN l l[i])) → s'.L 5 = (c, [vi l[i].prom, vi l[i].taken, vi l[i].word]) → s'.h = h → K (.exit 2) s') → Wc p (.loop g231_0) s0 K := by
        intro s0 K c g20 g6 g18 g19 g5 gL gh hK
        refine Wc_upM (M := [6, 8, 20, 21, 22, 23, 24, 25, 26, 27, 28, 29, 30, 31, 32, 33, 34, 35, 36, 37, 38]) rfl l.length (fun j t => j ≤ l.length ∧ t.σ 20 = .v (vi j) ∧ t.h = h ∧ t.L 5 = (c, [vi l[i].prom, vi l[i].taken, vi l[i].word]) ∧ t.σ 6 = .v (vi (sameN (l.take j) l[i]))) 0
          ⟨Nat.zero_le _, g20, gh, gL, by simp [g6, sameN]⟩ fun j t ⟨gj, g20, th, tL, g6⟩ hM2 J2 hJ2 => ?_
        by_cases hj : j < l.length
        · have lq := hs.loadP j hj
          have hcs : sameN (l.take (j + 1)) l[i] = sameN (l.take j) l[i] + if decide (l[j].taken = l[i].taken ∧ l[j].word = l[i].word) = true then 1 else 0 := countP_snoc (fun y : Pl => decide (y.taken = l[i].taken ∧ y.word = l[i].word)) hj
          have hle : (l.take j).countP (fun y : Pl => decide (y.taken = l[i].taken ∧ y.word = l[i].word)) ≤ j := Nat.le_trans List.countP_le_length (by simp; omega)
          have w1 : IntKind.i64.wrap ((sameN (l.take j) l[i] : Int) + 1) = (sameN (l.take j) l[i] + 1 : Nat) := by rw [IntWalk.i64_in] <;> (unfold sameN; omega)
          by_cases h2 : l[j].taken = l[i].taken
          · by_cases h3 : l[j].word = l[i].word
            · rw [if_pos (by simp [h2, h3])] at hcs
              simp [g231_0, hM2, g18, g19, g20, g5, th, tL, g6, hj, hs.idx, lq, upd, h2, h3, w1, hs.step hj, -Int.natCast_add]
              exact hJ2 _ hj ⟨hj, by simp, rfl, by simp [upd, tL], by simp [hcs]⟩
            · rw [if_neg (by simp [h3])] at hcs
              simp [g231_0, hM2, g18, g19, g20, g5, th, tL, g6, hj, hs.idx, lq, upd, h2, h3, hs.step hj, -Int.natCast_add]
              exact hJ2 _ hj ⟨hj, by simp, rfl, by simp [upd, tL], by simp [g6, hcs]⟩
          · rw [if_neg (by simp [h2])] at hcs
            simp [g231_0, hM2, g18, g19, g20, g5, th, tL, g6, hj, hs.idx, lq, upd, h2, hs.step hj, -Int.natCast_add]
            exact hJ2 _ hj ⟨hj, by simp, rfl, by simp [upd, tL], by simp [g6, hcs]⟩
        · rw [List.take_of_length_le (by omega)] at g6
          simp [g231_0, hM2, g19, g20, th, hj]
          exact hK _ (fun k hk => by simp only [List.mem_cons, List.not_mem_nil, or_false, not_or] at hk; simp [upd, hk, hM2]) (by simp [g6]) tL rfl
      simp [g231_1, hM, g14, gh, hn, hs.idx, lp, upd, hs.len]
      refine inner _ _ ((s.L 5).1 + 1) (by simp) (by simp) (by simp) (by simp) (by simp) (by simp [upd]) rfl fun s' hM3 g6 gL gh => ?_
      have es := l11Slow_eq l.length (by omega) h
      have hM4 : s'.σ 0 = .v v := by rw [hM3 0 (by decide)]; simp [hM]
      have hM5 : s'.σ 5 = .lp 5 ((s.L 5).1 + 1) 0 := by rw [hM3 5 (by decide)]; simp
      have hM6 : s'.σ 14 = .v (vi i) := by rw [hM3 14 (by decide)]; simp [g14]
      by_cases hc1 : 0 < l[i].taken
      · by_cases hc : l.length / 2 + 1 ≤ sameN l l[i]
        · have hc3 : ((l.length / 2 + 1 : Nat) : Int) ≤ (sameN l l[i] : Int) := by omega
          simp [hM4, hM5, gh, g6, gL, hs.len, es, hc1, hc3, -Int.natCast_add]
          have hf := find_take_none hn hall (by simp [chosen1, hc1, hc])
          simpa [chosenW, chosenO, hg, hf] using hR
        · have hc3 : ¬ ((l.length / 2 + 1 : Nat) : Int) ≤ (sameN l l[i] : Int) := by omega
          simp [hM4, hM5, hM6, gh, g6, gL, hs.len, es, hc1, hc3, hs.step hn, -Int.natCast_add]
          exact hJ _ hn ⟨by simp, rfl, (all_take_succ hn).2 ⟨hall, by simp [chosen1, hc]⟩⟩
      · simp [hM4, hM5, hM6, gh, g6, gL, hs.len, es, hc1, hs.step hn, -Int.natCast_add]
        exact hJ _ hn ⟨by simp, rfl, (all_take_succ hn).2 ⟨hall, by simp [chosen1, hc1]⟩⟩
    · rw [List.take_of_length_le (by omega)] at hall
      have hf : l.find? (chosen1 l) = none := List.find?_eq_none.2 fun x hx => by simp [hall x hx]
      simp [g231_1, hM, g14, gh, hn]
      simpa [chosenW, chosenO, hg, hf] using hR
end GL

namespace GL
open Go

/-! one word of many -/
theorem okPl_word {x : Pl} (hx : okPl x = true) : 0 ≤ x.taken ∧ x.taken ≤ x.prom ∧ 0 ≤ x.prom ∧ x.prom ≤ 40 ∧ (x.taken = 0 → x.word = 0) ∧ (0 < x.taken → 1 ≤ x.word ∧ x.word ≤ 99) := by
  simp only [okPl, Bool.and_eq_true, Bool.or_eq_true, decide_eq_true_eq] at hx
  omega
/-- taken and word are as they were: of the asked -/
theorem askR_tw (no : Int) : ∀ (who : List Int) (st : List Pl × Nat × Int × Int), (∀ k ∈ who, 0 ≤ k ∧ k < st.1.length) → ((who.foldl (ask1 no) st).1.map fun x => (x.taken, x.word)) = st.1.map fun x => (x.taken, x.word)
  | [], _, _ => rfl
  | k :: ks, st, h0 => by
    rw [List.foldl_cons]
    have hk := h0 k (List.mem_cons_self ..)
    obtain ⟨m, rfl⟩ := Int.eq_ofNat_of_zero_le hk.1
    have hm : m < st.1.length := by omega
    rw [askR_tw no ks _ (fun j hj => by rw [ask1_len]; exact h0 j (List.mem_cons_of_mem _ hj)), ask1_at no st hm]
    split
    · rfl
    · simp only [List.map_set]
      refine List.ext_getElem (by simp) fun i h1 h2 => ?_
      rw [List.getElem_set]
      split
      · rename_i e; subst e; simp
      · rfl
theorem askR_prom {no N : Int} (hN : N ≤ no) : ∀ (who : List Int) (st : List Pl × Nat × Int × Int), (∀ k ∈ who, 0 ≤ k ∧ k < st.1.length) → (∀ x ∈ st.1, x.prom ≤ no) → ∀ x ∈ (who.foldl (ask1 no) st).1, x.prom ≤ no
  | [], _, _, h => h
  | k :: ks, st, h0, h => by
    rw [List.foldl_cons]
    have hk := h0 k (List.mem_cons_self ..)
    obtain ⟨m, rfl⟩ := Int.eq_ofNat_of_zero_le hk.1
    have hm : m < st.1.length := by omega
    refine askR_prom hN ks _ (fun j hj => by rw [ask1_len]; exact h0 j (List.mem_cons_of_mem _ hj)) ?_
    rw [ask1_at no st hm]
    split
    · exact h
    · intro x hx
      rcases List.mem_or_eq_of_mem_set hx with hx | rfl
      · exact h x hx
      · exact Int.le_refl _

/-- what holds behind ballots up to N: of the places and of all that was told -/
structure Px (N : Int) (P : List Pl) (T : List Int) : Prop where
  ok : ∀ x ∈ P, okPl x = true
  le : ∀ x ∈ P, x.prom ≤ N
  told : ∀ w ∈ T, w ≠ 0 → 1 ≤ w ∧ ∃ t, 0 < t ∧ P.length / 2 + 1 ≤ P.countP (fun y => decide (t ≤ y.taken)) ∧ ∀ x ∈ P, t ≤ x.taken → x.word = w
  most : ∀ t w, 0 < t → P.length / 2 + 1 ≤ P.countP (fun y => decide (y.taken = t ∧ y.word = w)) → w ∈ T

theorem Px.new {n : Int} : Px 0 (newP n) [] := by
  have hz : ∀ x ∈ newP n, x = zP := fun x hx => by
    unfold newP at hx; split at hx
    · exact (List.mem_replicate.1 hx).2
    · cases hx
  refine ⟨fun x hx => by rw [hz x hx]; decide, fun x hx => by rw [hz x hx]; decide, by simp, fun t w ht hc => ?_⟩
  have : (newP n).countP (fun y => decide (y.taken = t ∧ y.word = w)) = 0 := List.countP_eq_zero.2 fun x hx => by
    rw [hz x hx]
    intro hd
    have h1 : (0 : Int) = t := (of_decide_eq_true hd).1
    omega
  omega

theorem countP_tw {P P' : List Pl} (h : (P'.map fun x => (x.taken, x.word)) = P.map fun x => (x.taken, x.word)) (q : Int × Int → Bool) : P'.countP (fun x => q (x.taken, x.word)) = P.countP (fun x => q (x.taken, x.word)) := by
  have a := List.countP_map (p := q) (f := fun x : Pl => (x.taken, x.word)) (l := P')
  have b := List.countP_map (p := q) (f := fun x : Pl => (x.taken, x.word)) (l := P)
  rw [h] at a
  exact (a.symm.trans b)
theorem mem_tw {P P' : List Pl} (h : (P'.map fun x => (x.taken, x.word)) = P.map fun x => (x.taken, x.word)) {x : Pl} (hx : x ∈ P') : ∃ y ∈ P, y.taken = x.taken ∧ y.word = x.word := by
  have : (x.taken, x.word) ∈ P.map fun x => (x.taken, x.word) := by rw [← h]; exact List.mem_map.2 ⟨x, hx, rfl⟩
  obtain ⟨y, hy, e⟩ := List.mem_map.1 this
  injection e with e1 e2
  exact ⟨y, hy, e1, e2⟩

/-- places that were only asked -/
theorem Px.asked {N no : Int} {P P' : List Pl} {T : List Int} (hp : Px N P T) (hl : P'.length = P.length) (h : (P'.map fun x => (x.taken, x.word)) = P.map fun x => (x.taken, x.word)) (hok : ∀ x ∈ P', okPl x = true) (hle : ∀ x ∈ P', x.prom ≤ no) : Px no P' T := by
  refine ⟨hok, hle, fun w hw h0 => ?_, fun t w ht hc => ?_⟩
  · obtain ⟨w1, t, t0, t1, t2⟩ := hp.told w hw h0
    refine ⟨w1, t, t0, ?_, fun x hx hxt => ?_⟩
    · rw [hl, countP_tw h fun a => decide (t ≤ a.1)]; exact t1
    · obtain ⟨y, hy, e1, e2⟩ := mem_tw h hx
      rw [← e2]; exact t2 y hy (by omega)
  · rw [hl, countP_tw h fun a => decide (a.1 = t ∧ a.2 = w)] at hc
    exact hp.most t w ht hc
theorem Px.told0 {N : Int} {P : List Pl} {T : List Int} (hp : Px N P T) : Px N P (T ++ [0]) := by
  refine ⟨hp.ok, hp.le, fun w hw h0 => ?_, fun t w ht hc => List.mem_append_left _ (hp.most t w ht hc)⟩
  rcases List.mem_append.1 hw with hw | hw
  · exact hp.told w hw h0
  · simp at hw; exact absurd hw h0

theorem countP_getD {l : List Pl} (Q : Pl → Bool) : l.countP Q = (List.range l.length).countP (fun j => Q (l.getD j zP)) := (countP_range Q).symm
/-- some of some numbers: as many as stand in a rising list -/
theorem count_mem : ∀ (n : Nat) (A : List Int), A.Pairwise (· < ·) → (∀ k ∈ A, 0 ≤ k ∧ k < n) → (List.range n).countP (fun j : Nat => decide ((j : Int) ∈ A)) = A.length
  | 0, A, _, h2 => by
    cases A with
    | nil => rfl
    | cons k A => have := h2 k (List.mem_cons_self ..); omega
  | n + 1, A, h1, h2 => by
    rw [List.range_succ, List.countP_append]
    rcases List.eq_nil_or_concat A with rfl | ⟨B, k, rfl⟩
    · simp
    · rw [List.concat_eq_append] at *
      rw [List.pairwise_append] at h1
      have hk := h2 k (by simp)
      have hB : ∀ j ∈ B, 0 ≤ j ∧ j < n := fun j hj => by
        have a := h2 j (by simp [hj])
        have b := h1.2.2 j hj k (by simp)
        omega
      by_cases e : k = n
      · have ih := count_mem n B h1.1 hB
        have e2 : (List.range n).countP (fun j : Nat => decide ((j : Int) ∈ B ++ [k])) = (List.range n).countP (fun j : Nat => decide ((j : Int) ∈ B)) := by
          refine List.countP_congr fun j hj => ?_
          have := List.mem_range.1 hj
          simp only [decide_eq_true_eq, List.mem_append, List.mem_singleton]
          constructor
          · rintro (h | h)
            · exact h
            · omega
          · exact .inl
        rw [e2, ih]
        simp [e]
      · have ih := count_mem n (B ++ [k]) (by rw [List.pairwise_append]; exact h1) (fun j hj => by
          rcases List.mem_append.1 hj with hj | hj
          · exact hB j hj
          · simp at hj; subst hj; omega)
        rw [ih]
        have : ¬ ((n : Int) ∈ B ++ [k]) := fun h => by
          rcases List.mem_append.1 h with h | h
          · have := hB _ h; omega
          · simp at h; exact e h.symm
        have e3 : [n].countP (fun j : Nat => decide ((j : Int) ∈ B ++ [k])) = 0 := List.countP_eq_zero.2 fun j hj hd => by
          rw [List.mem_singleton] at hj
          subst hj
          exact this (of_decide_eq_true hd)
        rw [e3]; rfl

theorem takeR_sub (no word : Int) : ∀ (who : List Int) (st : List Pl × List Int), ∃ D : List Int, D.Sublist who ∧ (who.foldl (take1 no word) st).2 = st.2 ++ D
  | [], st => ⟨[], List.Sublist.refl _, by simp⟩
  | k :: ks, st => by
    rw [List.foldl_cons]
    obtain ⟨D, h1, h2⟩ := takeR_sub no word ks (take1 no word st k)
    rw [h2]
    unfold take1
    split
    · exact ⟨k :: D, h1.cons_cons k, by simp⟩
    · exact ⟨D, h1.cons k, rfl⟩

/-- one more ballot -/
theorem Px.step {N : Int} {P : List Pl} {T : List Int} {b : Bt} {n : Nat} (hp : Px N P T) (hn : P.length = n) (hN : N < b.no) (hb : okBt n b = true) : Px b.no (runP P b) (T ++ [runW P b]) := by
  obtain ⟨b1, b2, b3, b4, b5, b6⟩ := okBt_facts hb
  subst hn
  -- the asked
  have A1 : (askR P b.no b.fst).1.length = P.length := askR_len ..
  have A2 := askR_tw b.no b.fst (P, 0, 0, 0) b3.1
  have A3 := askR_ok b1 b.fst (P, 0, 0, 0) b3.1 hp.ok
  have A4 := askR_prom (Int.le_of_lt hN) b.fst (P, 0, 0, 0) b3.1 (fun x hx => by have := hp.le x hx; omega)
  have pa : Px b.no (askR P b.no b.fst).1 T := hp.asked A1 A2 A3 A4
  have A5 : ∀ x ∈ (askR P b.no b.fst).1, x.taken < b.no := fun x hx => by
    obtain ⟨y, hy, e1, _⟩ := mem_tw A2 hx
    have := hp.le y hy
    have := (okPl_word (hp.ok y hy)).2.1
    omega
  cases hok : runOk P b with
  | false =>
    have e1 : runP P b = (askR P b.no b.fst).1 := by simp [runP, hok]
    have e2 : runW P b = 0 := by simp [runW, hok]
    rw [e1, e2]; exact pa.told0
  | true =>
    have hok2 := hok
    simp only [runOk, decide_eq_true_eq] at hok2
    -- what was told already is asked for again
    have again : ∀ w ∈ T, w ≠ 0 → runWd P b = w := fun w hw h0 => by
      obtain ⟨w1, t, t0, t1, t2⟩ := hp.told w hw h0
      have := ask_told hp.ok b3.1 b3.2 hok2 t0 t1 t2
      unfold runWd
      rw [this, if_neg (by omega)]
    -- the word is a word
    have wpos : 1 ≤ runWd P b ∧ runWd P b ≤ 99 := by
      unfold runWd
      split
      · exact b2
      · rename_i hw
        obtain ⟨i1, i2, i3, i4⟩ := askR_asked P b.no b3.1 b3.2 hp.ok b.fst.length (Nat.le_refl _)
        rw [List.take_length] at i4
        rcases i4 with e | ⟨k, hk, e, hpos⟩
        · rw [e] at hw; exact absurd rfl hw
        · have hkr := b3.1 k (List.mem_filter.1 hk).1
          obtain ⟨m, rfl⟩ := Int.eq_ofNat_of_zero_le hkr.1
          have hgd : P.getD (m : Int).toNat zP = P[m]'(by omega) := by
            have : m < P.length := by omega
            simp [this]
          rw [hgd] at e hpos
          rw [e]
          exact (okPl_word (hp.ok _ (List.getElem_mem _))).2.2.2.2.2 hpos
    generalize hw : runWd P b = w at *
    -- the takers
    have e1 : runP P b = (takeR (askR P b.no b.fst).1 b.no w b.snd).1 := by simp [runP, hok, runT, hw]
    obtain ⟨T1, T2⟩ := takeR_at (askR P b.no b.fst).1 b.no w (who := b.snd) (fun k hk => by rw [A1]; exact b4.1 k hk) b4.2 b.snd.length (Nat.le_refl _)
    rw [List.take_length] at T1 T2
    obtain ⟨D, D1, D2⟩ := takeR_sub b.no w b.snd ((askR P b.no b.fst).1, [])
    have D2' : (takeR (askR P b.no b.fst).1 b.no w b.snd).2 = D := by rw [takeR, D2]; rfl
    rw [D2'] at T1 T2
    have hDr : D.Pairwise (· < ·) := b4.2.sublist D1
    have hD0 : ∀ k ∈ D, 0 ≤ k ∧ k < P.length := fun k hk => b4.1 k (D1.subset hk)
    have hl2 : (takeR (askR P b.no b.fst).1 b.no w b.snd).1.length = P.length := by rw [takeR_len, A1]
    have e2 : runW P b = if P.length / 2 + 1 ≤ D.length then w else 0 := by simp [runW, hok, runT, hw, D2']
    rw [e1, e2]
    generalize hQ : (takeR (askR P b.no b.fst).1 b.no w b.snd).1 = Q at *
    generalize hA : (askR P b.no b.fst).1 = A at *
    -- each place: took now, or as it was
    have each : ∀ j (hj : j < P.length), ((j : Int) ∈ D ∧ Q.getD j zP = ⟨b.no, b.no, w⟩) ∨ ((j : Int) ∉ D ∧ Q.getD j zP = A.getD j zP) := fun j hj => by
      have a := T2 j
      by_cases hm : (j : Int) ∈ D
      · rw [if_pos hm] at a
        exact .inl ⟨hm, by rw [List.getD_eq_getElem?_getD, a]; rfl⟩
      · rw [if_neg hm] at a
        exact .inr ⟨hm, by rw [List.getD_eq_getElem?_getD, List.getD_eq_getElem?_getD, a]⟩
    have memQ : ∀ x ∈ Q, x = ⟨b.no, b.no, w⟩ ∨ x ∈ A := fun x hx => by
      obtain ⟨j, hj, rfl⟩ := List.getElem_of_mem hx
      have hj2 : j < A.length := by omega
      have g1 : Q.getD j zP = Q[j] := by simp [hj]
      have g2 : A.getD j zP = A[j] := by simp [hj2]
      rcases each j (by omega) with ⟨_, e⟩ | ⟨_, e⟩
      · exact .inl (by rw [← g1, e])
      · exact .inr (by rw [← g1, e, g2]; exact List.getElem_mem _)
    have cntQ : ∀ q : Pl → Bool, Q.countP q = (List.range P.length).countP fun j : Nat => if (j : Int) ∈ D then q ⟨b.no, b.no, w⟩ else q (A.getD j zP) := fun q => by
      rw [countP_getD, hl2]
      refine List.countP_congr fun j hj => ?_
      rcases each j (List.mem_range.1 hj) with ⟨hm, e⟩ | ⟨hm, e⟩
      · rw [e, if_pos hm]
      · rw [e, if_neg hm]
    have cntA : ∀ q : Pl → Bool, A.countP q = (List.range P.length).countP fun j => q (A.getD j zP) := fun q => by rw [countP_getD, A1]
    have noA : ∀ j, (A.getD j zP).taken ≠ b.no := fun j => by
      by_cases hj : j < A.length
      · have g2 : A.getD j zP = A[j] := by simp [hj]
        have := A5 A[j] (List.getElem_mem _)
        rw [g2]; omega
      · have g2 : A.getD j zP = zP := by simp [List.getElem?_eq_none (by omega : A.length ≤ j)]
        rw [g2]; simp [zP]; omega
    have told : ∀ u ∈ T, u ≠ 0 → 1 ≤ u ∧ ∃ t, 0 < t ∧ Q.length / 2 + 1 ≤ Q.countP (fun y => decide (t ≤ y.taken)) ∧ ∀ x ∈ Q, t ≤ x.taken → x.word = u := fun u hu h0 => by
      have hwu := again u hu h0
      obtain ⟨w1, t, t0, t1, t2⟩ := pa.told u hu h0
      refine ⟨w1, t, t0, ?_, fun x hx hxt => ?_⟩
      · rw [hl2]
        rw [A1] at t1
        refine Nat.le_trans t1 ?_
        rw [cntA, cntQ]
        refine List.countP_mono_left fun j _ h => ?_
        split
        · simp only [decide_eq_true_eq]
          -- some place took by a number up to N
          have : 0 < A.countP (fun y => decide (t ≤ y.taken)) := by omega
          obtain ⟨y, hy, hyt⟩ := List.countP_pos_iff.1 this
          have := A5 y hy
          simp only [decide_eq_true_eq] at hyt
          omega
        · exact h
      · rcases memQ x hx with rfl | hx
        · exact hwu
        · exact t2 x hx hxt
    refine ⟨fun x hx => ?_, fun x hx => ?_, fun u hu h0 => ?_, fun t u ht hc => ?_⟩
    · rcases memQ x hx with rfl | hx
      · simp only [okPl, Bool.and_eq_true, Bool.or_eq_true, decide_eq_true_eq]; omega
      · exact pa.ok x hx
    · rcases memQ x hx with rfl | hx
      · exact Int.le_refl _
      · exact pa.le x hx
    · rcases List.mem_append.1 hu with hu | hu
      · exact told u hu h0
      · simp only [List.mem_singleton] at hu
        by_cases hq : P.length / 2 + 1 ≤ D.length
        · rw [if_pos hq] at hu; subst hu
          refine ⟨wpos.1, b.no, by omega, ?_, fun x hx hxt => ?_⟩
          · rw [hl2, cntQ]
            have := count_mem P.length D hDr hD0
            rw [← this] at hq
            refine Nat.le_trans hq (List.countP_mono_left fun j _ h => ?_)
            simp only [decide_eq_true_eq] at h
            rw [if_pos h]; simp
          · rcases memQ x hx with rfl | hx
            · rfl
            · have := A5 x hx; omega
        · rw [if_neg hq] at hu; exact absurd hu h0
    · by_cases e : t = b.no
      · subst e
        rw [hl2, cntQ] at hc
        by_cases hq : u = w
        · subst hq
          have : ((List.range P.length).countP fun j : Nat => if (j : Int) ∈ D then decide ((⟨b.no, b.no, u⟩ : Pl).taken = b.no ∧ (⟨b.no, b.no, u⟩ : Pl).word = u) else decide ((A.getD j zP).taken = b.no ∧ (A.getD j zP).word = u)) = (List.range P.length).countP (fun j : Nat => decide ((j : Int) ∈ D)) := by
            refine List.countP_congr fun j _ => ?_
            split
            · rename_i h; simp [h]
            · rename_i h
              simp only [decide_eq_true_eq]
              exact ⟨fun hh => absurd hh.1 (noA j), fun hh => absurd hh h⟩
          rw [this, count_mem P.length D hDr hD0] at hc
          rw [if_pos hc]; simp
        · have : ((List.range P.length).countP fun j : Nat => if (j : Int) ∈ D then decide ((⟨b.no, b.no, w⟩ : Pl).taken = b.no ∧ (⟨b.no, b.no, w⟩ : Pl).word = u) else decide ((A.getD j zP).taken = b.no ∧ (A.getD j zP).word = u)) = 0 := by
            refine List.countP_eq_zero.2 fun j _ => ?_
            split
            · intro hd; exact hq (of_decide_eq_true hd).2.symm
            · intro hd; exact noA j (of_decide_eq_true hd).1
          omega
      · refine List.mem_append_left _ (pa.most t u ht ?_)
        rw [A1]
        rw [hl2, cntQ] at hc
        refine Nat.le_trans hc ?_
        rw [cntA]
        refine List.countP_mono_left fun j _ h => ?_
        split at h
        · simp at h; omega
        · exact h

theorem Px.all {n : Nat} {bs : List Bt} (hb : btsB n bs = true) : ∀ i, i ≤ bs.length → ∃ N, (∀ (h : i < bs.length), N < bs[i].no) ∧ Px N (runAll n (bs.take i)).1 (runAll n (bs.take i)).2 := by
  simp only [btsB, Bool.and_eq_true, decide_eq_true_eq, List.all_eq_true] at hb
  obtain ⟨⟨⟨hm, _⟩, hok⟩, hpw⟩ := hb
  intro i
  induction i with
  | zero =>
    intro _
    refine ⟨0, fun h => ?_, by simpa [runAll] using Px.new⟩
    have := (okBt_facts (hok _ (List.getElem_mem h))).1.1; omega
  | succ i ih =>
    intro hi
    have hn : i < bs.length := by omega
    obtain ⟨N, hN, hp⟩ := ih (by omega)
    refine ⟨bs[i].no, fun h => (List.pairwise_iff_getElem.1 hpw) i (i + 1) hn h (by omega), ?_⟩
    rw [runAll_snoc n hn]
    exact hp.step (by rw [(runAll_len n _).1, newP_len hm]) (hN hn) (hok _ (List.getElem_mem hn))
end GL

namespace GL
open Go

def rbB (l : List Pl) (b : Bt) : Bool := goodP l && okBt l.length b
theorem RunBallot_ok {h : Heap} {v x y : V} {l : List Pl} {b : Bt} {F1 F2 : List Nat} (hs : Sl h v l) (hx : SdF h x b.fst F1) (hy : SdF h y b.snd F2) :
    ∃ r h', call p 233 [v, .agg [vi b.no, vi b.word, x, y]] h = some (r, h') ∧ ∃ o, r = .tup [o, vi (if rbB l b = true then runW l b else 0), .bool (rbB l b)] ∧ Sl h' o (if rbB l b = true then runP l b else []) ∧ Keeps h h' ∧ h.length ≤ h'.length := by
  refine go (fn := g233) rfl rfl fun R hR => ?_
  have e1 := GoodPlaces_eq hs
  have bad : rbB l b = false → R (.tup [.nils, vi 0, .bool false]) h := fun hb => hR _ _ ⟨.nils, by simp [hb], by rw [if_neg (by rw [hb]; decide)]; exact Sl.nil, Keeps.refl _, Nat.le_refl _⟩
  cases hg : goodP l with
  | false => rw [hg] at e1; simp [g233, fillL, upd, hx.cells, hx.cell, hy.cells, hy.cell, e1]; exact bad (by simp [rbB, hg])
  | true =>
    rw [hg] at e1
    obtain ⟨hm, hl, _⟩ := goodP_facts hg
    have e2 := isGood_eq hx hy l.length hm
    cases hok : okBt l.length b with
    | false =>
      rw [hok] at e2
      simp [g233, fillL, upd, hx.cells, hx.cell, hy.cells, hy.cell, e1, hs.len, e2]
      exact bad (by simp [rbB, hok])
    | true =>
      rw [hok] at e2
      obtain ⟨b1, b2, b3, b4, b5, b6⟩ := okBt_facts hok
      obtain ⟨_, h3, e3, o, F, rfl, c3, f3, k3, l3⟩ := runBallot_ok hs hx hy (by omega) b3 b4 (by omega)
      have hb : rbB l b = true := by simp [rbB, hg, hok]
      simp [g233, fillL, upd, hx.cells, hx.cell, hy.cells, hy.cell, e1, hs.len, e2, e3]
      exact hR _ _ ⟨o, by simp [hb], by rw [if_pos hb]; exact c3.sl, k3, l3⟩

theorem RunBallotS_ok {h : Heap} {v x y : V} {l : List Pl} {b : Bt} {F1 F2 : List Nat} (hs : Sl h v l) (hx : SdF h x b.fst F1) (hy : SdF h y b.snd F2) :
    ∃ r h', call p 234 [v, .agg [vi b.no, vi b.word, x, y]] h = some (r, h') ∧ ∃ o, r = .tup [o, vi (if rbB l b = true then runW l b else 0), .bool (rbB l b)] ∧ Sl h' o (if rbB l b = true then runP l b else []) ∧ Keeps h h' ∧ h.length ≤ h'.length := by
  refine go (fn := g234) rfl rfl fun R hR => ?_
  have e1 := GoodPlacesS_eq hs
  have bad : rbB l b = false → R (.tup [.nils, vi 0, .bool false]) h := fun hb => hR _ _ ⟨.nils, by simp [hb], by rw [if_neg (by rw [hb]; decide)]; exact Sl.nil, Keeps.refl _, Nat.le_refl _⟩
  cases hg : goodP l with
  | false => rw [hg] at e1; simp [g234, fillL, upd, hx.cells, hx.cell, hy.cells, hy.cell, e1]; exact bad (by simp [rbB, hg])
  | true =>
    rw [hg] at e1
    obtain ⟨hm, hl, _⟩ := goodP_facts hg
    have e2 := l12Ballot_eq hx hy l.length (by omega)
    cases hok : okBt l.length b with
    | false =>
      rw [hok] at e2
      simp [g234, fillL, upd, hx.cells, hx.cell, hy.cells, hy.cell, e1, hs.len, e2]
      exact bad (by simp [rbB, hok])
    | true =>
      rw [hok] at e2
      obtain ⟨b1, b2, b3, b4, b5, b6⟩ := okBt_facts hok
      obtain ⟨e4, o, h3, e3, F, q1, q2, q3, q4⟩ := appNew hs (by omega) (k := 3) (bytes := 24) rfl (by decide)
      have lt1 : ∀ c ∈ F1, c < h.length := fun c hc => by obtain ⟨_, h1, _⟩ := hx.lt hc; exact get_lt h1
      have lt2 : ∀ c ∈ F2, c < h.length := fun c hc => by obtain ⟨_, h1, _⟩ := hy.lt hc; exact get_lt h1
      obtain ⟨_, h4, e5, rfl, c4, f4, k4, l4⟩ := l12Run_ok q1 q2 (hx.keep q3) (hy.keep q3) lt1 lt2 (by omega) b3.1 b4.1 (by omega)
      have hb : rbB l b = true := by simp [rbB, hg, hok]
      have hbo := q2.ge _ (q1.bIn (i := 0) (by omega))
      simp [g234, fillL, upd, hx.cells, hx.cell, hy.cells, hy.cell, e1, hs.len, e2, e4, e3, e5]
      exact hR _ _ ⟨o, by simp [hb], by rw [if_pos hb]; exact c4.sl, Keeps.far (n := h.length) q3 k4 (Nat.le_refl _) fun b hb e => by omega, by omega⟩

theorem drawBallots_ok {h : Heap} {v : V} {bs : List Byte} (hs : Sl h v bs) : ∃ r h', call p 227 [v] h = some (r, h') ∧ ∃ (n : Int) (w : V) (xs : List Bt) (F : List Nat), r = .tup [vi n, w] ∧ SdF h' w xs F ∧ Keeps h h' ∧ h.length ≤ h'.length := by
  have d0 := DC.start hs
  obtain ⟨n, h1, e1, hn, d1, k1, l1⟩ := d0.places (by decide)
  simp at l1
  obtain ⟨k, rfl⟩ := Int.eq_ofNat_of_zero_le (by omega : 0 ≤ n)
  obtain ⟨w, h2, e2, xs, F, c2, _, d2, k2, l2⟩ := d1.ballots (by decide) k (by omega)
  refine go (fn := g227) rfl rfl fun R hR => ?_
  simp [g227, hs.cells, hs.cell, fillL, e1, e2]
  exact hR _ _ ⟨k, w, xs, F, rfl, c2, d2.keep, by omega⟩
theorem drawPlaces_ok {h : Heap} {v : V} {bs : List Byte} (hs : Sl h v bs) : ∃ w h', call p 332 [v] h = some (w, h') ∧ ∃ (xs : List Pl) (F : List Nat), SdF h' w xs F ∧ Keeps h h' ∧ h.length ≤ h'.length := by
  have d0 := DC.start hs
  obtain ⟨w, h1, e1, xs, F, c1, hl, g1, d1, k1, l1⟩ := d0.placesOf (by decide)
  simp at l1
  refine go (fn := g332) rfl rfl fun R hR => ?_
  simp [g332, hs.cells, hs.cell, fillL, e1]
  exact hR _ _ ⟨xs, F, c1, d1.keep, by omega⟩
theorem drawChosen_ok {h : Heap} {v : V} {bs : List Byte} (hs : Sl h v bs) : ∃ w h', call p 230 [v] h = some (w, h') ∧ ∃ (xs : List Pl) (F : List Nat), SdF h' w xs F ∧ Keeps h h' ∧ h.length ≤ h'.length := by
  obtain ⟨w, h1, e1, q⟩ := drawPlaces_ok hs
  refine go (fn := g230) rfl rfl fun R hR => ?_
  simp [g230, e1]
  exact hR _ _ q
theorem drawBallot_ok {h : Heap} {v : V} {bs : List Byte} (hs : Sl h v bs) : ∃ r h', call p 232 [v] h = some (r, h') ∧ ∃ (w : V) (xs : List Pl) (F : List Nat) (b : Bt) (x y : V) (F1 F2 : List Nat), r = .tup [w, .agg [vi b.no, vi b.word, x, y]] ∧ SdF h' w xs F ∧ SdF h' x b.fst F1 ∧ SdF h' y b.snd F2 ∧ Keeps h h' ∧ h.length ≤ h'.length := by
  have d0 := DC.start hs
  obtain ⟨w, h1, e1, xs, F, c1, hl, g1, d1, k1, l1⟩ := d0.placesOf (by decide)
  simp at l1 g1
  have ne : ∀ b ∈ F, b ≠ h.length := fun b hb => by have := g1 b hb; omega
  obtain ⟨no, h2, e2, _, d2, k2, l2⟩ := d1.amongL (by decide) [0, 5, 20, 40, 41] 5 rfl [vi 0, vi 5, vi 20, vi 40, vi 41] rfl (.k 5) (by decide) (by decide)
  obtain ⟨q, h3, e3, hq, d3, k3, l3⟩ := d2.pick (by decide) 9 (by decide)
  have w1 : IntKind.i64.wrap (1 + (q : Int)) = (1 + q : Nat) := by rw [IntWalk.i64_in] <;> omega
  obtain ⟨x, h4, e4, f1, o4, _, d4, k4, l4⟩ := d3.someOf (by decide) xs.length (by omega)
  obtain ⟨y, h5, e5, f2, o5, _, d5, k5, l5⟩ := d4.someOf (by decide) xs.length (by omega)
  obtain ⟨F1, s1, r1⟩ := o4.fr
  obtain ⟨F2, s2, r2⟩ := o5.fr
  have s1' := s1.keeps (k5.P.mono fun b hb => by have := r1.ge b hb; omega)
  refine go (fn := g232) rfl rfl fun R hR => ?_
  simp [g232, hs.cells, hs.cell, fillL, upd, resV, mkV, e1, c1.len, e2, e3, w1, e4, e5, takeB, s1'.cells, s1'.cell, s2.cells, s2.cell, -Int.natCast_add]
  exact hR _ _ ⟨w, xs, F, ⟨no, (1 + q : Nat), f1, f2⟩, x, y, F1, F2, rfl, (((c1.keeps (k2.P.mono ne)).keeps (k3.P.mono ne)).keeps (k4.P.mono ne)).keeps (k5.P.mono ne), s1', s2, d5.keep, by omega⟩

/-- the told words: none is another than the last -/
theorem told_loop {t : V} {h : Heap} {ts : List Int} (ht : Sl h t ts) (hsame : ∀ a ∈ ts, ∀ b ∈ ts, 0 < a → 0 < b → a = b)
    (s0 : S) (K : Ex → S → Prop) (g13 : s0.σ 13 = .v (vi 0)) (g72 : s0.σ 72 = .v t) (g73 : s0.σ 73 = .v (vi ts.length)) (g74 : s0.σ 74 = .v (vi 0)) (gh : s0.h = h)
    (hK : ∀ s (w : Int), (∀ k, k ∉ [4, 13, 15, 74, 75, 76, 77, 78, 79, 80, 81, 82, 83, 84, 85, 86, 87, 88, 89, 90, 91, 92] → s.σ k = s0.σ k) → s.h = h → s.σ 13 = .v (vi w) → (∀ a ∈ ts, 0 < a → a = w) → K (.exit 0) s) : Wc p (.loop g226_0) s0 K := by
  refine Wc_upM (M := [4, 13, 15, 74, 75, 76, 77, 78, 79, 80, 81, 82, 83, 84, 85, 86, 87, 88, 89, 90, 91, 92]) rfl ts.length (fun i s => s.σ 74 = .v (vi i) ∧ s.h = h ∧ ∃ w : Int, s.σ 13 = .v (vi w) ∧ (∀ a ∈ ts.take i, 0 < a → a = w) ∧ (0 < w → w ∈ ts)) 0
    ⟨g74, gh, 0, g13, by simp, by simp⟩ fun i s ⟨g74, gh, w, g13, q1, q2⟩ hM J hJ => ?_
  by_cases hn : i < ts.length
  · have lp := ht.loadI i hn
    by_cases h1 : 0 < ts[i]
    · by_cases h2 : 0 < w
      · have h3 : ts[i] = w := hsame _ (List.getElem_mem _) _ (q2 h2) h1 h2
        simp [g226_0, hM, g72, g73, g74, gh, g13, hn, ht.idx, lp, h1, h2, h3, ht.step hn]
        exact hJ _ hn ⟨by simp, rfl, w, by simp [g13], (all_take_succ (P := fun a => 0 < a → a = w) hn).2 ⟨q1, fun _ => h3⟩, q2⟩
      · simp [g226_0, hM, g72, g73, g74, gh, g13, hn, ht.idx, lp, h1, h2, ht.step hn]
        refine hJ _ hn ⟨by simp, rfl, ts[i], by simp, (all_take_succ (P := fun a => 0 < a → a = ts[i]) hn).2 ⟨fun a ha hp => ?_, fun _ => rfl⟩, fun _ => List.getElem_mem _⟩
        have := q1 a ha hp; omega
    · simp [g226_0, hM, g72, g73, g74, gh, g13, hn, ht.idx, lp, h1, ht.step hn]
      exact hJ _ hn ⟨by simp, rfl, w, by simp [g13], (all_take_succ (P := fun a => 0 < a → a = w) hn).2 ⟨q1, fun h => absurd h h1⟩, q2⟩
  · rw [List.take_of_length_le (by omega)] at q1
    simp [g226_0, hM, g73, g74, hn]
    exact hK _ w (fun k hk => by simp only [List.mem_cons, List.not_mem_nil, or_false, not_or] at hk; simp [upd, hk, hM]) gh (by simp [g13]) q1

theorem word_pure {n : Nat} {bs : List Bt} (hb : btsB n bs = true) :
    (∀ a ∈ (runAll n bs).2, ∀ b ∈ (runAll n bs).2, 0 < a → 0 < b → a = b) ∧ goodP (runAll n bs).1 = true ∧ ∀ c, chosenO (runAll n bs).1 = some c → c.word ∈ (runAll n bs).2 ∧ 0 < c.word := by
  obtain ⟨N, _, hp⟩ := Px.all hb bs.length (Nat.le_refl _)
  rw [List.take_length] at hp
  have hm : manyB n = true := by simp only [btsB, Bool.and_eq_true] at hb; exact hb.1.1.1
  have hlen : (runAll n bs).1.length = n := by rw [(runAll_len n bs).1, newP_len hm]
  have hg : goodP (runAll n bs).1 = true := by
    simp only [goodP, hlen, hm, Bool.true_and, List.all_eq_true]; exact hp.ok
  refine ⟨fun a ha b hb h1 h2 => ?_, hg, fun c hc => ?_⟩
  · obtain ⟨_, t, t0, t1, t2⟩ := hp.told a ha (by omega)
    obtain ⟨_, u, u0, u1, u2⟩ := hp.told b hb (by omega)
    -- two groups of most places have one in common: the one with the greater number
    have key : ∀ (t u a b : Int), t ≤ u → (∀ x ∈ (runAll n bs).1, t ≤ x.taken → x.word = a) → (∀ x ∈ (runAll n bs).1, u ≤ x.taken → x.word = b) → (runAll n bs).1.length / 2 + 1 ≤ (runAll n bs).1.countP (fun y => decide (u ≤ y.taken)) → a = b := fun t u a b htu h1 h2 h3 => by
      have : 0 < (runAll n bs).1.countP (fun y => decide (u ≤ y.taken)) := by omega
      obtain ⟨y, hy, hyt⟩ := List.countP_pos_iff.1 this
      simp only [decide_eq_true_eq] at hyt
      rw [← h1 y hy (by omega), ← h2 y hy hyt]
    by_cases htu : t ≤ u
    · exact key t u a b htu t2 u2 u1
    · exact (key u t b a (by omega) u2 t2 t1).symm
  · rw [chosenO, if_pos hg] at hc
    have hcm := List.mem_of_find?_eq_some hc
    have hcq := List.find?_some hc
    simp only [chosen1, decide_eq_true_eq] at hcq
    refine ⟨hp.most c.taken c.word hcq.1 hcq.2, ?_⟩
    have := (okPl_word (hp.ok c hcm)).2.2.2.2.2 hcq.1; omega

theorem word_tail {H : Heap} {vb : V} {bs : List Byte} (hb : Sl H vb bs) : ∃ (u : V) (h1 : Heap) (c : Int) (ok : Bool) (v : V) (no wd : Int) (x y : V) (h2 : Heap) (q : V) (w : Int) (rk : Bool) (h3 : Heap) (q' : V) (h4 : Heap),
    call p 230 [vb] H = some (u, h1) ∧ call p 218 [u] h1 = some (.tup [vi c, .bool ok], h1) ∧ call p 231 [u] h1 = some (.tup [vi c, .bool ok], h1) ∧ call p 232 [vb] h1 = some (.tup [v, .agg [vi no, vi wd, x, y]], h2) ∧ call p 233 [v, .agg [vi no, vi wd, x, y]] h2 = some (.tup [q, vi w, .bool rk], h3) ∧ call p 234 [v, .agg [vi no, vi wd, x, y]] h3 = some (.tup [q', vi w, .bool rk], h4) ∧ call p 215 [q, q'] h4 = some (.bool true, h4) ∧ (x.cells = [x] ∧ x.cell = true) ∧ (y.cells = [y] ∧ y.cell = true) := by
  obtain ⟨u, h1, e1, us, F, c1, k1, l1⟩ := drawChosen_ok hb
  have e2 := ChosenIn_eq c1.sl
  have e3 := ChosenInS_eq c1.sl
  obtain ⟨_, h2, e4, v, xs, F', b, x, y, F1, F2, rfl, c2, x2, y2, k2, l2⟩ := drawBallot_ok (hb.keeps k1)
  obtain ⟨_, h3, e5, q, rfl, c3, k3, l3⟩ := RunBallot_ok c2.sl x2 y2
  obtain ⟨_, h4, e6, q', rfl, c4, k4, l4⟩ := RunBallotS_ok (c2.keep k3).sl (x2.keep k3) (y2.keep k3)
  exact ⟨u, h1, _, _, v, b.no, b.word, x, y, h2, q, _, _, h3, q', h4, e1, e2, e3, e4, e5, e6, samePlaces_same (c3.keeps k4) c4, ⟨x2.cells, x2.cell⟩, ⟨y2.cells, y2.cell⟩⟩

set_option maxRecDepth 20000 in
theorem FnWord_ok {h : Heap} {va vb : V} {as bs : List Byte} (ha : Sl h va as) (hb : Sl h vb bs) : ∃ r h', call p 226 [va, vb] h = some (r, h') ∧ r = .bool true := by
  refine go (fn := g226) rfl rfl fun R hR => ?_
  by_cases hbig : (1048576 : Int) < IntKind.i64.wrap ((as.length : Int) + bs.length)
  · simp [g226, ha.len, hb.len, hbig]
    exact hR _ _ rfl
  · obtain ⟨_, h1, e1, n, l, xs, F, rfl, c1, k1, l1⟩ := drawBallots_ok ha
    obtain ⟨_, h2, e2, o, t, rfl, o2, t2, k2, l2⟩ := RunBallots_ok c1 n
    obtain ⟨_, h3, e3, o', t', G, rfl, o3, f3, t3, k3, l3⟩ := RunBallotsS_ok (c1.keep k2) n
    have o2' := o2.keeps k3
    have t2' := t2.keeps k3
    have e4 : call p 24 [t, t'] h3 = some (.bool true, h3) := by rw [sameInts_eq t2' t3]; simp
    have e5 := samePlaces_same o2' o3.sl
    obtain ⟨u, g1, c, ok, v, no, wd, x, y, g2, q, w, rk, g3, q', g4, s1, s2, s3, s4, s5, s6, s7, ⟨z1, z2⟩, ⟨z3, z4⟩⟩ := word_tail (hb.keeps ((k1.trans k2).trans k3))
    cases hbt : btsB n xs with
    | false =>
      rw [hbt] at e2 e3
      simp [g226, ha.len, hb.len, hbig, fillL, upd, resV, mkV, e1, e2, e3, e4, e5, s1, s2, s3, s4, s5, s6, s7, z1, z2, z3, z4]
      exact hR _ _ rfl
    | true =>
      rw [hbt] at e2 e3
      rw [hbt, if_pos rfl] at o2' t2'
      have hm : manyB n = true := by simp only [btsB, Bool.and_eq_true] at hbt; exact hbt.1.1.1
      obtain ⟨k, rfl, _, _⟩ := nat_of_many hm
      obtain ⟨p1, p2, p3⟩ := word_pure hbt
      have e6 := ChosenIn_eq o2'
      have e7 := GoodPlaces_eq o2'
      rw [p2] at e7
      simp [g226, ha.len, hb.len, hbig, fillL, upd, resV, mkV, e1, e2, e3, e4, e5, t2'.len]
      refine told_loop t2' p1 _ _ (by simp) (by simp) (by simp) (by simp) rfl fun s w13 hM gh g13 hw => ?_
      have m7 : s.σ 7 = .v o := by rw [hM 7 (by decide)]; simp
      have m1 : s.σ 1 = .v vb := by rw [hM 1 (by decide)]; simp
      cases hch : chosenO (runAll k xs).1 with
      | none =>
        rw [hch] at e6
        simp [m7, m1, g13, gh, e6, e7, fillL, upd, resV, mkV, s1, s2, s3, s4, s5, s6, s7, z1, z2, z3, z4]
        exact hR _ _ rfl
      | some c0 =>
        rw [hch] at e6
        obtain ⟨p4, p5⟩ := p3 c0 hch
        have hcw : chosenW (runAll k xs).1 = w13 := by
          rw [chosenW, hch]; exact hw c0.word p4 p5
        have hw0 : ¬ w13 = 0 := by have := hw c0.word p4 p5; omega
        rw [hcw] at e6
        simp [m7, m1, g13, gh, e6, e7, hw0, fillL, upd, resV, mkV, s1, s2, s3, s4, s5, s6, s7, z1, z2, z3, z4]
        exact hR _ _ rfl
end GL

