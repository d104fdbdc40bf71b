import Derived.ChangeArms
import Derived.IntWalk
import Derived.WideShapes
import Derived.Test.YtnlagjpblhjnbaaGp
/- What the functions of the law do, on the machine. -/
set_option linter.unusedSimpArgs false
set_option linter.unusedVariables false
/-! truths -/
namespace GL
open Go

@[simp] theorem within_eq (n lo hi : Int) (h : Heap) : call p 107 [vi n, vi lo, vi hi] h = some (.bool (decide (lo ≤ n ∧ n ≤ hi)), h) := by
  apply W_eq
  refine call_W (fn := g107) rfl rfl ?_
  by_cases h1 : lo ≤ n <;> simp [g107, h1]

@[simp] theorem l1In_eq (n lo hi : Int) (h : Heap) : call p 98 [vi n, vi lo, vi hi] h = some (.bool (decide (lo ≤ n ∧ n ≤ hi)), h) := by
  apply W_eq
  refine call_W (fn := g98) rfl rfl ?_
  by_cases h1 : lo ≤ n <;> simp [g98, h1]

def isT (n : Int) : Prop := 0 ≤ n ∧ n ≤ 2
instance (n : Int) : Decidable (isT n) := inferInstanceAs (Decidable (_ ∧ _))

end GL

/-! the cursor of the draws -/
namespace GL
open Go

/-- a cursor at block c: what it holds, and how far it has come at most -/
def Cur (h : Heap) (c N : Nat) : Prop := ∃ (v : V) (bs : List Byte) (n : Nat) (sd : Int), h[c]? = some ⟨.own, [v, vi n, .int .u64 sd]⟩ ∧ Sl h v bs ∧ (bs = [] ∨ bOf v < c) ∧ n ≤ N

theorem Cur.mono {h : Heap} {c N M : Nat} (hc : Cur h c N) (hn : N ≤ M) : Cur h c M := by
  obtain ⟨v, bs, n, sd, h1, h2, h3, h4⟩ := hc
  exact ⟨v, bs, n, sd, h1, h2, h3, by omega⟩

theorem Cur.keeps {h h' : Heap} {c N : Nat} (hc : Cur h c N) (hk : Keeps h h') : Cur h' c N := by
  obtain ⟨v, bs, n, sd, h1, h2, h3, h4⟩ := hc
  exact ⟨v, bs, n, sd, hk _ _ h1 (by simp), h2.keeps hk, h3, h4⟩

theorem Cur.lt {h : Heap} {c N : Nat} (hc : Cur h c N) : c < h.length := by
  obtain ⟨_, _, _, _, h1, _⟩ := hc; exact get_lt h1

theorem Cur.keepsP {h h' : Heap} {c N : Nat} {P : Nat → Prop} (hc : Cur h c N) (hk : KeepsP P h h') (hp : ∀ i, i ≤ c → P i) : Cur h' c N := by
  obtain ⟨v, bs, n, sd, h1, h2, h3, h4⟩ := hc
  refine ⟨v, bs, n, sd, hk _ _ (hp _ (Nat.le_refl _)) h1 (by simp), ?_, h3, h4⟩
  refine ⟨h2.1, ?_⟩
  rcases h2.2 with hs | ⟨b, off, cap, hv, hs⟩
  · exact .inl hs
  · refine .inr ⟨b, off, cap, hv, ?_⟩
    rcases hs with hs | ⟨blk, h6, h7, h8⟩
    · exact .inl hs
    · subst hv
      rcases h3 with h5 | h5
      · exact .inl h5
      · exact .inr ⟨blk, hk _ _ (hp _ (Nat.le_of_lt h5)) h6 h7, h7, h8⟩

theorem Cur.set {h : Heap} {c N n : Nat} {v : V} {bs : List Byte} {nb : Blk} {sd sd' : Int} (h1 : h[c]? = some ⟨.own, [v, vi n, .int .u64 sd]⟩) (h2 : Sl h v bs) (h3 : bs = [] ∨ bOf v < c) (hn : n ≤ N)
    (hb : nb = ⟨.own, [v, vi (n + 1 : Nat), .int .u64 sd']⟩) : Cur (h.set c nb) c (N + 1) := by
  subst hb
  exact ⟨v, bs, n + 1, sd', by simp [get_lt h1], h2.but (h3.imp_right Nat.ne_of_lt) (KeepsBut.set _ _ _), h3, by omega⟩

theorem mod_byte (k : Nat) : ∃ x : Nat, x ≤ 255 ∧ IntKind.i64.wrap (IntKind.u64.wrap ((k &&& 255 % 2 ^ IntKind.u64.bits : Nat) : Int)) = x := by
  have h1 : 255 % 2 ^ IntKind.u64.bits = 2 ^ 8 - 1 := by decide
  refine ⟨k % 256, by omega, ?_⟩
  rw [h1, Nat.and_two_pow_sub_one_eq_mod, IntWalk.u64_in _ (by omega), IntWalk.i64_in _ (by omega)]

theorem next_ok {h : Heap} {c N : Nat} (hc : Cur h c N) (hN : N < 2 ^ 62) : ∃ v h', call p 140 [.ptr c 0] h = some (v, h') ∧ ∃ x : Nat, v = vi x ∧ x ≤ 255 ∧ Cur h' c (N + 1) ∧ KeepsBut c h h' ∧ h'.length = h.length := by
  obtain ⟨v, bs, n, sd, h1, h2, h3, h4⟩ := hc
  refine go (fn := g140) rfl rfl fun R hR => ?_
  have hlt := get_lt h1
  have hw : IntKind.i64.wrap ((n : Int) + 1) = (n + 1 : Nat) := by rw [IntWalk.i64_in] <;> omega
  by_cases hn : n < bs.length
  · have hb0 := bs[n].lt
    have hw2 : IntKind.i64.wrap (bs[n].n : Int) = bs[n].n := IntWalk.i64_in _ (by omega)
    have hle : ((n : Int) + 1) ≤ bs.length := by omega
    simp [g140, rdH_at h1, wrH_at h1, rdH_set hlt, wrH_set hlt, h2.len, h2.idx, hn, h2.loadB, hw, hw2, hle]
    exact hR _ _ ⟨bs[n].n, rfl, by omega, Cur.set h1 h2 h3 h4 rfl, KeepsBut.set _ _ _, by simp⟩
  · have hle : ¬ ((n : Int) + 1) ≤ bs.length := by omega
    simp [g140, rdH_at h1, wrH_at h1, rdH_set hlt, wrH_set hlt, h2.len, hn, hw, hle, -Int.natCast_emod]
    obtain ⟨x, hx1, hx2⟩ := mod_byte (((IntKind.u64.wrap (IntKind.u64.wrap (IntKind.u64.wrap (sd * 6364136223846793005) + IntKind.u64.wrap 0) + 1442695040888963407)).fdiv (2 ^ min 40 IntKind.u64.bits) % 2 ^ IntKind.u64.bits).toNat)
    exact hR _ _ ⟨x, by rw [hx2], hx1, Cur.set h1 h2 h3 h4 rfl, KeepsBut.set _ _ _, by simp⟩

theorem pick_ok {h : Heap} {c N n : Nat} (hc : Cur h c N) (hN : N < 2 ^ 61) (hn : n < 2 ^ 40) :
    ∃ v h', call p 91 [.ptr c 0, vi n] h = some (v, h') ∧ ∃ x : Nat, v = vi x ∧ x < max n 1 ∧ Cur h' c (N + 2) ∧ KeepsBut c h h' ∧ h'.length = h.length := by
  refine go (fn := g91) rfl rfl fun R hR => ?_
  by_cases h1 : n ≤ 1
  · have h1' : (n : Int) ≤ 1 := by omega
    simp [g91, h1']
    exact hR _ _ ⟨0, rfl, by omega, hc.mono (by omega), KeepsBut.refl _ _, rfl⟩
  · have h1' : ¬ (n : Int) ≤ 1 := by omega
    obtain ⟨_, h2, e1, x, rfl, hx, c1, k1, l1⟩ := next_ok hc (by omega)
    have h0 : ¬ n = 0 := by omega
    by_cases h2 : 200 < n
    · have h2' : (200 : Int) < n := by omega
      obtain ⟨_, h3, e2, y, rfl, hy, c2, k2, l2⟩ := next_ok c1 (by omega)
      have w1 : IntKind.i64.wrap ((x : Int) * 256) = (x * 256 : Nat) := by rw [IntWalk.i64_in] <;> omega
      have w2 : IntKind.i64.wrap (((x * 256 : Nat) : Int) + y) = (x * 256 + y : Nat) := by rw [IntWalk.i64_in] <;> omega
      have w3 : (((x * 256 + y : Nat) : Int)).tmod n = ((x * 256 + y) % n : Nat) := by rw [Int.tmod_eq_emod_of_nonneg (by omega)]; rfl
      simp [g91, h1', e1, h2', e2, w1, w2, h0, w3, -Int.natCast_mul, -Int.natCast_add, -Int.natCast_emod]
      exact hR _ _ ⟨(x * 256 + y) % n, rfl, by have := Nat.mod_lt (x * 256 + y) (show n > 0 by omega); omega, c2, k1.trans k2, by omega⟩
    · have h2' : ¬ (200 : Int) < n := by omega
      have w3 : ((x : Int)).tmod n = (x % n : Nat) := by rw [Int.tmod_eq_emod_of_nonneg (by omega)]; rfl
      simp [g91, h1', e1, h2', h0, w3, -Int.natCast_emod]
      exact hR _ _ ⟨x % n, rfl, by have := Nat.mod_lt x (show n > 0 by omega); omega, c1.mono (by omega), k1, by omega⟩

theorem one_ok {h : Heap} {c N n : Nat} (hc : Cur h c N) (hN : N < 2 ^ 61) (hn : n < 2 ^ 40) :
    ∃ v h', call p 92 [.ptr c 0, vi n] h = some (v, h') ∧ ∃ b : Bool, v = .bool b ∧ Cur h' c (N + 2) ∧ KeepsBut c h h' ∧ h'.length = h.length := by
  obtain ⟨_, h2, e1, x, rfl, hx, c1, k1, l1⟩ := pick_ok hc hN hn
  refine go (fn := g92) rfl rfl fun R hR => ?_
  simp [g92, e1]
  exact hR _ _ ⟨_, rfl, c1, k1, l1⟩

theorem among_ok {h : Heap} {c N : Nat} {v : V} {xs : List Int} (hc : Cur h c N) (hN : N < 2 ^ 61) (hs : Sl h v xs) (hb : bOf v ≠ c) (h0 : 0 < xs.length) (hn : xs.length < 2 ^ 40) :
    ∃ r h', call p 93 [.ptr c 0, v] h = some (r, h') ∧ ∃ x ∈ xs, r = vi x ∧ Cur h' c (N + 2) ∧ KeepsBut c h h' ∧ h'.length = h.length := by
  obtain ⟨_, h2, e1, i, rfl, hi, c1, k1, l1⟩ := pick_ok hc hN hn
  have hs2 := hs.but (.inr hb) k1
  have hi' : i < xs.length := by omega
  refine go (fn := g93) rfl rfl fun R hR => ?_
  simp [g93, hs.len, e1, hs2.idx, hi', hs2.loadI]
  exact hR _ _ ⟨xs[i], by simp, rfl, c1, k1, l1⟩
end GL

namespace GL
open Go

theorem drawTwo {h : Heap} {v : V} {bs : List Byte} (hs : Sl h v bs) : Cur (h ++ [⟨.own, [v, vi 0, .int .u64 0]⟩]) h.length 0 := by
  refine ⟨v, bs, 0, 0, by simp, hs.keeps (Keeps.append h _), ?_, Nat.le_refl _⟩
  rcases hs.2 with ⟨_, h1⟩ | ⟨b, off, cap, rfl, h1 | ⟨blk, h1, _⟩⟩
  · exact .inl h1
  · exact .inl h1
  · exact .inr (get_lt h1)

theorem l1All_eq {h : Heap} {v : V} {xs : List Int} (hs : Sl h v xs) (lo hi : Int) : call p 94 [v, vi lo, vi hi] h = some (.bool (xs.all fun n => decide (lo ≤ n ∧ n ≤ hi)), h) := by
  refine go_eq (fn := g94) rfl rfl fun R hR => ?_
  simp [g94, hs.len]
  refine Wc_up xs.length (fun i s => s.σ 9 = .v v ∧ s.σ 10 = .v (vi xs.length) ∧ s.σ 11 = .v (vi i) ∧ s.σ 1 = .v (vi lo) ∧ s.σ 2 = .v (vi hi) ∧ s.h = h ∧ ∀ x ∈ xs.take i, lo ≤ x ∧ x ≤ hi) 0 (by simp) fun i s ⟨h9, h10, h11, h1, h2, hh, hall⟩ => ?_
  by_cases hn : i < xs.length
  · by_cases hx : lo ≤ xs[i] ∧ xs[i] ≤ hi
    · have h3 : ∀ x ∈ xs.take (i + 1), lo ≤ x ∧ x ≤ hi := by
        rw [List.take_succ_eq_append_getElem hn]; intro x hx'
        rcases List.mem_append.1 hx' with h | h
        · exact hall x h
        · simp at h; subst h; exact hx
      simp [g94_0, h9, h10, h11, h1, h2, hh, hn, hs.idx, hs.loadI, hx, hs.step hn]
      exact h3
    · have h3 : (xs.all fun n => decide (lo ≤ n ∧ n ≤ hi)) = false := by
        rw [List.all_eq_false]; exact ⟨xs[i], by simp, by simpa using hx⟩
      rw [h3] at hR
      simp [g94_0, h9, h10, h11, h1, h2, hh, hn, hs.idx, hs.loadI, hx, -Bool.decide_and]
      exact hR
  · have h3 : (xs.all fun n => decide (lo ≤ n ∧ n ≤ hi)) = true := by
      rw [List.all_eq_true]; intro x hx; rw [List.take_of_length_le (by omega)] at hall; simpa using hall x hx
    rw [h3] at hR
    simp [g94_0, h10, h11, hh, hn]
    exact hR
end GL

namespace GL
open Go

end GL

namespace GL
open Go

theorem KeepsBut.out {c lo : Nat} {h h' : Heap} {α : Type} [Flat α] {v : V} {xs : List α} (hk : KeepsBut c h h') (ho : Out lo h v xs) (hc : c < lo) (hl : h.length ≤ h'.length) : Out lo h' v xs :=
  ho.keeps (P := fun i => i ≠ c) (fun b blk hb h1 h2 => hk b blk hb h1 h2) (fun i hi => by have := (ho.ge hi).1; omega) hl

theorem Keeps.out {lo : Nat} {h h' : Heap} {α : Type} [Flat α] {v : V} {xs : List α} (hk : Keeps h h') (ho : Out lo h v xs) (hl : h.length ≤ h'.length) : Out lo h' v xs :=
  ho.keeps (P := fun _ => True) (fun b blk _ h1 h2 => hk b blk h1 h2) (fun _ _ => trivial) hl

/-- nothing that stood at first is touched -/
theorem Keeps.far {n : Nat} {h0 h h' : Heap} {P : Nat → Prop} (h1 : Keeps h0 h) (hk : KeepsP P h h') (hn : h0.length ≤ n) (hp : ∀ i, i < n → P i) : Keeps h0 h' := fun i blk hi hl =>
  hk i blk (hp i (by have := get_lt hi; omega)) (h1 i blk hi hl) hl
theorem KeepsBut.P {c : Nat} {h h' : Heap} (hk : KeepsBut c h h') : KeepsP (fun i => i ≠ c) h h' := fun b blk hb h1 h2 => hk b blk hb h1 h2

theorem Sl.lit {h : Heap} {α : Type} [Flat α] (l : List α) (n : Nat) (hn : n = l.length) (cs : List V) (hc : cs = flats l) (cap : Cap) (hb : l.length < 2 ^ 63) : Sl (h ++ [⟨.own, cs⟩]) (.slice h.length 0 n cap) l := by
  subst hn; subst hc
  exact Sl.whole _ (get_last _ _) (by simp) rfl hb

def DI (h0 : Heap) (k : Nat) (s : S) : Prop :=
  k ≤ 30 ∧ s.σ 5 = .v (vi k) ∧ s.σ 3 = .v (.ptr h0.length 0) ∧ ∃ v xs, s.σ 4 = .v v ∧ Out (h0.length + 1) s.h v (xs : List Int) ∧ xs.length ≤ 30 - k ∧ Cur s.h h0.length (1000 - 2 * k) ∧ Keeps h0 s.h

theorem DI.start {h0 h : Heap} {σ : Nat → T} {L : Nat → Nat × List V} {wt : Nat → Option (ROp × List T × V)} {fl : Nat → Bool} {b N n : Nat} (hn : n ≤ 30) (h5 : σ 5 = .v (vi n)) (h3 : σ 3 = .v (.ptr h0.length 0)) (h4 : σ 4 = .v .nils)
    (hc : Cur h h0.length N) (hN : N ≤ 900) (hk : Keeps h0 h) : DI h0 n ⟨σ, L, h, wt, fl, b⟩ :=
  ⟨hn, h5, h3, .nils, [], h4, Out.nil (by have := hc.lt; show h0.length + 1 ≤ h.length; omega), by simp, hc.mono (by omega), hk⟩

end GL

namespace GL
open Go

end GL

/-! values -/
namespace GL
open Go

structure Val where
  null : Bool
  n : Int
instance : Flat Val := ⟨2, fun x => [.bool x.null, vi x.n], fun _ => rfl, fun _ => rfl, by decide⟩
end GL

namespace GL
open Go

theorem KeepsBut.lit {c : Nat} {h : Heap} (l : Heap) : KeepsBut c h (h ++ l) := (Keeps.append h l).but c

end GL

namespace GL
open Go

theorem Out.one {lo : Nat} {h : Heap} {v : V} {xs : List Int} (ho : Out lo h v xs) (x : Int) (hx : xs.length ≤ 2 ^ 20) :
    ∃ v' h', appH 1 8 v 1 [vi x] (h ++ [⟨.own, [vi x]⟩]) = some (v', h') ∧ Out lo h' v' (xs ++ [x]) ∧ KeepsP (fun i => ¬ vB v i) h h' ∧ h.length < h'.length := by
  have o3 : Out lo (h ++ [⟨.own, [vi x]⟩]) v xs := (Keeps.append h _).out ho (by simp)
  obtain ⟨v', h', e4, o4, k4, l4, b4⟩ := o3.app [x] (by simp) (bytes := 8) (by decide) (by simp; omega) (k := 1) rfl (n := 1) rfl (ys := [vi x]) rfl
  exact ⟨v', h', e4, o4, fun i blk hi h1 h2 => k4 i blk hi (Keeps.append h _ i blk h1 h2) h2, by simp at l4; omega⟩

theorem Out.far {lo : Nat} {h0 h h' : Heap} {α : Type} [Flat α] {v : V} {xs : List α} (ho : Out lo h v xs) (hk : Keeps h0 h) (hp : KeepsP (fun i => ¬ vB v i) h h') (hl : h0.length ≤ lo) : Keeps h0 h' :=
  Keeps.far hk hp hl fun i hi hv => by have := (ho.ge hv).1; omega

end GL

namespace GL
open Go

theorem sameInts_eq {h : Heap} {v w : V} {xs ys : List Int} (hs : Sl h v xs) (ht : Sl h w ys) : call p 24 [v, w] h = some (.bool (decide (xs = ys)), h) := by
  refine go_eq (fn := g24) rfl rfl fun R hR => ?_
  by_cases hl : xs.length = ys.length
  · simp [g24, hs.len, ht.len, hl]
    refine Wc_upJ xs.length (fun i s => s.σ 0 = .v v ∧ s.σ 1 = .v w ∧ s.σ 12 = .v (vi xs.length) ∧ s.σ 13 = .v (vi i) ∧ s.h = h ∧ xs.take i = ys.take i) 0 (by simp [hl]) fun i s ⟨g0, g1, g12, g13, gh, hall⟩ J hJ => ?_
    by_cases hn : i < xs.length
    · have hn' : i < ys.length := by omega
      by_cases he : xs[i] = ys[i]
      · have : xs.take (i + 1) = ys.take (i + 1) := by
          rw [List.take_succ_eq_append_getElem hn, List.take_succ_eq_append_getElem hn', hall, he]
        simp [g24_0, g0, g1, g12, g13, gh, hn, hn', hs.idx, hs.loadI, ht.idx, ht.loadI, he, hs.step hn]
        exact hJ _ hn ⟨by simp [g0], by simp [g1], by simp [g12], by simp, rfl, this⟩
      · have hne : ¬ xs = ys := fun e => he (by subst e; rfl)
        simp [g24_0, g0, g1, g12, g13, gh, hn, hn', hs.idx, hs.loadI, ht.idx, ht.loadI, he]
        simpa [hne] using hR
    · have : xs = ys := by
        rw [List.take_of_length_le (by omega), List.take_of_length_le (by omega)] at hall; exact hall
      simp [g24_0, g12, g13, gh, hn]
      simpa [this] using hR
  · have hne : ¬ xs = ys := fun e => hl (by rw [e])
    have hl' : ¬ (xs.length : Int) = ys.length := by omega
    simp only [hne, decide_false] at hR
    simp [g24, hs.len, ht.len]
    rw [if_neg hl']
    exact hR
end GL

namespace GL
open Go

end GL

namespace GL
open Go

end GL

namespace GL
open Go

end GL

/-! sums -/
namespace GL
open Go

end GL

/-! GL: what code does not touch. -/
namespace GL
open Go

def xmods : List AOper → List Nat
  | [] => []
  | o :: r => (match o.dst with | some t => [t] | none => []) ++ xmods r

/-- the slots that code may set -/
def mods : Code → List Nat
  | .reg _ ops => xmods ops
  | .seq a b => mods a ++ mods b
  | .cond _ a b => mods a ++ mods b
  | .block _ c => mods c
  | .loop c => mods c
  | _ => []

theorem put_mods (s : S) (d : Option Nat) (x : T) {k : Nat} (hk : k ∉ (match d with | some t => [t] | none => [])) : (s.put d x).σ k = s.σ k := by
  cases d with
  | none => rfl
  | some t =>
    have : k ≠ t := by simpa using hk
    simp [S.put, upd, this]

theorem xop_mods {c : CallF} {o : AOper} {s s' : S} (h : xop c o s = some s') {k : Nat} (hk : k ∉ (match o.dst with | some t => [t] | none => [])) : s'.σ k = s.σ k := by
  unfold xop at h
  obtain ⟨b, _, h⟩ := Option.bind_eq_some_iff.1 h
  split at h
  · unfold aop at h
    split at h
    · obtain ⟨x, _, h⟩ := Option.bind_eq_some_iff.1 h
      cases h; exact put_mods _ _ _ hk
    · obtain ⟨r, _, h⟩ := Option.bind_eq_some_iff.1 h
      cases h; exact put_mods { s with L := r.2 } _ _ hk
    · obtain ⟨r, _, h⟩ := Option.bind_eq_some_iff.1 h
      split at h
      · split at h
        · cases h; exact put_mods { s with wt := _ } _ _ hk
        · cases h
      · cases h; exact put_mods _ _ _ hk
    · obtain ⟨r, _, h⟩ := Option.bind_eq_some_iff.1 h
      split at h
      · cases h; exact put_mods { s with h := _ } _ _ hk
      · cases h
    · obtain ⟨r, _, h⟩ := Option.bind_eq_some_iff.1 h
      split at h
      · cases h; exact put_mods { s with h := _, fl := _ } _ _ hk
      · cases h
  · cases h; exact put_mods _ _ _ hk

theorem xops_mods {c : CallF} : ∀ {l : List AOper} {s s' : S}, xops c l s = some s' → ∀ {k : Nat}, k ∉ xmods l → s'.σ k = s.σ k
  | [], s, s', h, k, _ => by simp [xops] at h; rw [h]
  | o :: r, s, s', h, k, hk => by
    simp only [xops] at h
    obtain ⟨s1, h1, h⟩ := Option.bind_eq_some_iff.1 h
    rw [xops_mods h fun hm => hk (List.mem_append_right _ hm), xop_mods h1 fun hm => hk (List.mem_append_left _ hm)]

theorem den_mods {p : Prog} : ∀ {c : Code} {s : S} {e : Ex} {s' : S}, den p c s = some (e, s') → ∀ {k : Nat}, k ∉ mods c → s'.σ k = s.σ k := by
  intro c
  induction c with
  | skip => intro s e s' h k _; simp [den] at h; rw [h.2]
  | exit i => intro s e s' h k _; simp [den] at h; rw [h.2]
  | ret => intro s e s' h k _; simp [den] at h; rw [h.2]
  | bad => intro s e s' h k _; simp [den] at h
  | reg n l =>
    intro s e s' h k hk
    simp only [den] at h
    obtain ⟨s1, h1, h⟩ := Option.bind_eq_some_iff.1 h
    cases h
    exact (xops_mods h1 hk).trans rfl
  | seq a b iha ihb =>
    intro s e s' h k hk
    simp only [den] at h
    obtain ⟨⟨e1, s1⟩, h1, h⟩ := Option.bind_eq_some_iff.1 h
    have ha := iha h1 (k := k) fun hm => hk (List.mem_append_left _ hm)
    cases e1 with
    | norm => rw [ihb h fun hm => hk (List.mem_append_right _ hm), ha]
    | exit i => cases h; exact ha
    | ret => cases h; exact ha
  | cond c a b iha ihb =>
    intro s e s' h k hk
    simp only [den] at h
    split at h
    · exact iha h fun hm => hk (List.mem_append_left _ hm)
    · exact ihb h fun hm => hk (List.mem_append_right _ hm)
    · cases h
  | block i c ih =>
    intro s e s' h k hk
    simp only [den] at h
    obtain ⟨⟨e1, s1⟩, h1, h⟩ := Option.bind_eq_some_iff.1 h
    have ha := ih h1 (k := k) hk
    cases e1 with
    | norm => cases h; exact ha
    | ret => cases h; exact ha
    | exit j =>
      simp only at h
      split at h <;> (cases h; exact ha)
  | loop c ih =>
    intro s e s' h k hk
    obtain ⟨n, h0⟩ := den_loop.1 h
    clear h
    revert h0
    induction n generalizing s with
    | zero => intro h; simp [loopN] at h
    | succ n ihn =>
      intro h
      simp only [loopN] at h
      obtain ⟨⟨e1, s1⟩, h1, h⟩ := Option.bind_eq_some_iff.1 h
      have ha := ih h1 (k := k) hk
      cases e1 with
      | norm => exact (ihn h).trans ha
      | exit i => cases h; exact ha
      | ret => cases h; exact ha

/-- a loop that counts up to n, with what it leaves alone -/
theorem Wc_upM {p : Prog} {c : Code} {s0 : S} {Q : Ex → S → Prop} {M : List Nat} (hm : ((mods c).all fun k => M.contains k) = true) (n : Nat) (I : Nat → S → Prop) (i : Nat) (h0 : I i s0)
    (hb : ∀ i s, I i s → (∀ k, k ∉ M → s.σ k = s0.σ k) → ∀ J : S → Prop, (∀ s', i < n → I (i + 1) s' → J s') → Wc p c s (stepK J Q)) : Wc p (.loop c) s0 Q := by
  have hm' : ∀ k, k ∉ M → k ∉ mods c := fun k hk hc => hk (by simpa using List.all_eq_true.1 hm k hc)
  refine Wc_up n (fun i s => I i s ∧ ∀ k, k ∉ M → s.σ k = s0.σ k) i ⟨h0, fun _ _ => rfl⟩ fun i s ⟨hI, hM⟩ => ?_
  obtain ⟨⟨e, s'⟩, h1, hq⟩ := hb i s hI hM (fun s' => i < n ∧ I (i + 1) s') fun s' h1 h2 => ⟨h1, h2⟩
  refine ⟨(e, s'), h1, ?_⟩
  cases e with
  | norm => exact ⟨hq.1, hq.2, fun k hk => (den_mods h1 (hm' k hk)).trans (hM k hk)⟩
  | exit x => exact hq
  | ret => exact hq

/-- a loop that goes down, with what it leaves alone -/
theorem Wc_dnM {p : Prog} {c : Code} {s0 : S} {Q : Ex → S → Prop} {M : List Nat} (hm : ((mods c).all fun k => M.contains k) = true) (I : Nat → S → Prop) (k0 : Nat) (h0 : I k0 s0)
    (hb : ∀ k s, I k s → (∀ k, k ∉ M → s.σ k = s0.σ k) → ∀ J : S → Prop, (∀ j s', j < k → I j s' → J s') → Wc p c s (stepK J Q)) : Wc p (.loop c) s0 Q := by
  have hm' : ∀ k, k ∉ M → k ∉ mods c := fun k hk hc => hk (by simpa using List.all_eq_true.1 hm k hc)
  refine Wc_loop (fun i s => I i s ∧ ∀ k, k ∉ M → s.σ k = s0.σ k) k0 ⟨h0, fun _ _ => rfl⟩ fun i s ⟨hI, hM⟩ => ?_
  obtain ⟨⟨e, s'⟩, h1, hq⟩ := hb i s hI hM (fun s' => ∃ j, j < i ∧ I j s') fun j s' h1 h2 => ⟨j, h1, h2⟩
  refine ⟨(e, s'), h1, ?_⟩
  cases e with
  | norm => exact let ⟨j, h2, h3⟩ := hq; ⟨j, h2, h3, fun k hk => (den_mods h1 (hm' k hk)).trans (hM k hk)⟩
  | exit x => exact hq
  | ret => exact hq
end GL

namespace GL
open Go

end GL

namespace GL
open Go

end GL

/-! GL: data with slices inside. -/
namespace GL
open Go

/-- data in memory: its cells, and the blocks that it lies in -/
class Data (α : Type) where
  sz : Nat
  pos : 0 < sz
  rep : Heap → α → List V → List Nat → Prop
  len : ∀ {h a cs F}, rep h a cs F → cs.length = sz
  ok : ∀ {h a cs F}, rep h a cs F → allCell cs = true
  keeps : ∀ {h h' a cs F}, rep h a cs F → KeepsP (fun b => b ∈ F) h h' → rep h' a cs F
  lt : ∀ {h a cs F b}, rep h a cs F → b ∈ F → ∃ blk, h[b]? = some blk ∧ blk.st ≠ .dead

theorem KeepsP.mono {P Q : Nat → Prop} {h h' : Heap} (hk : KeepsP P h h') (hq : ∀ b, Q b → P b) : KeepsP Q h h' := fun b blk hb => hk b blk (hq b hb)
theorem KeepsP.trans {P : Nat → Prop} {a b c : Heap} (h1 : KeepsP P a b) (h2 : KeepsP P b c) : KeepsP P a c := fun i blk hp h hl => h2 i blk hp (h1 i blk hp h hl) hl
theorem KeepsP.refl (P : Nat → Prop) (h : Heap) : KeepsP P h h := fun _ _ _ h _ => h
theorem Keeps.p {h h' : Heap} (hk : Keeps h h') (P : Nat → Prop) : KeepsP P h h' := fun b blk _ hb hl => hk b blk hb hl

instance flatData {α : Type} [Flat α] : Data α where
  sz := Flat.sz α
  pos := Flat.pos
  rep := fun _ a cs F => cs = Flat.cells a ∧ F = []
  len := by rintro h a cs F ⟨rfl, _⟩; exact Flat.len a
  ok := by rintro h a cs F ⟨rfl, _⟩; exact Flat.ok a
  keeps := fun h _ => h
  lt := by rintro h a cs F b ⟨_, rfl⟩ hb; cases hb

section
variable {α : Type} [Data α]

def Reps (h : Heap) : List α → List V → List Nat → Prop
  | [], cs, F => cs = [] ∧ F = []
  | x :: xs, cs, F => ∃ c r F1 F2, cs = c ++ r ∧ F = F1 ++ F2 ∧ Data.rep h x c F1 ∧ Reps h xs r F2

theorem Reps.nil {h : Heap} : Reps h ([] : List α) [] [] := ⟨rfl, rfl⟩
theorem Reps.one {h : Heap} {x : α} {c : List V} {F : List Nat} (hr : Data.rep h x c F) : Reps h [x] c F := ⟨c, [], F, [], by simp, by simp, hr, .nil⟩
theorem Reps.len {h : Heap} : ∀ {xs : List α} {cs : List V} {F : List Nat}, Reps h xs cs F → cs.length = xs.length * Data.sz α
  | [], cs, F, hr => by simp [hr.1]
  | x :: xs, cs, F, ⟨c, r, F1, F2, e, _, h1, h2⟩ => by
    subst e
    rw [List.length_append, Data.len h1, Reps.len h2, List.length_cons, Nat.add_mul]; omega
theorem Reps.ok {h : Heap} : ∀ {xs : List α} {cs : List V} {F : List Nat}, Reps h xs cs F → allCell cs = true
  | [], cs, F, hr => by rw [hr.1]; rfl
  | x :: xs, cs, F, ⟨c, r, F1, F2, e, _, h1, h2⟩ => by
    subst e
    have a := Data.ok h1
    have b := Reps.ok h2
    simp only [allCell, List.all_append, Bool.and_eq_true] at a b ⊢
    exact ⟨a, b⟩
theorem Reps.keeps {h h' : Heap} : ∀ {xs : List α} {cs : List V} {F : List Nat}, Reps h xs cs F → KeepsP (fun b => b ∈ F) h h' → Reps h' xs cs F
  | [], cs, F, hr, _ => hr
  | x :: xs, cs, F, ⟨c, r, F1, F2, e, f, h1, h2⟩, hk => by
    subst f
    exact ⟨c, r, F1, F2, e, rfl, Data.keeps h1 (hk.mono fun b hb => List.mem_append_left _ hb), Reps.keeps h2 (hk.mono fun b hb => List.mem_append_right _ hb)⟩
theorem Reps.lt {h : Heap} : ∀ {xs : List α} {cs : List V} {F : List Nat} {b : Nat}, Reps h xs cs F → b ∈ F → ∃ blk, h[b]? = some blk ∧ blk.st ≠ .dead
  | [], cs, F, b, hr, hb => by rw [hr.2] at hb; cases hb
  | x :: xs, cs, F, b, ⟨c, r, F1, F2, e, f, h1, h2⟩, hb => by
    subst f
    rcases List.mem_append.1 hb with hb | hb
    · exact Data.lt h1 hb
    · exact Reps.lt h2 hb
theorem Reps.append {h : Heap} : ∀ {xs ys : List α} {cs ds : List V} {F G : List Nat}, Reps h xs cs F → Reps h ys ds G → Reps h (xs ++ ys) (cs ++ ds) (F ++ G)
  | [], ys, cs, ds, F, G, hr, hs => by rw [hr.1, hr.2]; exact hs
  | x :: xs, ys, cs, ds, F, G, ⟨c, r, F1, F2, e, f, h1, h2⟩, hs => ⟨c, r ++ ds, F1, F2 ++ G, by simp [e], by simp [f], h1, Reps.append h2 hs⟩
theorem Reps.split {h : Heap} : ∀ {xs ys : List α} {cs : List V} {F : List Nat}, Reps h (xs ++ ys) cs F → ∃ c1 c2 F1 F2, cs = c1 ++ c2 ∧ F = F1 ++ F2 ∧ Reps h xs c1 F1 ∧ Reps h ys c2 F2
  | [], ys, cs, F, hr => ⟨[], cs, [], F, rfl, rfl, .nil, hr⟩
  | x :: xs, ys, cs, F, ⟨c, r, F1, F2, e, f, h1, h2⟩ => by
    obtain ⟨c1, c2, G1, G2, e2, f2, h3, h4⟩ := Reps.split (xs := xs) h2
    exact ⟨c ++ c1, c2, F1 ++ G1, G2, by simp [e, e2], by simp [f, f2], ⟨c, c1, F1, G1, rfl, rfl, h1, h3⟩, h4⟩
theorem Reps.cut2 {h : Heap} {xs : List α} {cs : List V} {F : List Nat} (hr : Reps h xs cs F) (i : Nat) (hi : i ≤ xs.length) :
    ∃ F1 F2, F = F1 ++ F2 ∧ Reps h (xs.take i) (cs.take (i * Data.sz α)) F1 ∧ Reps h (xs.drop i) (cs.drop (i * Data.sz α)) F2 := by
  rw [← List.take_append_drop i xs] at hr
  obtain ⟨c1, c2, F1, F2, e, f, h1, h2⟩ := hr.split
  have hl := h1.len
  have ht : (xs.take i).length = i := by simp; omega
  rw [ht] at hl
  subst e
  refine ⟨F1, F2, f, ?_, ?_⟩
  · rw [← hl, List.take_left']; exact h1; rfl
  · rw [← hl, List.drop_left']; exact h2; rfl
theorem Reps.get {h : Heap} {xs : List α} {cs : List V} {F : List Nat} (hr : Reps h xs cs F) (i : Nat) (hi : i < xs.length) :
    ∃ F1 F2 F3, F = F1 ++ F2 ++ F3 ∧ Data.rep h xs[i] ((cs.drop (i * Data.sz α)).take (Data.sz α)) F2 ∧ Reps h (xs.take i) (cs.take (i * Data.sz α)) F1 ∧ Reps h (xs.drop (i + 1)) (cs.drop ((i + 1) * Data.sz α)) F3 := by
  obtain ⟨F1, F2, f, h1, h2⟩ := hr.cut2 i (by omega)
  rw [List.drop_eq_getElem_cons hi] at h2
  obtain ⟨c, r, G1, G2, e, g, h3, h4⟩ := h2
  have hl := Data.len h3
  refine ⟨F1, G1, G2, by simp [f, g], ?_, h1, ?_⟩
  · rw [e, ← hl, List.take_left']; exact h3; rfl
  · have : cs.drop ((i + 1) * Data.sz α) = (cs.drop (i * Data.sz α)).drop (Data.sz α) := by rw [List.drop_drop, Nat.add_mul, Nat.one_mul]
    rw [this, e, ← hl, List.drop_left']; exact h4; rfl

/-- a capacity that may be: at least the length, or unknown -/
def capW (k n : Nat) : Cap → Prop
  | .k c => n ≤ c
  | .o k' => k' = k
def capOK (k : Nat) : V → Prop
  | .slice _ _ n cap => capW k n cap
  | _ => True

/-- a slice that holds these, and the blocks that it all lies in -/
def SdF (h : Heap) (v : V) (xs : List α) (F : List Nat) : Prop :=
  xs.length < 2 ^ 63 ∧ ((v = .nils ∧ xs = [] ∧ F = []) ∨ ∃ b off cap, v = .slice b off xs.length cap ∧ capW (Data.sz α) xs.length cap ∧ ((xs = [] ∧ F = []) ∨ ∃ blk cs G, F = b :: G ∧ h[b]? = some blk ∧ blk.st ≠ .dead ∧ cut blk.cells off (xs.length * Data.sz α) = some cs ∧ Reps h xs cs G))

variable {h h' : Heap} {v : V} {xs : List α} {F : List Nat}
theorem SdF.len (hs : SdF h v xs F) : lenV v = some xs.length := by
  rcases hs with ⟨_, ⟨rfl, rfl, _⟩ | ⟨b, off, cap, rfl, _⟩⟩ <;> rfl
theorem SdF.cells (hs : SdF h v xs F) : v.cells = [v] := by
  rcases hs with ⟨_, ⟨rfl, rfl, _⟩ | ⟨b, off, cap, rfl, _⟩⟩ <;> rfl
theorem SdF.cell (hs : SdF h v xs F) : v.cell = true := by
  rcases hs with ⟨_, ⟨rfl, rfl, _⟩ | ⟨b, off, cap, rfl, _⟩⟩ <;> rfl
theorem SdF.bd (hs : SdF h v xs F) : xs.length < 2 ^ 63 := hs.1
theorem SdF.step (hs : SdF h v xs F) {i : Nat} (hi : i < xs.length) : IntKind.i64.wrap ((i : Int) + 1) = i + 1 := by
  have := hs.1
  exact IntWalk.i64_in _ (by omega)
theorem SdF.cap (hs : SdF h v xs F) : capOK (Data.sz α) v := by
  rcases hs with ⟨_, ⟨rfl, _, _⟩ | ⟨b, off, cap, rfl, hc, _⟩⟩
  · trivial
  · exact hc
theorem SdF.nil : SdF h .nils ([] : List α) [] := ⟨by simp, .inl ⟨rfl, rfl, rfl⟩⟩
theorem SdF.idx (hs : SdF h v xs F) (k : Nat) (kd : IntKind) (i : Nat) (hi : i < xs.length) : idxV k v (.int kd i) = some (.ptr (bOf v) (oOf v + i * k)) := by
  rcases hs with ⟨_, ⟨rfl, rfl, _⟩ | ⟨b, off, cap, rfl, _⟩⟩
  · simp at hi
  · simp [idxV, hi, bOf, oOf]
theorem SdF.keeps (hs : SdF h v xs F) (hk : KeepsP (fun b => b ∈ F) h h') : SdF h' v xs F := by
  refine ⟨hs.1, ?_⟩
  rcases hs.2 with hs | ⟨b, off, cap, hv, hc, hs⟩
  · exact .inl hs
  · refine .inr ⟨b, off, cap, hv, hc, ?_⟩
    rcases hs with hs | ⟨blk, cs, G, f, h1, h2, h3, h4⟩
    · exact .inl hs
    · subst f
      exact .inr ⟨blk, cs, G, rfl, hk _ _ (List.mem_cons_self ..) h1 h2, h2, h3, h4.keeps (hk.mono fun b hb => List.mem_cons_of_mem _ hb)⟩
theorem SdF.keep (hs : SdF h v xs F) (hk : Keeps h h') : SdF h' v xs F := hs.keeps (hk.p _)
theorem SdF.lt (hs : SdF h v xs F) {i : Nat} (hi : i ∈ F) : ∃ blk, h[i]? = some blk ∧ blk.st ≠ .dead := by
  rcases hs.2 with ⟨_, _, hs⟩ | ⟨b, off, cap, hv, _, hs⟩
  · rw [hs] at hi; cases hi
  · rcases hs with ⟨_, hs⟩ | ⟨blk, cs, G, f, h1, h2, h3, h4⟩
    · rw [hs] at hi; cases hi
    · subst f
      rcases List.mem_cons.1 hi with rfl | hi
      · exact ⟨blk, h1, h2⟩
      · exact h4.lt hi
/-- an element, where it lies -/
theorem SdF.load (hs : SdF h v xs F) (i : Nat) (hi : i < xs.length) : ∃ cs F1 F2 F3, rdH h (bOf v) (oOf v + i * Data.sz α) (Data.sz α) = some cs ∧ Data.rep h xs[i] cs F2 ∧ F = bOf v :: (F1 ++ F2 ++ F3) := by
  rcases hs with ⟨_, ⟨rfl, rfl, _⟩ | ⟨b, off, cap, rfl, _, hs⟩⟩
  · simp at hi
  · rcases hs with ⟨rfl, _⟩ | ⟨blk, cs, G, f, h1, h2, h3, h4⟩
    · simp at hi
    · obtain ⟨F1, F2, F3, g, h5, _, _⟩ := h4.get i hi
      refine ⟨_, F1, F2, F3, ?_, h5, by rw [f, g]; rfl⟩
      simp only [bOf, oOf, rdH, h1, h2, if_false]
      unfold cut at h3 ⊢
      split at h3
      case isFalse => cases h3
      rename_i hle
      have hb : (i + 1) * Data.sz α ≤ xs.length * Data.sz α := Nat.mul_le_mul_right _ hi
      rw [Nat.add_mul] at hb
      rw [if_pos (by omega)]
      simp only [Option.some.injEq] at h3 ⊢
      rw [← h3, List.drop_take, List.take_take, List.drop_drop]
      congr 1
      omega
/-- the first ones, all at once -/
theorem SdF.rdS (hs : SdF h v xs F) : ∃ cs G, GL.rdS h (Data.sz α) v xs.length = some cs ∧ Reps h xs cs G ∧ ∀ b ∈ G, b ∈ F := by
  rcases hs with ⟨_, ⟨rfl, rfl, _⟩ | ⟨b, off, cap, rfl, _, hs⟩⟩
  · exact ⟨[], [], by simp [GL.rdS], .nil, by simp⟩
  · rcases hs with ⟨rfl, _⟩ | ⟨blk, cs, G, f, h1, h2, h3, h4⟩
    · exact ⟨[], [], by simp [GL.rdS], .nil, by simp⟩
    · refine ⟨cs, G, ?_, h4, fun b hb => by rw [f]; exact List.mem_cons_of_mem _ hb⟩
      simp only [GL.rdS, Nat.le_refl, if_true]
      split
      · rename_i h0
        have := h4.len
        rw [h0] at this
        rw [List.length_eq_zero_iff.1 this]
      · simp only [rdH, h1, h2, if_false, h3]
end

section
variable {α : Type} [Flat α] {h : Heap} {v : V} {xs : List α} {F : List Nat}
theorem Reps.flat : ∀ {xs : List α} {cs : List V} {F : List Nat}, Reps h xs cs F ↔ cs = flats xs ∧ F = []
  | [], cs, F => by simp [Reps, flats]
  | x :: xs, cs, F => by
    constructor
    · rintro ⟨c, r, F1, F2, rfl, rfl, ⟨rfl, rfl⟩, h2⟩
      obtain ⟨rfl, rfl⟩ := Reps.flat.1 h2
      exact ⟨by simp [flats], rfl⟩
    · rintro ⟨rfl, rfl⟩
      exact ⟨Flat.cells x, flats xs, [], [], by simp [flats], rfl, ⟨rfl, rfl⟩, Reps.flat.2 ⟨rfl, rfl⟩⟩
theorem SdF.sl (hs : SdF h v xs F) : Sl h v xs := by
  refine ⟨hs.1, ?_⟩
  rcases hs.2 with hs | ⟨b, off, cap, hv, _, hs⟩
  · exact .inl ⟨hs.1, hs.2.1⟩
  · refine .inr ⟨b, off, cap, hv, ?_⟩
    rcases hs with ⟨hs, _⟩ | ⟨blk, cs, G, f, h1, h2, h3, h4⟩
    · exact .inl hs
    · exact .inr ⟨blk, h1, h2, by rw [(Reps.flat.1 h4).1] at h3; exact h3⟩
theorem Sl.sdF (hs : Sl h v xs) (hc : capOK (Flat.sz α) v) : ∃ F, SdF h v xs F ∧ (∀ b ∈ F, b = bOf v ∧ vB v b) ∧ F.length ≤ 1 := by
  rcases hs with ⟨hb, ⟨rfl, rfl⟩ | ⟨b, off, cap, rfl, hs⟩⟩
  · exact ⟨[], .nil, by simp, by simp⟩
  · rcases hs with rfl | ⟨blk, h1, h2, h3⟩
    · exact ⟨[], ⟨hb, .inr ⟨b, off, cap, rfl, hc, .inl ⟨rfl, rfl⟩⟩⟩, by simp, by simp⟩
    · exact ⟨[b], ⟨hb, .inr ⟨b, off, cap, rfl, hc, .inr ⟨blk, _, [], rfl, h1, h2, h3, Reps.flat.2 ⟨rfl, rfl⟩⟩⟩⟩, by simp [bOf, vB], by simp⟩
end

instance listData {α : Type} [Data α] : Data (List α) where
  sz := 1
  pos := by decide
  rep := fun h xs cs F => ∃ v, cs = [v] ∧ SdF h v xs F
  len := by rintro h a cs F ⟨v, rfl, _⟩; rfl
  ok := by rintro h a cs F ⟨v, rfl, hs⟩; simp [allCell, hs.cell]
  keeps := by rintro h h' a cs F ⟨v, rfl, hs⟩ hk; exact ⟨v, rfl, hs.keeps hk⟩
  lt := by rintro h a cs F b ⟨v, rfl, hs⟩ hb; exact hs.lt hb

section
variable {α : Type} [Data α] {h : Heap} {v : V} {xs : List α} {lo : Nat} {F : List Nat}
/-- a list that this very call has made, and may make longer -/
def Od (lo : Nat) (h : Heap) (v : V) (xs : List α) (F : List Nat) : Prop :=
  xs.length < 2 ^ 40 ∧ lo ≤ h.length ∧ ((v = .nils ∧ xs = [] ∧ F = []) ∨ (∃ b cs, v = .slice b 0 xs.length (.o (Data.sz α)) ∧ h[b]? = some ⟨.own, cs⟩ ∧ lo ≤ b ∧ Reps h xs cs F ∧ b ∉ F) ∨ ∃ b, v = .slice b 0 0 (.k 0) ∧ xs = [] ∧ F = [] ∧ lo ≤ b ∧ b < h.length)

theorem Od.nil (hl : lo ≤ h.length) : Od lo h .nils ([] : List α) [] := ⟨by simp, hl, .inl ⟨rfl, rfl, rfl⟩⟩
theorem Od.empty {b : Nat} (hl : lo ≤ b) (hb : b < h.length) : Od lo h (.slice b 0 0 (.k 0)) ([] : List α) [] := ⟨by simp, by omega, .inr (.inr ⟨b, rfl, rfl, rfl, hl, hb⟩)⟩
theorem Od.sd (ho : Od lo h v xs F) : ∃ F', SdF h v xs F' ∧ (F' = F ∨ (F' = bOf v :: F ∧ vB v (bOf v) ∧ bOf v ∉ F ∧ ∃ cs, h[bOf v]? = some ⟨.own, cs⟩)) := by
  obtain ⟨h1, _, ⟨rfl, rfl, rfl⟩ | ⟨b, cs, rfl, hb, _, hr, hn⟩ | ⟨b, rfl, rfl, rfl, _⟩⟩ := ho
  · exact ⟨[], .nil, .inl rfl⟩
  · refine ⟨b :: F, ⟨by omega, .inr ⟨b, 0, _, rfl, rfl, .inr ⟨_, cs, F, rfl, hb, by simp, ?_, hr⟩⟩⟩, .inr ⟨rfl, ⟨_, _, _, rfl⟩, hn, cs, hb⟩⟩
    simp only [cut, hr.len, Nat.zero_add, Nat.le_refl, if_true, List.drop_zero]
    rw [← hr.len, List.take_length]
  · exact ⟨[], ⟨by simp, .inr ⟨b, 0, _, rfl, Nat.le_refl _, .inl ⟨rfl, rfl⟩⟩⟩, .inl rfl⟩
theorem Od.keeps {h' : Heap} (ho : Od lo h v xs F) {P : Nat → Prop} (hk : KeepsP P h h') (hp : ∀ i, vB v i → P i) (hF : ∀ i ∈ F, P i) (hl : h.length ≤ h'.length) : Od lo h' v xs F := by
  obtain ⟨h1, h2, ⟨rfl, rfl, rfl⟩ | ⟨b, cs, rfl, hb, h3, hr, hn⟩ | ⟨b, rfl, rfl, rfl, h3, h4⟩⟩ := ho
  · exact ⟨h1, by omega, .inl ⟨rfl, rfl, rfl⟩⟩
  · exact ⟨h1, by omega, .inr (.inl ⟨b, cs, rfl, hk _ _ (hp b ⟨_, _, _, rfl⟩) hb (by simp), h3, hr.keeps (hk.mono hF), hn⟩)⟩
  · exact ⟨h1, by omega, .inr (.inr ⟨b, rfl, rfl, rfl, h3, by omega⟩)⟩
theorem Od.ge (ho : Od lo h v xs F) {i : Nat} (hi : vB v i) : lo ≤ i ∧ i < h.length := by
  obtain ⟨h1, h2, ⟨rfl, rfl, rfl⟩ | ⟨b, cs, rfl, hb, h3, hr, hn⟩ | ⟨b, rfl, rfl, rfl, h3, h4⟩⟩ := ho
  · obtain ⟨_, _, _, e⟩ := hi; cases e
  · obtain ⟨_, _, _, e⟩ := hi; cases e; exact ⟨h3, get_lt hb⟩
  · obtain ⟨_, _, _, e⟩ := hi; cases e; exact ⟨h3, h4⟩

theorem Od.app (ho : Od lo h v xs F) {zs : List α} {ys : List V} {G : List Nat} (hz : 0 < zs.length) (hr : Reps h zs ys G) (hG : ∀ b ∈ G, ¬ vB v b) {bytes : Nat} (hb : bytes ≤ 2 ^ 8) (hl : xs.length + zs.length ≤ 2 ^ 30) {k n : Nat} (hk : k = Data.sz α) (hn : n = zs.length) :
    ∃ v' h', appH k bytes v n ys h = some (v', h') ∧ Od lo h' v' (xs ++ zs) (F ++ G) ∧ KeepsP (fun i => ¬ vB v i) h h' ∧ h.length < h'.length ∧ (∀ i, vB v' i → i = h.length) := by
  subst hk; subst hn
  have hk0 := Data.pos (α := α)
  have hbb : (xs.length + zs.length) * bytes ≤ 2 ^ 30 * 2 ^ 8 := Nat.mul_le_mul hl hb
  have hGl : ∀ b ∈ G, b < h.length := fun b hb => by obtain ⟨blk, h1, _⟩ := hr.lt hb; exact get_lt h1
  obtain ⟨h1, h2, ⟨rfl, rfl, rfl⟩ | ⟨b, cs, rfl, hb2, h3, hr0, hn0⟩ | ⟨b, rfl, rfl, rfl, h3, h4⟩⟩ := ho
  · have hk : KeepsP (fun i => ¬ vB .nils i) h (h ++ [⟨.own, ys⟩]) := fun i blk _ hi hl => Keeps.append h _ i blk hi hl
    refine ⟨.slice h.length 0 zs.length (.o (Data.sz α)), h ++ [⟨.own, ys⟩], ?_, ⟨by simp at hl ⊢; omega, by simp; omega, .inr (.inl ⟨h.length, ys, by simp, by simp, h2, ?_, ?_⟩)⟩, hk, by simp, fun i hi => ?_⟩
    · simp only [List.length_nil, Nat.zero_add] at hbb hl
      simp only [appH, Nat.ne_of_gt hz, if_false]
      rw [if_pos ⟨by unfold room; omega, by unfold room; omega⟩]
    · simpa using hr.keeps (hk.mono hG)
    · simp only [List.nil_append]; intro h9; exact absurd (hGl _ h9) (by omega)
    · obtain ⟨_, _, _, e⟩ := hi; cases e; rfl
  · have hlen := hr0.len
    have hF : ∀ i ∈ F, ¬ vB (.slice b 0 xs.length (.o (Data.sz α))) i := fun i hi ⟨_, _, _, e⟩ => by cases e; exact hn0 hi
    have hFl : ∀ i ∈ F, i < h.length := fun i hi => by obtain ⟨blk, h1, _⟩ := hr0.lt hi; exact get_lt h1
    have hk : KeepsP (fun i => ¬ vB (.slice b 0 xs.length (.o (Data.sz α))) i) h (h.set b ⟨.dead, cs⟩ ++ [⟨.own, cs ++ ys⟩]) := fun i blk hi hb3 hl => by
      have hne : i ≠ b := fun e => hi ⟨_, _, _, by rw [e]⟩
      rw [List.getElem?_append_left (by simp; exact get_lt hb3), List.getElem?_set_ne (Ne.symm hne)]
      exact hb3
    refine ⟨.slice h.length 0 (xs.length + zs.length) (.o (Data.sz α)), h.set b ⟨.dead, cs⟩ ++ [⟨.own, cs ++ ys⟩], ?_, ⟨by simp; omega, by simp; omega, .inr (.inl ⟨h.length, cs ++ ys, by simp, by simp, h2, (hr0.keeps (hk.mono hF)).append (hr.keeps (hk.mono hG)), ?_⟩)⟩, hk, by simp, fun i hi => ?_⟩
    · have hgt : ¬ (0 + (xs.length + zs.length) * Data.sz α ≤ cs.length) := by
        rw [hlen, Nat.add_mul]
        have : 0 < zs.length * Data.sz α := Nat.mul_pos hz hk0
        omega
      have hcut : cut cs 0 (xs.length * Data.sz α) = some cs := by
        simp only [cut, hlen, Nat.zero_add, Nat.le_refl, if_true, List.drop_zero]
        rw [← hlen, List.take_length]
      simp only [appH, Nat.ne_of_gt hz, if_false, hb2, hk0, and_self, if_true, hgt, hcut, Option.bind_some]
      rw [if_pos ⟨by unfold room; omega, by unfold room; omega⟩]
    · intro h9
      rcases List.mem_append.1 h9 with h9 | h9
      · exact absurd (hFl _ h9) (by omega)
      · exact absurd (hGl _ h9) (by omega)
    · obtain ⟨_, _, _, e⟩ := hi; cases e; rfl
  · have hk : KeepsP (fun i => ¬ vB (.slice b 0 0 (.k 0)) i) h (h ++ [⟨.own, ys⟩]) := fun i blk _ hi hl => Keeps.append h _ i blk hi hl
    refine ⟨.slice h.length 0 zs.length (.o (Data.sz α)), h ++ [⟨.own, ys⟩], ?_, ⟨by simp at hl ⊢; omega, by simp; omega, .inr (.inl ⟨h.length, ys, by simp, by simp, h2, ?_, ?_⟩)⟩, hk, by simp, fun i hi => ?_⟩
    · simp only [List.length_nil, Nat.zero_add] at hbb hl
      have hgt : ¬ (0 + zs.length ≤ 0) := by omega
      simp only [appH, Nat.ne_of_gt hz, if_false, hgt]
      rw [if_pos ⟨by unfold room; rw [Nat.zero_add]; omega, by unfold room; omega⟩]
      simp [rdS]
    · simpa using hr.keeps (hk.mono hG)
    · simp only [List.nil_append]; intro h9; exact absurd (hGl _ h9) (by omega)
    · obtain ⟨_, _, _, e⟩ := hi; cases e; rfl
end
end GL

namespace GL
open Go

end GL

/-! the draws' frame: a cursor at the first new block, and all older blocks as they were -/
namespace GL
open Go

structure DC (h0 h : Heap) (N : Nat) : Prop where
  cur : Cur h h0.length N
  keep : Keeps h0 h

theorem DC.start {h : Heap} {v : V} {bs : List Byte} (hs : Sl h v bs) : DC h (h ++ [⟨.own, [v, vi 0, .int .u64 0]⟩]) 0 := ⟨drawTwo hs, Keeps.append h _⟩
theorem DC.mono {h0 h : Heap} {N M : Nat} (d : DC h0 h N) (hn : N ≤ M) : DC h0 h M := ⟨d.cur.mono hn, d.keep⟩
theorem DC.lt {h0 h : Heap} {N : Nat} (d : DC h0 h N) : h0.length < h.length := d.cur.lt
theorem DC.lit {h0 h : Heap} {N : Nat} (d : DC h0 h N) (l : Heap) : DC h0 (h ++ l) N := ⟨d.cur.keeps (Keeps.append h l), d.keep.trans (Keeps.append h l)⟩
theorem DC.keeps {h0 h h' : Heap} {N : Nat} (d : DC h0 h N) (hk : Keeps h h') : DC h0 h' N := ⟨d.cur.keeps hk, d.keep.trans hk⟩
/-- whatever is done to newer blocks -/
theorem DC.far {h0 h h' : Heap} {N : Nat} (d : DC h0 h N) {P : Nat → Prop} (hk : KeepsP P h h') (hp : ∀ i, i ≤ h0.length → P i) : DC h0 h' N :=
  ⟨d.cur.keepsP hk hp, Keeps.far (n := h0.length) d.keep hk (Nat.le_refl _) fun i hi => hp i (by omega)⟩
theorem DC.out {h0 h h' : Heap} {N : Nat} {α : Type} [Flat α] {v : V} {xs : List α} (d : DC h0 h N) (ho : Out (h0.length + 1) h v xs) (hk : KeepsP (fun i => ¬ vB v i) h h') : DC h0 h' N :=
  d.far hk fun i hi hv => by have := (ho.ge hv).1; omega
theorem DC.but {h0 h h' : Heap} {N M : Nat} (d : DC h0 h N) (hc : Cur h' h0.length M) (hk : KeepsBut h0.length h h') : DC h0 h' M :=
  ⟨hc, KeepsBut.keeps d.keep (Nat.le_refl _) hk⟩

theorem DC.pick {h0 h : Heap} {N : Nat} (d : DC h0 h N) (hN : N < 2 ^ 61) (n : Int) (hn : 0 ≤ n ∧ n < 2 ^ 40) : ∃ (x : Nat) (h' : Heap), call p 91 [.ptr h0.length 0, vi n] h = some (vi x, h') ∧ (x : Int) < max n 1 ∧ DC h0 h' (N + 2) ∧ KeepsBut h0.length h h' ∧ h'.length = h.length := by
  obtain ⟨m, rfl⟩ := Int.eq_ofNat_of_zero_le hn.1
  obtain ⟨_, h', e, x, rfl, hx, c, k, l⟩ := pick_ok (n := m) d.cur hN (by omega)
  exact ⟨x, h', e, by omega, d.but c k, k, l⟩
theorem DC.one {h0 h : Heap} {N : Nat} (d : DC h0 h N) (hN : N < 2 ^ 61) (n : Int) (hn : 0 ≤ n ∧ n < 2 ^ 40) : ∃ (b : Bool) (h' : Heap), call p 92 [.ptr h0.length 0, vi n] h = some (.bool b, h') ∧ DC h0 h' (N + 2) ∧ KeepsBut h0.length h h' ∧ h'.length = h.length := by
  obtain ⟨m, rfl⟩ := Int.eq_ofNat_of_zero_le hn.1
  obtain ⟨_, h', e, b, rfl, c, k, l⟩ := one_ok (n := m) d.cur hN (by omega)
  exact ⟨b, h', e, d.but c k, k, l⟩
theorem DC.among {h0 h : Heap} {N : Nat} (d : DC h0 h N) (hN : N < 2 ^ 61) {v : V} {xs : List Int} (hs : Sl h v xs) (hb : bOf v ≠ h0.length) (h1 : 0 < xs.length) (hn : xs.length < 2 ^ 40) :
    ∃ (x : Int) (h' : Heap), call p 93 [.ptr h0.length 0, v] h = some (vi x, h') ∧ x ∈ xs ∧ DC h0 h' (N + 2) ∧ KeepsBut h0.length h h' ∧ h'.length = h.length := by
  obtain ⟨_, h', e, x, hx, rfl, c, k, l⟩ := among_ok d.cur hN hs hb h1 hn
  exact ⟨x, h', e, hx, d.but c k, k, l⟩
/-- one of some that stand there -/
theorem DC.amongL {h0 h : Heap} {N : Nat} (d : DC h0 h N) (hN : N < 2 ^ 61) (xs : List Int) (n : Nat) (hn : n = xs.length) (cs : List V) (hc : cs = flats xs) (cap : Cap) (h1 : 0 < xs.length) (h2 : xs.length < 2 ^ 40) :
    ∃ (x : Int) (h' : Heap), call p 93 [.ptr h0.length 0, .slice h.length 0 n cap] (h ++ [⟨.own, cs⟩]) = some (vi x, h') ∧ x ∈ xs ∧ DC h0 h' (N + 2) ∧ KeepsBut h0.length h h' ∧ h.length ≤ h'.length := by
  have := d.lt
  obtain ⟨x, h', e, hx, d', k, l⟩ := (d.lit [⟨.own, cs⟩]).among hN (Sl.lit xs n hn cs hc cap (by omega)) (by simp [bOf]; omega) h1 h2
  exact ⟨x, h', e, hx, d', (KeepsBut.lit _).trans k, by simp at l; omega⟩
end GL

namespace GL
open Go

theorem Out.cap {lo : Nat} {h : Heap} {v : V} {α : Type} [Flat α] {xs : List α} (ho : Out lo h v xs) : capOK (Flat.sz α) v := by
  obtain ⟨h1, _, ⟨rfl, rfl⟩ | ⟨b, rfl, hb, _⟩ | ⟨b, rfl, rfl, _⟩⟩ := ho
  · trivial
  · rfl
  · exact Nat.le_refl _

theorem KeepsBut.far {c : Nat} {g h h' : Heap} {P : Nat → Prop} (h1 : KeepsBut c g h) (hk : KeepsP P h h') (hp : ∀ i, i < g.length → i ≠ c → P i) : KeepsBut c g h' := fun i blk hc hi hl =>
  hk i blk (hp i (get_lt hi) hc) (h1 i blk hc hi hl) hl

/-- one more, in a draw -/
theorem Out.draw {α : Type} [Flat α] {h0 h g : Heap} {N lo : Nat} {v : V} {xs : List α} (d : DC h0 h N) (kb : KeepsBut h0.length g h) (ho : Out lo h v xs) (hlo : g.length ≤ lo) (hc : h0.length < lo) (x : α) (hx : xs.length ≤ 2 ^ 20)
    {k bytes : Nat} {cs : List V} (hk : k = Flat.sz α) (hb : bytes ≤ 2 ^ 8) (hcs : cs = Flat.cells x) :
    ∃ v' h', appH k bytes v 1 cs (h ++ [⟨.own, cs⟩]) = some (v', h') ∧ Out lo h' v' (xs ++ [x]) ∧ DC h0 h' N ∧ KeepsBut h0.length g h' ∧ h.length ≤ h'.length := by
  have o3 : Out lo (h ++ [⟨.own, cs⟩]) v xs := (Keeps.append h _).out ho (by simp)
  obtain ⟨v', h', e4, o4, k4, l4, b4⟩ := o3.app [x] (by simp) (bytes := bytes) hb (by simp; omega) (k := k) hk (n := 1) rfl (ys := cs) (by simp [flats, hcs])
  refine ⟨v', h', e4, o4, (d.lit _).far k4 fun i hi hv => ?_, (kb.trans (KeepsBut.lit _)).far k4 fun i hi _ hv => ?_, by simp at l4; omega⟩
  · have := (o3.ge hv).1; omega
  · have := (o3.ge hv).1; omega

end GL

/-! GL: lists of one's own, nested ones too, that are written in place. -/
namespace GL
open Go

def OwnB (h : Heap) (b : Nat) : Prop := ∃ cs, h[b]? = some ⟨.own, cs⟩

theorem OwnB.set {h : Heap} {b c : Nat} {cs : List V} (ho : OwnB h c) (hb : b < h.length) : OwnB (h.set b ⟨.own, cs⟩) c := by
  obtain ⟨ds, hd⟩ := ho
  by_cases e : c = b
  · subst e; exact ⟨cs, by simp [hb]⟩
  · exact ⟨ds, by rw [List.getElem?_set_ne (Ne.symm e)]; exact hd⟩
theorem OwnB.keeps {P : Nat → Prop} {h h' : Heap} {b : Nat} (ho : OwnB h b) (hk : KeepsP P h h') (hp : P b) : OwnB h' b := by
  obtain ⟨ds, hd⟩ := ho
  exact ⟨ds, hk b _ hp hd (by simp)⟩

theorem layLen {cs ys cs' : List V} {o : Nat} (h : lay cs o ys = some cs') : cs'.length = cs.length ∧ o + ys.length ≤ cs.length := by
  unfold lay at h
  split at h
  · cases h; refine ⟨?_, by assumption⟩; simp; omega
  · cases h
theorem layMid {a c b ys c' : List V} {o : Nat} (h : lay c o ys = some c') : lay (a ++ c ++ b) (a.length + o) ys = some (a ++ c' ++ b) := by
  unfold lay at h ⊢
  split at h
  · rename_i hl
    cases h
    rw [if_pos (by simp; omega)]
    simp only [Option.some.injEq]
    have e1 : (a ++ c ++ b).take (a.length + o) = a ++ c.take o := by
      rw [List.append_assoc, List.take_append, List.take_of_length_le (by omega), Nat.add_sub_cancel_left, List.take_append]
      rw [show o - c.length = 0 by omega]; simp
    have e2 : (a ++ c ++ b).drop (a.length + o + ys.length) = c.drop (o + ys.length) ++ b := by
      rw [List.append_assoc, Nat.add_assoc, List.drop_append, List.drop_of_length_le (by omega), Nat.add_sub_cancel_left, List.drop_append]
      rw [show o + ys.length - c.length = 0 by omega]; simp
    rw [e1, e2]; simp
  · cases h

section
variable {α : Type} [Data α] {h : Heap} {v : V} {xs : List α} {F : List Nat}
theorem SdF.put (hs : SdF h v xs F) (hn : F.Nodup) (ho : OwnB h (bOf v)) {i : Nat} (hi : i < xs.length) {x' : α} {o : Nat} {ys : List V}
    (hx : ∀ cs G, Data.rep h xs[i] cs G → (∀ c ∈ G, c ∈ F ∧ c ≠ bOf v) → ∃ cs', lay cs o ys = some cs' ∧ ∀ h', KeepsP (fun b => b ∈ G) h h' → Data.rep h' x' cs' G) :
    ∃ h', wrH h (bOf v) (oOf v + i * Data.sz α + o) ys = some h' ∧ SdF h' v (xs.set i x') F ∧ KeepsP (fun b => b ≠ bOf v) h h' ∧ h'.length = h.length ∧ ∀ b, OwnB h b → OwnB h' b := by
  have hlen0 := hs.1
  rcases hs with ⟨_, ⟨rfl, rfl, _⟩ | ⟨b, off, cap, rfl, hcap, hs⟩⟩
  · simp at hi
  · rcases hs with ⟨rfl, _⟩ | ⟨blk, cs, G, rfl, h1, h2, h3, h4⟩
    · simp at hi
    · obtain ⟨ds, hd⟩ := ho
      simp only [bOf, oOf] at hd ⊢
      rw [hd] at h1; cases h1
      have hbG : ∀ c ∈ G, c ≠ b := fun c hc e => by subst e; exact (List.nodup_cons.1 hn).1 hc
      obtain ⟨F1, F2, F3, rfl, r2, r1, r3⟩ := h4.get i hi
      obtain ⟨c', hl, hr⟩ := hx _ F2 r2 fun c hc => ⟨List.mem_cons_of_mem _ (by simp [hc]), by exact hbG c (by simp [hc])⟩
      have hcl := h4.len
      have hle : (i + 1) * Data.sz α ≤ xs.length * Data.sz α := Nat.mul_le_mul_right _ hi
      have hs1 : (i + 1) * Data.sz α = i * Data.sz α + Data.sz α := by rw [Nat.add_mul, Nat.one_mul]
      -- the cells that the slice holds, in three
      have hcs : cs = cs.take (i * Data.sz α) ++ (cs.drop (i * Data.sz α)).take (Data.sz α) ++ cs.drop ((i + 1) * Data.sz α) := by
        rw [hs1, ← List.drop_drop, List.append_assoc, List.take_append_drop, List.take_append_drop]
      unfold cut at h3
      split at h3
      case isFalse => cases h3
      rename_i hle2
      simp only at hle2
      simp only [Option.some.injEq] at h3
      have hds : ds = ds.take off ++ cs ++ ds.drop (off + xs.length * Data.sz α) := by
        rw [← h3, ← List.drop_drop, List.append_assoc, List.take_append_drop, List.take_append_drop]
      have hol : (ds.take off).length = off := by simp; omega
      have htl : (cs.take (i * Data.sz α)).length = i * Data.sz α := by simp; omega
      have hl2 := layMid (a := cs.take (i * Data.sz α)) (b := cs.drop ((i + 1) * Data.sz α)) hl
      rw [← hcs, htl] at hl2
      have hl3 := layMid (a := ds.take off) (b := ds.drop (off + xs.length * Data.sz α)) hl2
      rw [← hds, hol] at hl3
      have hb := get_lt hd
      have hk : KeepsP (fun c => c ≠ b) h (h.set b ⟨.own, ds.take off ++ (cs.take (i * Data.sz α) ++ c' ++ cs.drop ((i + 1) * Data.sz α)) ++ ds.drop (off + xs.length * Data.sz α)⟩) := fun c blk hc hb2 _ => by
        rw [List.getElem?_set_ne (Ne.symm hc)]; exact hb2
      refine ⟨_, by rw [wrH_at hd rfl, Nat.add_assoc, hl3]; rfl, ⟨by simpa using hlen0, .inr ⟨b, off, cap, by simp, by simpa using hcap, .inr ⟨⟨.own, ds.take off ++ (cs.take (i * Data.sz α) ++ c' ++ cs.drop ((i + 1) * Data.sz α)) ++ ds.drop (off + xs.length * Data.sz α)⟩, cs.take (i * Data.sz α) ++ c' ++ cs.drop ((i + 1) * Data.sz α), _, rfl, by simp [hb], by simp, ?_, ?_⟩⟩⟩, hk, by simp, fun c hc => hc.set hb⟩
      · have hll := (layLen hl2).1
        simp only [cut, List.length_set]
        rw [if_pos (by simp only [List.length_append] at hll ⊢; rw [hol, hll]; simp; omega)]
        rw [List.append_assoc, List.drop_append_of_le_length (by omega), List.drop_of_length_le (by omega), List.nil_append, List.take_append_of_le_length (by rw [hll]; omega), List.take_of_length_le (by rw [hll]; omega)]
      · have hset : xs.set i x' = xs.take i ++ [x'] ++ xs.drop (i + 1) := by
          rw [List.set_eq_take_append_cons_drop, if_pos hi]; simp
        rw [hset]
        refine ((r1.keeps (hk.mono fun c hc => ?_)).append (.one (hr _ (hk.mono fun c hc => ?_)))).append (r3.keeps (hk.mono fun c hc => ?_))
        · exact hbG c (by simp [hc])
        · exact hbG c (by simp [hc])
        · exact hbG c (by simp [hc])
end
/-- flat data -/
theorem SdF.putF {α : Type} [Flat α] {h : Heap} {v : V} {xs : List α} {F : List Nat} (hs : SdF h v xs F) (ho : OwnB h (bOf v)) {i : Nat} (hi : i < xs.length) {x' : α} {o : Nat} {ys : List V} (hx : lay (Flat.cells xs[i]) o ys = some (Flat.cells x')) :
    ∃ h', wrH h (bOf v) (oOf v + i * Flat.sz α + o) ys = some h' ∧ SdF h' v (xs.set i x') F ∧ KeepsP (fun b => b ≠ bOf v) h h' ∧ h'.length = h.length ∧ ∀ b, OwnB h b → OwnB h' b := by
  have hn : F.Nodup := by
    rcases hs with ⟨_, ⟨rfl, rfl, rfl⟩ | ⟨b, off, cap, rfl, _, ⟨_, rfl⟩ | ⟨blk, cs, G, rfl, _, _, _, hr⟩⟩⟩
    · exact List.nodup_nil
    · exact List.nodup_nil
    · rw [(Reps.flat.1 hr).2]; simp
  refine hs.put hn ho hi fun cs G hr _ => ?_
  obtain ⟨rfl, rfl⟩ := hr
  exact ⟨_, hx, fun _ _ => ⟨rfl, rfl⟩⟩
/-- where a flat list lies -/
theorem SdF.flatF {α : Type} [Flat α] {h : Heap} {v : V} {xs : List α} {F : List Nat} (hs : SdF h v xs F) : (∀ b ∈ F, b = bOf v) ∧ F.Nodup ∧ (xs ≠ [] → F = [bOf v]) := by
  rcases hs with ⟨_, ⟨rfl, rfl, rfl⟩ | ⟨b, off, cap, rfl, _, ⟨rfl, rfl⟩ | ⟨blk, cs, G, rfl, _, _, _, hr⟩⟩⟩
  · simp
  · simp
  · rw [(Reps.flat.1 hr).2]; simp [bOf]
end GL

/-! GL: what comes in: numbers, structs and slices of them, from the reading of the model. -/
namespace GL
open Go

def AgH (h : Heap) (b0 : Nat) (ss : List (Blk × Option At)) : Prop := ∀ i s, ss[i]? = some s → h[b0 + i]? = some s.1
def AgR (ρ : Rho) (b0 : Nat) (ss : List (Blk × Option At)) : Prop := ∀ i s, ss[i]? = some s → ρ (b0 + i) = s.2

theorem AgH.left {h : Heap} {b0 : Nat} {l r : List (Blk × Option At)} (ha : AgH h b0 (l ++ r)) : AgH h b0 l := fun i s hs =>
  ha i s (by rw [List.getElem?_append_left (by obtain ⟨hl, _⟩ := List.getElem?_eq_some_iff.1 hs; exact hl)]; exact hs)
theorem AgH.right {h : Heap} {b0 : Nat} {l r : List (Blk × Option At)} (ha : AgH h b0 (l ++ r)) : AgH h (b0 + l.length) r := fun i s hs => by
  rw [Nat.add_assoc]
  exact ha (l.length + i) s (by rw [List.getElem?_append_right (by omega), Nat.add_sub_cancel_left]; exact hs)
theorem AgR.left {h : Rho} {b0 : Nat} {l r : List (Blk × Option At)} (ha : AgR h b0 (l ++ r)) : AgR h b0 l := fun i s hs =>
  ha i s (by rw [List.getElem?_append_left (by obtain ⟨hl, _⟩ := List.getElem?_eq_some_iff.1 hs; exact hl)]; exact hs)
theorem AgR.right {h : Rho} {b0 : Nat} {l r : List (Blk × Option At)} (ha : AgR h b0 (l ++ r)) : AgR h (b0 + l.length) r := fun i s hs => by
  rw [Nat.add_assoc]
  exact ha (l.length + i) s (by rw [List.getElem?_append_right (by omega), Nat.add_sub_cancel_left]; exact hs)

/-- a block that is only read, as it lies in memory -/
def SideR (fid : Nat → FuncId) (ρ : Rho) (w : World) (s : Blk × Option At) : Prop :=
  s.1.st ≠ .own ∧ (s.1.st ≠ .dead → allCell s.1.cells = true ∧ ∃ a, s.2 = some a ∧ a.cb < w.heap.size ∧ ∀ (i : Nat) (v : V), s.1.cells[i]? = some v → ∃ x, w.cell? ⟨a.cb, a.co + i, none⟩ = some x ∧ RV fid ρ v x)

/-- cells that came in, as data, with the blocks that they lead to -/
def Opened {α : Type} [Data α] (w : World) (b0 : Nat) (vs : List V) (ss : List (Blk × Option At)) (x : α) (F : List Nat) (cs : List Value) : Prop :=
  (∀ h : Heap, AgH h b0 ss → Data.rep h x vs F) ∧ (∀ b ∈ F, b0 ≤ b ∧ b < b0 + ss.length) ∧
    ∀ (fid : Nat → FuncId) (ρ : Rho), AgR ρ b0 ss → RVs fid ρ vs cs ∧ ∀ s ∈ ss, SideR fid ρ w s

def OpenedL {α : Type} [Data α] (w : World) (b0 : Nat) (vs : List V) (ss : List (Blk × Option At)) (xs : List α) (F : List Nat) (cs : List Value) : Prop :=
  (∀ h : Heap, AgH h b0 ss → Reps h xs vs F) ∧ (∀ b ∈ F, b0 ≤ b ∧ b < b0 + ss.length) ∧
    ∀ (fid : Nat → FuncId) (ρ : Rho), AgR ρ b0 ss → RVs fid ρ vs cs ∧ ∀ s ∈ ss, SideR fid ρ w s

theorem RVs.app {fid : Nat → FuncId} {ρ : Rho} : ∀ {a b : List V} {c d : List Value}, RVs fid ρ a c → RVs fid ρ b d → RVs fid ρ (a ++ b) (c ++ d)
  | [], _, _, _, .nil, h => h
  | _ :: _, _, _, _, .cons h1 h2, h => .cons h1 (RVs.app h2 h)

/-- a type of the program's that is read as such data -/
class ArgT (P : Program) (t : TypeId) (α : Type) [Data α] : Prop where
  opens : ∀ {H : Type} {enc : TypeId × Value → H} {w : World} {fuel : Nat} {cs : List Value} {d : DataW H} {ps : List MemPlace},
    DataW.trod enc P w 0 (fun _ => true) true fuel t cs = some (d, ps) → ∀ b0, ∃ (vs : List V) (ss : List (Blk × Option At)) (x : α) (F : List Nat), Opened w b0 vs ss x F cs

theorem ArgT.int {P : Program} {t : TypeId} (h : P.underlying t = some (.int .i64)) : ArgT P t Int := ⟨fun {H enc w fuel cs d ps} ht b0 => by
  obtain ⟨n, rfl, _⟩ := DataW.trod_int h ht
  exact ⟨[vi n], [], n, [], fun _ _ => ⟨rfl, rfl⟩, by simp, fun fid ρ _ => ⟨.cons (.int _ _) .nil, by simp⟩⟩⟩
theorem ArgT.bool {P : Program} {t : TypeId} (h : P.underlying t = some .bool) : ArgT P t Bool := ⟨fun {H enc w fuel cs d ps} ht b0 => by
  obtain ⟨n, rfl, _⟩ := DataW.trod_bool h ht
  exact ⟨[.bool n], [], n, [], fun _ _ => ⟨rfl, rfl⟩, by simp, fun fid ρ _ => ⟨.cons (.bool _) .nil, by simp⟩⟩⟩

theorem mapM_get {α β : Type} {f : α → Option β} : ∀ {l : List α} {r : List β}, l.mapM f = some r → r.length = l.length ∧ ∀ i (hi : i < l.length) (hr : i < r.length), f l[i] = some r[i]
  | [], r, h => by simp at h; subst h; simp
  | x :: l, r, h => by
    rw [List.mapM_cons] at h
    simp only [bind, pure] at h
    obtain ⟨y, h1, h⟩ := Option.bind_eq_some_iff.1 h
    obtain ⟨ys, h2, h⟩ := Option.bind_eq_some_iff.1 h
    cases h
    obtain ⟨e, k⟩ := mapM_get h2
    refine ⟨by simp [e], fun i hi hr => ?_⟩
    cases i with
    | zero => exact h1
    | succ i => exact k i (by simpa using hi) (by simpa using hr)

theorem cell_spot {w : World} {a : Addr} {v : Value} (h : w.cell? a = some v) : a.spot = none ∧ a.block < w.heap.size := by
  simp only [World.cell?] at h
  split at h
  · rename_i cs T fr hob
    split at h
    · cases h
    · rename_i hsp
      exact ⟨by simpa using hsp, lt_heap hob⟩
  · cases h

/-- these values stand there in a row -/
def Row (w : World) (cb co : Nat) (cs : List Value) : Prop := ∀ i y, cs[i]? = some y → w.cell? ⟨cb, co + i, none⟩ = some y
theorem Row.app {w : World} {cb co : Nat} {a b : List Value} (h1 : Row w cb co a) (h2 : Row w cb (co + a.length) b) : Row w cb co (a ++ b) := fun i y hy => by
  rcases Nat.lt_or_ge i a.length with hi | hi
  · rw [List.getElem?_append_left hi] at hy; exact h1 i y hy
  · rw [List.getElem?_append_right hi] at hy
    have := h2 (i - a.length) y hy
    rwa [show co + a.length + (i - a.length) = co + i by omega] at this

theorem cells_row {w : World} {cb co n : Nat} {cs : List Value} (h : w.cells? 0 ⟨cb, co, none⟩ n = some cs) : cs.length = n ∧ Row w cb co cs := by
  simp only [World.cells?, Nat.zero_le, if_true] at h
  obtain ⟨e, k⟩ := mapM_get h
  simp at e
  refine ⟨e, fun i y hy => ?_⟩
  obtain ⟨hi, rfl⟩ := List.getElem?_eq_some_iff.1 hy
  have := k i (by simpa [e] using hi) hi
  rw [List.getElem_range, add_mk] at this
  exact this

section
variable {P : Program} {e : TypeId} {α : Type} [Data α] [A : ArgT P e α] {H : Type} {enc : TypeId × Value → H} {w : World} {fuel : Nat}

theorem opensL {k : Nat} (cb : Nat) : ∀ (css : List (List Value)) (co b0 : Nat), (∀ i (hi : i < css.length), w.cells? 0 ⟨cb, co + i * k, none⟩ k = some css[i] ∧ ∃ d ps, DataW.trod enc P w 0 (fun _ => true) true fuel e css[i] = some (d, ps)) →
    ∃ (vs : List V) (ss : List (Blk × Option At)) (xs : List α) (F : List Nat), xs.length = css.length ∧ OpenedL w b0 vs ss xs F css.flatten ∧ Row w cb co css.flatten
  | [], co, b0, _ => ⟨[], [], [], [], rfl, ⟨fun _ _ => .nil, by simp, fun _ _ _ => ⟨.nil, by simp⟩⟩, by intro i y h; simp at h⟩
  | c :: css, co, b0, hall => by
    obtain ⟨hc, d, ps, ht⟩ := hall 0 (by simp)
    simp only [Nat.zero_mul, Nat.add_zero, List.getElem_cons_zero] at hc ht
    obtain ⟨vs, ss, x, F, o1, o2, o3⟩ := A.opens ht b0
    obtain ⟨hl, hrow⟩ := cells_row hc
    obtain ⟨vs', ss', xs', F', hx, ⟨q1, q2, q3⟩, hrow'⟩ := opensL cb css (co + k) (b0 + ss.length) fun i hi => by
      have := hall (i + 1) (by simpa using hi)
      rw [show co + (i + 1) * k = co + k + i * k by rw [Nat.add_mul]; omega] at this
      simpa using this
    refine ⟨vs ++ vs', ss ++ ss', x :: xs', F ++ F', by simp [hx], ⟨fun h ha => ⟨vs, vs', F, F', rfl, rfl, o1 h ha.left, q1 h ha.right⟩, fun b hb => ?_, fun fid ρ ha => ?_⟩, ?_⟩
    · rcases List.mem_append.1 hb with hb | hb
      · have := o2 b hb; simp; omega
      · have := q2 b hb; simp; omega
    · obtain ⟨r1, r2⟩ := o3 fid ρ ha.left
      obtain ⟨r3, r4⟩ := q3 fid ρ ha.right
      refine ⟨by rw [List.flatten_cons]; exact r1.app r3, fun s hs => ?_⟩
      rcases List.mem_append.1 hs with hs | hs
      · exact r2 s hs
      · exact r4 s hs
    · rw [List.flatten_cons]
      exact hrow.app (by rw [hl]; exact hrow')

theorem ArgT.list {t : TypeId} (h : P.underlying t = some (.slice e)) (hsz : P.cellsOf e = Data.sz α) : ArgT P t (List α) := ⟨fun {H enc w fuel cs d ps} ht b0 => by
  rcases DataW.trod_slice h ht with ⟨rfl, _⟩ | ⟨a, len, cap, els, rest, f, rfl, rfl, _, _, hlc, hcm, le, ke, kr, _⟩
  · exact ⟨[.nils], [], [], [], fun _ _ => ⟨.nils, rfl, .nil⟩, by simp, fun fid ρ _ => ⟨.cons .nils .nil, by simp⟩⟩
  · have lr := (kr rfl).1
    replace kr := (kr rfl).2
    have hml : cap < 2 ^ 63 := by unfold maxLen at hcm; omega
    have hpos := Data.pos (α := α)
    by_cases h0 : cap = 0
    · subst h0
      have : len = 0 := by omega
      subst this
      refine ⟨[.slice b0 0 0 (.k 0)], [(deadBlk, some ⟨0, 0, 0⟩)], [], [], fun _ _ => ⟨_, rfl, by simp, .inr ⟨b0, 0, _, rfl, Nat.le_refl _, .inl ⟨rfl, rfl⟩⟩⟩, by simp, fun fid ρ hρ => ⟨.cons ?_ .nil, fun s hs => ?_⟩⟩
      · exact .slice (hρ 0 _ rfl) (Nat.le_refl _) (fun c0 h => by cases h; rfl) (fun k h => by cases h) (fun h => absurd rfl h)
      · simp at hs; subst hs
        exact ⟨by simp [deadBlk], fun h => absurd rfl h⟩
    · -- the cells of each element, the spare ones too
      have key : ∀ i, i < cap → ∃ c d ps, w.cells? 0 (a.add (i * P.cellsOf e)) (P.cellsOf e) = some c ∧ DataW.trod enc P w 0 (fun _ => true) true f e c = some (d, ps) := fun i hi => by
        rcases Nat.lt_or_ge i len with hi' | hi'
        · have := ke i hi'
          rw [List.getElem?_eq_getElem (by omega)] at this
          obtain ⟨c, h1, h2⟩ := Option.bind_eq_some_iff.1 this
          exact ⟨c, _, _, h1, h2⟩
        · have := kr (i - len) (by omega)
          rw [List.getElem?_eq_getElem (by omega)] at this
          obtain ⟨c, h1, h2⟩ := Option.bind_eq_some_iff.1 this
          rw [show len + (i - len) = i by omega] at h1
          exact ⟨c, _, _, h1, h2⟩
      obtain ⟨bk, off, spot⟩ := a
      have hspot : spot = none ∧ bk < w.heap.size := by
        obtain ⟨c, _, _, h1, _⟩ := key 0 (by omega)
        simp only [World.cells?, Nat.zero_le, if_true] at h1
        obtain ⟨l1, k1⟩ := mapM_get h1
        have := k1 0 (by simp; omega) (by simp at l1; omega)
        simp only [Nat.zero_mul, List.getElem_range, Addr.add, if_true] at this
        exact cell_spot this
      obtain ⟨rfl, hbk⟩ := hspot
      have hcss : ∃ css : List (List Value), css.length = cap ∧ ∀ i (hi : i < css.length), w.cells? 0 ⟨bk, off + i * Data.sz α, none⟩ (Data.sz α) = some css[i] ∧ ∃ d ps, DataW.trod enc P w 0 (fun _ => true) true f e css[i] = some (d, ps) := by
        rw [hsz] at key
        clear ht ke kr le lr h0 hlc hcm hml
        have : ∀ n, n ≤ cap → ∃ css : List (List Value), css.length = n ∧ ∀ i (hi : i < css.length), w.cells? 0 ⟨bk, off + i * Data.sz α, none⟩ (Data.sz α) = some css[i] ∧ ∃ d ps, DataW.trod enc P w 0 (fun _ => true) true f e css[i] = some (d, ps) := by
          intro n
          induction n with
          | zero => exact fun _ => ⟨[], rfl, fun i hi => by simp at hi⟩
          | succ n ih =>
            intro hn
            obtain ⟨css, hl, hc⟩ := ih (by omega)
            obtain ⟨c, d, ps, h1, h2⟩ := key n (by omega)
            rw [add_mk] at h1
            refine ⟨css ++ [c], by simp [hl], fun i hi => ?_⟩
            simp [hl] at hi
            by_cases hin : i < css.length
            · rw [List.getElem_append_left hin]; exact hc i hin
            · have : i = n := by omega
              subst this
              have e1 : (css ++ [c])[i]'(by simp [hl]) = c := by simp [hl]
              rw [e1]; exact ⟨h1, d, ps, h2⟩
        exact this cap (Nat.le_refl _)
      obtain ⟨css, hcl, hcs⟩ := hcss
      obtain ⟨vs, ss, xs, F, hx, ⟨o1, o2, o3⟩, hrow⟩ := opensL (P := P) (α := α) bk css off (b0 + 1) hcs
      have hxl : xs.length = cap := by omega
      have hsub : (xs.take len).length = len := by simp; omega
      have hF : ∀ h : Heap, AgH h (b0 + 1) ss → ∃ F1, (∀ b ∈ F1, b ∈ F) ∧ Reps h (xs.take len) (vs.take (len * Data.sz α)) F1 := fun h ha => by
        obtain ⟨F1, F2, f, h1, _⟩ := (o1 h ha).cut2 len (by omega)
        exact ⟨F1, fun b hb => by rw [f]; exact List.mem_append_left _ hb, h1⟩
      -- the blocks of the first ones are the same in any memory
      obtain ⟨F1, hF1, hR1⟩ : ∃ F1, (∀ b ∈ F1, b ∈ F) ∧ ∀ h : Heap, AgH h (b0 + 1) ss → Reps h (xs.take len) (vs.take (len * Data.sz α)) F1 := by
        let hh : Heap := List.replicate (b0 + 1) deadBlk ++ ss.map (·.1)
        have ha : AgH hh (b0 + 1) ss := fun i s hs => by
          show (List.replicate (b0 + 1) deadBlk ++ ss.map (·.1))[b0 + 1 + i]? = _
          rw [List.getElem?_append_right (by simp)]
          simp [hs]
        obtain ⟨F1, f1, r1⟩ := hF hh ha
        refine ⟨F1, f1, fun h ha' => r1.keeps fun b blk hb hbk hl => ?_⟩
        obtain ⟨g1, g2⟩ := o2 b (f1 b hb)
        obtain ⟨i, rfl⟩ : ∃ i, b = b0 + 1 + i := ⟨b - (b0 + 1), by omega⟩
        have hi : i < ss.length := by omega
        have e1 := ha i _ (List.getElem?_eq_getElem hi)
        have e2 := ha' i _ (List.getElem?_eq_getElem hi)
        rw [e1] at hbk; cases hbk; exact e2
      refine ⟨[.slice b0 0 len (.k cap)], (⟨.ro, vs⟩, some ⟨bk, off, cap * Data.sz α⟩) :: ss, xs.take len, b0 :: F1, fun h ha => ⟨_, rfl, by rw [hsub]; omega, .inr ⟨b0, 0, .k cap, by rw [hsub], by rw [hsub]; exact hlc, .inr ⟨⟨.ro, vs⟩, _, F1, rfl, ha 0 _ rfl, by simp, ?_, hR1 h ?_⟩⟩⟩, fun b hb => ?_, fun fid ρ ha => ?_⟩
      · rw [hsub]
        have hv : ∀ h : Heap, AgH h (b0 + 1) ss → vs.length = cap * Data.sz α := fun h ha => by rw [(o1 h ha).len, hxl]
        have hvl := hv h fun i s hs => by
          have := ha (i + 1) s (by simpa using hs)
          rwa [show b0 + (i + 1) = b0 + 1 + i by omega] at this
        have : len * Data.sz α ≤ cap * Data.sz α := Nat.mul_le_mul_right _ hlc
        simp only [cut, Nat.zero_add, List.drop_zero]
        rw [if_pos (by omega)]
      · intro i s hs
        have := ha (i + 1) s (by simpa using hs)
        rwa [show b0 + (i + 1) = b0 + 1 + i by omega] at this
      · rcases List.mem_cons.1 hb with rfl | hb
        · simp
        · have := o2 b (hF1 b hb); simp; omega
      · have ha' : AgR ρ (b0 + 1) ss := fun i s hs => by
          have := ha (i + 1) s (by simpa using hs)
          rwa [show b0 + (i + 1) = b0 + 1 + i by omega] at this
        obtain ⟨r1, r2⟩ := o3 fid ρ ha'
        refine ⟨.cons (.slice (ha 0 _ rfl) hlc (fun c0 h => by cases h; rfl) (fun k h => by cases h) fun _ => rfl) .nil, fun s hs => ?_⟩
        rcases List.mem_cons.1 hs with rfl | hs
        · refine ⟨by simp, fun _ => ⟨?_, ⟨bk, off, cap * Data.sz α⟩, rfl, hbk, fun i v hv => ?_⟩⟩
          · have hh : AgH (List.replicate (b0 + 1) deadBlk ++ ss.map (·.1)) (b0 + 1) ss := fun i s hs => by
              rw [List.getElem?_append_right (by simp)]
              simp [hs]
            exact (o1 _ hh).ok
          · obtain ⟨y, hy, hv'⟩ := r1.get hv
            exact ⟨y, hrow i y hy, hv'⟩
        · exact r2 s hs⟩
end
end GL

/-! GL: a law's call, from whatever comes in. -/
namespace GL
open Go

instance pairData {α β : Type} [Data α] [Data β] : Data (α × β) where
  sz := Data.sz α + Data.sz β
  pos := Nat.lt_of_lt_of_le (Data.pos (α := α)) (Nat.le_add_right _ _)
  rep := fun h x cs F => ∃ c d F1 F2, cs = c ++ d ∧ F = F1 ++ F2 ∧ Data.rep h x.1 c F1 ∧ Data.rep h x.2 d F2
  len := by rintro h a cs F ⟨c, d, F1, F2, rfl, rfl, h1, h2⟩; rw [List.length_append, Data.len h1, Data.len h2]
  ok := by
    rintro h a cs F ⟨c, d, F1, F2, rfl, rfl, h1, h2⟩
    have a := Data.ok h1
    have b := Data.ok h2
    simp only [allCell, List.all_append, Bool.and_eq_true] at a b ⊢
    exact ⟨a, b⟩
  keeps := by
    rintro h h' a cs F ⟨c, d, F1, F2, rfl, rfl, h1, h2⟩ hk
    exact ⟨c, d, F1, F2, rfl, rfl, Data.keeps h1 (hk.mono fun b hb => List.mem_append_left _ hb), Data.keeps h2 (hk.mono fun b hb => List.mem_append_right _ hb)⟩
  lt := by
    rintro h a cs F b ⟨c, d, F1, F2, rfl, rfl, h1, h2⟩ hb
    rcases List.mem_append.1 hb with hb | hb
    · exact Data.lt h1 hb
    · exact Data.lt h2 hb

theorem Opened.pair {α β : Type} [Data α] [Data β] {w : World} {b0 : Nat} {vs vs' : List V} {ss ss' : List (Blk × Option At)} {x : α} {y : β} {F F' : List Nat} {cs cs' : List Value}
    (o : Opened w b0 vs ss x F cs) (q : Opened w (b0 + ss.length) vs' ss' y F' cs') : Opened w b0 (vs ++ vs') (ss ++ ss') (x, y) (F ++ F') (cs ++ cs') := by
  obtain ⟨o1, o2, o3⟩ := o
  obtain ⟨q1, q2, q3⟩ := q
  refine ⟨fun h ha => ⟨vs, vs', F, F', rfl, rfl, o1 h ha.left, q1 h ha.right⟩, fun b hb => ?_, fun fid ρ ha => ?_⟩
  · rcases List.mem_append.1 hb with hb | hb
    · have := o2 b hb; simp; omega
    · have := q2 b hb; simp; omega
  · obtain ⟨r1, r2⟩ := o3 fid ρ ha.left
    obtain ⟨r3, r4⟩ := q3 fid ρ ha.right
    refine ⟨r1.app r3, fun s hs => ?_⟩
    rcases List.mem_append.1 hs with hs | hs
    · exact r2 s hs
    · exact r4 s hs
theorem Opened.map {α β : Type} [Data α] [Data β] {w : World} {b0 : Nat} {vs : List V} {ss : List (Blk × Option At)} {x : α} {F : List Nat} {cs : List Value} (f : α → β) (hf : ∀ h a cs F, Data.rep h a cs F → Data.rep h (f a) cs F)
    (o : Opened w b0 vs ss x F cs) : Opened w b0 vs ss (f x) F cs := ⟨fun h ha => hf _ _ _ _ (o.1 h ha), o.2⟩

/-- the fields from here on -/
def OpensF (P : Program) (fs : List Field) (off tot : Nat) (α : Type) [Data α] : Prop :=
  ∀ {H : Type} {enc : TypeId × Value → H} {w : World} {n : Nat} {cs : List Value}, cs.length = tot → (∀ f ∈ fs, ∃ y, DataW.trod enc P w 0 (fun _ => true) true n f.type ((cs.drop f.offset).take (P.cellsOf f.type)) = some y) →
    ∀ b0, ∃ (vs : List V) (ss : List (Blk × Option At)) (x : α) (F : List Nat), Opened w b0 vs ss x F (cs.drop off)

theorem OpensF.last {P : Program} {f : Field} {off tot : Nat} {α : Type} [Data α] (A : ArgT P f.type α) (h1 : f.offset = off) (h2 : off + P.cellsOf f.type = tot) : OpensF P [f] off tot α := fun {H enc w n cs} hl hf b0 => by
  obtain ⟨⟨d, ps⟩, hy⟩ := hf f (List.mem_cons_self ..)
  rw [h1, List.take_of_length_le (by simp; omega)] at hy
  exact A.opens hy b0
theorem OpensF.cons {P : Program} {f : Field} {fs : List Field} {off tot : Nat} {α β : Type} [Data α] [Data β] (A : ArgT P f.type α) (h1 : f.offset = off) (hr : OpensF P fs (off + P.cellsOf f.type) tot β) : OpensF P (f :: fs) off tot (α × β) := fun {H enc w n cs} hl hf b0 => by
  obtain ⟨⟨d, ps⟩, hy⟩ := hf f (List.mem_cons_self ..)
  rw [h1] at hy
  obtain ⟨vs, ss, x, F, o⟩ := A.opens hy b0
  obtain ⟨vs', ss', x', F', o'⟩ := hr hl (fun g hg => hf g (List.mem_cons_of_mem _ hg)) (b0 + ss.length)
  refine ⟨vs ++ vs', ss ++ ss', (x, x'), F ++ F', ?_⟩
  have := o.pair o'
  rwa [← List.drop_drop, List.take_append_drop] at this
/-- one argument -/
def ArgIn {α : Type} [Data α] (w : World) (b0 : Nat) (x : V) (ss : List (Blk × Option At)) (a : α) (F : List Nat) (agg : Bool) (v : Value) : Prop :=
  (∀ h : Heap, AgH h b0 ss → ∃ vs, x = (if agg = true then .agg vs else vs.headD .nils) ∧ (agg = false → vs = [x]) ∧ Data.rep h a vs F) ∧ (∀ b ∈ F, b0 ≤ b ∧ b < b0 + ss.length) ∧
    ∀ (fid : Nat → FuncId) (ρ : Rho), AgR ρ b0 ss → RV fid ρ x v ∧ ∀ s ∈ ss, SideR fid ρ w s

/-- all arguments -/
inductive ArgsIn (w : World) : Nat → List V → List (Blk × Option At) → List Value → Prop
  | nil {b0 : Nat} : ArgsIn w b0 [] [] []
  | cons {α : Type} [Data α] {b0 : Nat} {x : V} {ss ss' : List (Blk × Option At)} {a : α} {F : List Nat} {agg : Bool} {v : Value} {xs : List V} {vs : List Value} :
      ArgIn w b0 x ss a F agg v → ArgsIn w (b0 + ss.length) xs ss' vs → ArgsIn w b0 (x :: xs) (ss ++ ss') (v :: vs)

theorem ArgsIn.out {w : World} {b0 : Nat} {xs : List V} {ss : List (Blk × Option At)} {vs : List Value} (h : ArgsIn w b0 xs ss vs) (fid : Nat → FuncId) (ρ : Rho) (ha : AgR ρ b0 ss) : RVs fid ρ xs vs ∧ ∀ s ∈ ss, SideR fid ρ w s := by
  induction h with
  | nil => exact ⟨.nil, by simp⟩
  | cons h1 _ ih =>
    obtain ⟨_, _, h3⟩ := h1
    obtain ⟨r1, r2⟩ := h3 fid ρ ha.left
    obtain ⟨r3, r4⟩ := ih ha.right
    refine ⟨.cons r1 r3, fun s hs => ?_⟩
    rcases List.mem_append.1 hs with hs | hs
    · exact r2 s hs
    · exact r4 s hs

/-- what an argument is, at the start -/
theorem ArgIn.at {α : Type} [Data α] {w : World} {x : V} {l m r : List (Blk × Option At)} {a : α} {F : List Nat} {agg : Bool} {v : Value} (h : ArgIn w l.length x m a F agg v) :
    ∃ vs, x = (if agg = true then .agg vs else vs.headD .nils) ∧ (agg = false → vs = [x]) ∧ Data.rep (sideH (l ++ m ++ r)) a vs F := h.1 _ fun i s hs => by
  show (List.map (·.1) (l ++ m ++ r))[l.length + i]? = _
  have hi := (List.getElem?_eq_some_iff.1 hs).1
  rw [List.getElem?_map, List.append_assoc, List.getElem?_append_right (by omega), Nat.add_sub_cancel_left, List.getElem?_append_left hi, hs]
  rfl
end GL

namespace GL
open Go

theorem mem_take_succ {α : Type} {l : List α} {i : Nat} (hi : i < l.length) {x : α} : x ∈ l.take (i + 1) ↔ x ∈ l.take i ∨ x = l[i] := by
  rw [List.take_succ_eq_append_getElem hi, List.mem_append, List.mem_singleton]
theorem all_take_succ {α : Type} {l : List α} {i : Nat} (hi : i < l.length) {P : α → Prop} : (∀ x ∈ l.take (i + 1), P x) ↔ (∀ x ∈ l.take i, P x) ∧ P l[i] := by
  constructor
  · exact fun h => ⟨fun x hx => h x ((mem_take_succ hi).2 (.inl hx)), h _ ((mem_take_succ hi).2 (.inr rfl))⟩
  · rintro ⟨h1, h2⟩ x hx
    rcases (mem_take_succ hi).1 hx with hx | rfl
    · exact h1 x hx
    · exact h2

/-- blocks of one's own, made just now -/
structure Fresh (lo : Nat) (h : Heap) (F : List Nat) : Prop where
  nodup : F.Nodup
  ge : ∀ b ∈ F, lo ≤ b
  own : ∀ b ∈ F, OwnB h b
theorem Fresh.nil {lo : Nat} {h : Heap} : Fresh lo h [] := ⟨List.nodup_nil, by simp, by simp⟩
theorem Fresh.keeps {lo : Nat} {h h' : Heap} {F : List Nat} (hf : Fresh lo h F) (hk : KeepsP (fun b => b ∈ F) h h') : Fresh lo h' F := ⟨hf.nodup, hf.ge, fun b hb => (hf.own b hb).keeps hk hb⟩
theorem Fresh.mono {lo lo' : Nat} {h : Heap} {F : List Nat} (hf : Fresh lo h F) (hl : lo' ≤ lo) : Fresh lo' h F := ⟨hf.nodup, fun b hb => Nat.le_trans hl (hf.ge b hb), hf.own⟩
theorem OwnB.lt {h : Heap} {b : Nat} (ho : OwnB h b) : b < h.length := by obtain ⟨_, h1⟩ := ho; exact get_lt h1
theorem Fresh.app {lo : Nat} {h h' : Heap} {F G : List Nat} (hf : Fresh lo h F) (hg : Fresh h.length h' G) (hk : Keeps h h') (hl : lo ≤ h.length) : Fresh lo h' (F ++ G) := by
  have hf' := hf.keeps (hk.p _)
  refine ⟨List.nodup_append.2 ⟨hf.nodup, hg.nodup, fun a ha b hb e => ?_⟩, fun b hb => ?_, fun b hb => ?_⟩
  · have := (hf.own a ha).lt
    have := hg.ge b hb
    omega
  · rcases List.mem_append.1 hb with hb | hb
    · exact hf.ge b hb
    · have := hg.ge b hb; omega
  · rcases List.mem_append.1 hb with hb | hb
    · exact hf'.own b hb
    · exact hg.own b hb

end GL

namespace GL
open Go

structure Cm where
  parts : List Int
  heard : List Int
  word : Int

/-- a commit's value -/
def CmV (h : Heap) (v : V) (c : Cm) (F : List Nat) : Prop := ∃ x y F1 F2, v = .agg [x, y, vi c.word] ∧ F = F1 ++ F2 ∧ SdF h x c.parts F1 ∧ SdF h y c.heard F2

theorem indexI_eq {h : Heap} {v : V} {xs : List Int} (hs : Sl h v xs) (n : Int) : ∃ k : Int, call p 390 [v, vi n] h = some (vi k, h) ∧ (0 ≤ k ↔ n ∈ xs) := by
  have : ∃ r h', call p 390 [v, vi n] h = some (r, h') ∧ ∃ k : Int, r = vi k ∧ h' = h ∧ (0 ≤ k ↔ n ∈ xs) := by
    refine go (fn := g390) rfl rfl fun R hR => ?_
    simp [g390, hs.len]
    refine Wc_upM (M := [4, 5, 8, 9, 10, 11, 12, 13, 14, 15, 16, 17, 18]) rfl xs.length (fun i s => s.σ 8 = .v (vi i) ∧ s.h = h ∧ n ∉ xs.take i) 0 (by simp) fun i s ⟨g8, gh, hall⟩ hM J hJ => ?_
    by_cases hn : i < xs.length
    · by_cases he : n = xs[i]
      · simp [g390_0, hM, g8, gh, hn, hs.idx, hs.loadI, he]
        exact hR _ _ ⟨i, rfl, rfl, by simp [he]⟩
      · simp [g390_0, hM, g8, gh, hn, hs.idx, hs.loadI, he, hs.step hn]
        exact hJ _ hn ⟨by simp, rfl, by rw [mem_take_succ hn]; rintro (h | h); exact hall h; exact he h⟩
    · rw [List.take_of_length_le (by omega)] at hall
      simp [g390_0, hM, g8, gh, hn]
      exact hR _ _ ⟨-1, rfl, rfl, by simpa using hall⟩
  obtain ⟨_, _, e, k, rfl, rfl, hk⟩ := this
  exact ⟨k, e, hk⟩
theorem containsI_eq {h : Heap} {v : V} {xs : List Int} (hs : Sl h v xs) (n : Int) : call p 301 [v, vi n] h = some (.bool (decide (n ∈ xs)), h) := by
  obtain ⟨k, e, hk⟩ := indexI_eq hs n
  refine go_eq (fn := g301) rfl rfl fun R hR => ?_
  simp [g301, e, hk]
  exact hR
theorem l1Has_eq {h : Heap} {v : V} {xs : List Int} (hs : Sl h v xs) (n : Int) : call p 302 [v, vi n] h = some (.bool (decide (n ∈ xs)), h) := by
  refine go_eq (fn := g302) rfl rfl fun R hR => ?_
  simp [g302, hs.len]
  refine Wc_upM (M := [4, 6, 9, 10, 11, 12, 13, 14, 15, 16]) rfl xs.length (fun i s => s.σ 9 = .v (vi i) ∧ s.h = h ∧ n ∉ xs.take i) 0 (by simp) fun i s ⟨g9, gh, hall⟩ hM J hJ => ?_
  by_cases hn : i < xs.length
  · by_cases he : xs[i] = n
    · have : n ∈ xs := by rw [← he]; simp
      simp [g302_0, hM, g9, gh, hn, hs.idx, hs.loadI, he]
      simpa [this] using hR
    · simp [g302_0, hM, g9, gh, hn, hs.idx, hs.loadI, he, hs.step hn]
      exact hJ _ hn ⟨by simp, rfl, by rw [mem_take_succ hn]; rintro (h | h); exact hall h; exact he h.symm⟩
  · rw [List.take_of_length_le (by omega)] at hall
    simp [g302_0, hM, g9, gh, hn]
    simpa [hall] using hR

def okP (w no p h : Int) : Prop :=
  (0 ≤ p ∧ p ≤ 3) ∧ (0 ≤ h ∧ h ≤ 2) ∧ ¬ (h = 1 ∧ p = 0) ∧ ¬ (h = 2 ∧ p ≠ 3) ∧ ¬ (p = 2 ∧ w ≠ 1) ∧ ¬ (w = 1 ∧ h ≠ 1) ∧ ¬ (p = 3 ∧ w ≠ 2 ∧ ¬ (w = 0 ∧ no = 1))
instance (w no p h : Int) : Decidable (okP w no p h) := by unfold okP; infer_instance
def noC (c : Cm) : Int := if (2 : Int) ∈ c.heard then 1 else 0
def goodC (c : Cm) : Bool := decide ((1 ≤ c.parts.length ∧ c.parts.length ≤ 5) ∧ c.heard.length = c.parts.length ∧ (0 ≤ c.word ∧ c.word ≤ 2) ∧ ∀ x ∈ c.parts.zip c.heard, okP c.word (noC c) x.1 x.2)

set_option maxHeartbeats 4000000 in
theorem GoodCommit_eq {h : Heap} {v : V} {c : Cm} {F : List Nat} (hc : CmV h v c F) : call p 191 [v] h = some (.bool (goodC c), h) := by
  obtain ⟨x, y, F1, F2, rfl, _, hp, hh⟩ := hc
  obtain ⟨ps, hs, w⟩ := c
  simp only at hp hh ⊢
  have hp := hp.sl
  have hh := hh.sl
  refine go_eq (fn := g191) rfl rfl fun R hR => ?_
  have bad : goodC ⟨ps, hs, w⟩ = false → R (.bool false) h := fun e => by rw [← e]; exact hR
  by_cases h1 : 1 ≤ ps.length ∧ ps.length ≤ 5
  · have h1' : 1 ≤ (ps.length : Int) ∧ (ps.length : Int) ≤ 5 := by omega
    by_cases h2 : hs.length = ps.length
    · by_cases h3 : 0 ≤ w ∧ w ≤ 2
      · simp [g191, fillL, upd, hp.cells, hp.cell, hh.cells, hh.cell, hp.len, hh.len, h1', h2, h3, -Bool.decide_and]
        refine Wc_upM (M := [2, 3, 4, 5, 29, 30, 31, 32, 33, 34, 35, 36, 37, 38, 39, 40, 41, 42, 43, 44, 45, 46, 47, 48, 49, 50, 51, 52, 53, 54, 55, 56, 57, 58, 59, 60, 61, 62, 63, 64, 65, 66, 67, 68, 69, 70, 71, 72, 73, 74, 75, 76, 77, 78, 79, 80, 81, 82, 83, 84, 85, 86, 87, 88, 89, 90, 91, 92, 93, 94, 95, 96, 97, 98, 99]) rfl ps.length
          (fun i s => i ≤ ps.length ∧ s.σ 29 = .v (vi i) ∧ s.h = h ∧ s.L 1 = (1, [x, y, vi w]) ∧ ∀ z ∈ (ps.zip hs).take i, okP w (noC ⟨ps, hs, w⟩) z.1 z.2) 0 (by simp [upd]) fun i s ⟨gi, g29, gh, gL, hall⟩ hM J hJ => ?_
        by_cases hn : i < ps.length
        · have hn2 : i < hs.length := by omega
          have hz : (ps.zip hs)[i]'(by simp; omega) = (ps[i], hs[i]) := by simp
          have hbad : ∀ no, noC ⟨ps, hs, w⟩ = no → ¬ okP w no ps[i] hs[i] → R (.bool false) h := fun no hne hno => bad (by
            subst hne
            simp only [goodC, decide_eq_false_iff_not]
            intro hg
            have := hg.2.2.2 (ps[i], hs[i]) (by rw [← hz]; exact List.getElem_mem _)
            exact hno this)
          have hgood : ∀ no, noC ⟨ps, hs, w⟩ = no → okP w no ps[i] hs[i] → ∀ z ∈ (ps.zip hs).take (i + 1), okP w (noC ⟨ps, hs, w⟩) z.1 z.2 := fun no hne ho => (all_take_succ (by simp; omega)).2 ⟨hall, by rw [hz, hne]; exact ho⟩
          by_cases hp3 : 0 ≤ ps[i] ∧ ps[i] ≤ 3
          · by_cases hh2 : 0 ≤ hs[i] ∧ hs[i] ≤ 2
            · have hp4 : ps[i] = 0 ∨ ps[i] = 1 ∨ ps[i] = 2 ∨ ps[i] = 3 := by omega
              have hh3 : hs[i] = 0 ∨ hs[i] = 1 ∨ hs[i] = 2 := by omega
              have hw3 : w = 0 ∨ w = 1 ∨ w = 2 := by omega
              have hno : (2 : Int) ∈ hs ∧ noC ⟨ps, hs, w⟩ = 1 ∨ (2 : Int) ∉ hs ∧ noC ⟨ps, hs, w⟩ = 0 := by
                by_cases h : (2 : Int) ∈ hs <;> simp [noC, h]
              rcases hp4 with ep | ep | ep | ep <;> rcases hh3 with eh | eh | eh <;> rcases hw3 with rfl | rfl | rfl <;> rcases hno with ⟨hno, hne⟩ | ⟨hno, hne⟩ <;>
                simp [g191_0, hM, g29, gh, gL, hn, hn2, hp.idx, hp.loadI, hh.idx, hh.loadI, containsI_eq hh, hp.step hn, upd, ep, eh, hno] <;>
                first
                | exact hbad _ hne (by simp [okP, ep, eh])
                | exact hJ _ hn ⟨hn, by simp, rfl, by simp [upd, gL], hgood _ hne (by simp [okP, ep, eh])⟩
            · simp [g191_0, hM, g29, gh, gL, hn, hn2, hp.idx, hp.loadI, hh.idx, hh.loadI, upd, hp3, hh2, -Bool.decide_and]
              exact hbad _ rfl fun h => hh2 h.2.1
          · simp [g191_0, hM, g29, gh, gL, hn, hn2, hp.idx, hp.loadI, hh.idx, hh.loadI, upd, hp3, -Bool.decide_and]
            exact hbad _ rfl fun h => hp3 h.1
        · have : goodC ⟨ps, hs, w⟩ = true := by
            rw [List.take_of_length_le (by simp; omega)] at hall
            simp only [goodC, decide_eq_true_eq]
            exact ⟨h1, h2, h3, hall⟩
          rw [this] at hR
          simp [g191_0, hM, g29, gh, hn]
          exact hR
      · simp [g191, fillL, upd, hp.cells, hp.cell, hh.cells, hh.cell, hp.len, hh.len, h1', h2, h3, -Bool.decide_and]
        exact bad (by simp [goodC, h3])
    · have h2' : ¬ (hs.length : Int) = ps.length := by omega
      simp [g191, fillL, upd, hp.cells, hp.cell, hh.cells, hh.cell, hp.len, hh.len, h1', h2', -Bool.decide_and]
      exact bad (by simp [goodC, h2])
  · have h1' : ¬ (1 ≤ (ps.length : Int) ∧ (ps.length : Int) ≤ 5) := by omega
    simp [g191, fillL, upd, hp.cells, hp.cell, hh.cells, hh.cell, hp.len, hh.len, h1', -Bool.decide_and]
    exact bad (by simp [goodC, h1])
set_option maxHeartbeats 4000000 in
theorem GoodCommitS_eq {h : Heap} {v : V} {c : Cm} {F : List Nat} (hc : CmV h v c F) : call p 192 [v] h = some (.bool (goodC c), h) := by
  obtain ⟨x, y, F1, F2, rfl, _, hp, hh⟩ := hc
  obtain ⟨ps, hs, w⟩ := c
  simp only at hp hh ⊢
  have hp := hp.sl
  have hh := hh.sl
  refine go_eq (fn := g192) rfl rfl fun R hR => ?_
  have bad : goodC ⟨ps, hs, w⟩ = false → R (.bool false) h := fun e => by rw [← e]; exact hR
  by_cases h1 : 1 ≤ ps.length ∧ ps.length ≤ 5
  · have h1' : 1 ≤ (ps.length : Int) ∧ (ps.length : Int) ≤ 5 := by omega
    by_cases h2 : hs.length = ps.length
    · by_cases h3 : 0 ≤ w ∧ w ≤ 2
      · simp [g192, fillL, upd, hp.cells, hp.cell, hh.cells, hh.cell, hp.len, hh.len, h1', h2, h3, -Bool.decide_and]
        refine Wc_upM (M := [2, 3, 4, 5, 6, 30, 31, 32, 33, 34, 35, 36, 37, 38, 39, 40, 41, 42, 43, 44, 45, 46, 47, 48, 49, 50, 51, 52, 53, 54, 55, 56, 57, 58, 59, 60, 61, 62, 63, 64, 65, 66, 67, 68, 69, 70, 71, 72, 73, 74, 75, 76, 77, 78, 79, 80, 81, 82, 83, 84, 85, 86, 87, 88, 89, 90, 91, 92, 93, 94, 95, 96, 97, 98, 99, 100, 101]) rfl ps.length
          (fun i s => i ≤ ps.length ∧ s.σ 30 = .v (vi i) ∧ s.h = h ∧ s.L 1 = (1, [x, y, vi w]) ∧ ∀ z ∈ (ps.zip hs).take i, okP w (noC ⟨ps, hs, w⟩) z.1 z.2) 0 (by simp [upd]) fun i s ⟨gi, g30, gh, gL, hall⟩ hM J hJ => ?_
        by_cases hn : i < ps.length
        · have hn2 : i < hs.length := by omega
          have hz : (ps.zip hs)[i]'(by simp; omega) = (ps[i], hs[i]) := by simp
          have hbad : ∀ no, noC ⟨ps, hs, w⟩ = no → ¬ okP w no ps[i] hs[i] → R (.bool false) h := fun no hne hno => bad (by
            subst hne
            simp only [goodC, decide_eq_false_iff_not]
            intro hg
            have := hg.2.2.2 (ps[i], hs[i]) (by rw [← hz]; exact List.getElem_mem _)
            exact hno this)
          have hgood : ∀ no, noC ⟨ps, hs, w⟩ = no → okP w no ps[i] hs[i] → ∀ z ∈ (ps.zip hs).take (i + 1), okP w (noC ⟨ps, hs, w⟩) z.1 z.2 := fun no hne ho => (all_take_succ (by simp; omega)).2 ⟨hall, by rw [hz, hne]; exact ho⟩
          by_cases hp3 : 0 ≤ ps[i] ∧ ps[i] ≤ 3
          · by_cases hh2 : 0 ≤ hs[i] ∧ hs[i] ≤ 2
            · have hp4 : ps[i] = 0 ∨ ps[i] = 1 ∨ ps[i] = 2 ∨ ps[i] = 3 := by omega
              have hh3 : hs[i] = 0 ∨ hs[i] = 1 ∨ hs[i] = 2 := by omega
              have hw3 : w = 0 ∨ w = 1 ∨ w = 2 := by omega
              have hno : (2 : Int) ∈ hs ∧ noC ⟨ps, hs, w⟩ = 1 ∨ (2 : Int) ∉ hs ∧ noC ⟨ps, hs, w⟩ = 0 := by
                by_cases h : (2 : Int) ∈ hs <;> simp [noC, h]
              rcases hp4 with ep | ep | ep | ep <;> rcases hh3 with eh | eh | eh <;> rcases hw3 with rfl | rfl | rfl <;> rcases hno with ⟨hno, hne⟩ | ⟨hno, hne⟩ <;>
                simp [g192_0, hM, g30, gh, gL, hn, hn2, hp.idx, hp.loadI, hh.idx, hh.loadI, l1Has_eq hh, hp.step hn, upd, ep, eh, hno] <;>
                first
                | exact hbad _ hne (by simp [okP, ep, eh])
                | exact hJ _ hn ⟨hn, by simp, rfl, by simp [upd, gL], hgood _ hne (by simp [okP, ep, eh])⟩
            · simp [g192_0, hM, g30, gh, gL, hn, hn2, hp.idx, hp.loadI, hh.idx, hh.loadI, l1Has_eq hh, upd, hp3, hh2, -Bool.decide_and]
              exact hbad _ rfl fun h => hh2 h.2.1
          · simp [g192_0, hM, g30, gh, gL, hn, hn2, hp.idx, hp.loadI, hh.idx, hh.loadI, l1Has_eq hh, upd, hp3, -Bool.decide_and]
            exact hbad _ rfl fun h => hp3 h.1
        · have : goodC ⟨ps, hs, w⟩ = true := by
            rw [List.take_of_length_le (by simp; omega)] at hall
            simp only [goodC, decide_eq_true_eq]
            exact ⟨h1, h2, h3, hall⟩
          rw [this] at hR
          simp [g192_0, hM, g30, gh, hn]
          exact hR
      · simp [g192, fillL, upd, hp.cells, hp.cell, hh.cells, hh.cell, hp.len, hh.len, h1', h2, h3, -Bool.decide_and]
        exact bad (by simp [goodC, h3])
    · have h2' : ¬ (hs.length : Int) = ps.length := by omega
      simp [g192, fillL, upd, hp.cells, hp.cell, hh.cells, hh.cell, hp.len, hh.len, h1', h2', -Bool.decide_and]
      exact bad (by simp [goodC, h2])
  · have h1' : ¬ (1 ≤ (ps.length : Int) ∧ (ps.length : Int) ≤ 5) := by omega
    simp [g192, fillL, upd, hp.cells, hp.cell, hh.cells, hh.cell, hp.len, hh.len, h1', -Bool.decide_and]
    exact bad (by simp [goodC, h1])
end GL

namespace GL
open Go

/-- all of a list, laid anew -/
theorem appNew {α : Type} [Flat α] {h : Heap} {v : V} {xs : List α} (hs : Sl h v xs) (hl : xs.length ≤ 2 ^ 20) {k bytes : Nat} (hk : k = Flat.sz α) (hb : bytes ≤ 2 ^ 8) :
    rdS (h ++ [⟨.own, []⟩]) k v xs.length = some (flats xs) ∧ ∃ r h', appH k bytes (.slice h.length 0 0 (.k 0)) xs.length (flats xs) (h ++ [⟨.own, []⟩]) = some (r, h') ∧ ∃ F, SdF h' r xs F ∧ Fresh h.length h' F ∧ Keeps h h' ∧ h.length ≤ h'.length := by
  have hs' := hs.keeps (Keeps.append h [⟨.own, []⟩])
  have e1 := hs'.rdS xs.length (Nat.le_refl _)
  rw [List.take_length] at e1
  refine ⟨by rw [hk]; exact e1, ?_⟩
  by_cases h0 : xs.length = 0
  · have : xs = [] := List.length_eq_zero_iff.1 h0
    subst this
    exact ⟨.slice h.length 0 0 (.k 0), h ++ [⟨.own, []⟩], by simp [appH, lenV], [], ⟨by simp, .inr ⟨h.length, 0, .k 0, rfl, Nat.le_refl _, .inl ⟨rfl, rfl⟩⟩⟩, Fresh.nil, Keeps.append h _, by simp⟩
  · have ho : Out h.length (h ++ [⟨.own, []⟩]) (.slice h.length 0 0 (.k 0)) ([] : List α) := Out.empty (Nat.le_refl _) (by simp)
    obtain ⟨r, h', e, o', k', l', b'⟩ := ho.app xs (by omega) hb (by simp; omega) hk rfl rfl
    simp only [List.nil_append] at o'
    have hlen : h.length < h'.length := by simp at l'; omega
    obtain ⟨F, hF, hF2, hF3⟩ := o'.sl.sdF o'.cap
    refine ⟨r, h', e, F, hF, ⟨hF.flatF.2.1, fun b hb => ?_, fun b hb => ?_⟩, Keeps.far (n := h.length) (Keeps.append h _) k' (Nat.le_refl _) fun i hi ⟨_, _, _, e⟩ => by cases e; omega, by omega⟩
    · exact (o'.ge (hF2 b hb).2).1
    · obtain ⟨_, _, ⟨rfl, rfl⟩ | ⟨b1, rfl, hb1, _⟩ | ⟨b1, rfl, rfl, _⟩⟩ := o'
      · simp at h0
      · have := (hF2 b hb).1; simp [bOf] at this; subst this; exact ⟨_, hb1⟩
      · simp at h0

theorem cloneI_ok {h : Heap} {v : V} {xs : List Int} (hs : Sl h v xs) (hl : xs.length ≤ 2 ^ 20) : ∃ r h', call p 389 [v] h = some (r, h') ∧ ∃ F, SdF h' r xs F ∧ Fresh h.length h' F ∧ Keeps h h' ∧ h.length ≤ h'.length := by
  refine go (fn := g389) rfl rfl fun R hR => ?_
  obtain ⟨e1, r, h', e2, F, q1, q2, q3, q4⟩ := appNew hs hl (k := 1) (bytes := 8) rfl (by decide)
  have hlen := hs.len
  rcases hs with ⟨_, ⟨rfl, rfl⟩ | ⟨b, off, cap, rfl, _⟩⟩
  · simp [g389]
    exact hR _ _ ⟨[], SdF.nil, Fresh.nil, Keeps.refl _, Nat.le_refl _⟩
  · simp [g389, fillL, e1, e2]
    exact hR _ _ ⟨F, q1, q2, q3, q4⟩

theorem cloned_ok {h : Heap} {v : V} {c : Cm} {F : List Nat} (hc : CmV h v c F) (h1 : c.parts.length ≤ 2 ^ 20) (h2 : c.heard.length ≤ 2 ^ 20) :
    ∃ r h', call p 294 [v] h = some (r, h') ∧ ∃ G, CmV h' r c G ∧ Fresh h.length h' G ∧ Keeps h h' ∧ h.length ≤ h'.length := by
  obtain ⟨x, y, F1, F2, rfl, _, hp, hh⟩ := hc
  obtain ⟨a, ha, e1, G1, p1, p2, p3, p4⟩ := cloneI_ok hp.sl h1
  obtain ⟨b, hb, e2, G2, q1, q2, q3, q4⟩ := cloneI_ok (hh.keep p3).sl h2
  refine go (fn := g294) rfl rfl fun R hR => ?_
  simp [g294, fillL, upd, hp.cells, hp.cell, hh.cells, hh.cell, e1, e2, p1.cells, p1.cell, q1.cells, q1.cell, resV, mkV]
  exact hR _ _ ⟨G1 ++ G2, ⟨a, b, G1, G2, rfl, rfl, p1.keep q3, q1⟩, p2.app q2 q3 p4, p3.trans q3, by omega⟩
theorem begin_two (σ : Nat → T) (L : Nat → Nat × List V) (h : Heap) (wt : Nat → Option (ROp × List T × V)) (fl : Nat → Bool) (b : Nat) :
    S.begin ⟨σ, L, h, wt, fl, b⟩ 2 = ⟨σ, L, h ++ [deadBlk, deadBlk], fun _ => none, fun _ => false, h.length⟩ := by simp [S.begin]
theorem xop_m {c : CallF} {σ : Nat → T} {L : Nat → Nat × List V} {h : Heap} {wt : Nat → Option (ROp × List T × V)} {fl : Nat → Bool} {b ix d : Nat} {as : List Opd} {o : MOp} {slot : Nat} : xop c ⟨ix, some d, none, .m o slot, as⟩ ⟨σ, L, h, wt, fl, b⟩ = (mop o (as.map (S.ev ⟨σ, L, h, wt, fl, b⟩)) (h.take b)).bind fun r =>
    if fl slot = false ∧ isDead h (b + slot) = true then some ⟨upd σ d (.v (r.2 (b + slot))), L, h.set (b + slot) r.1, wt, upd fl slot true, b⟩ else none := rfl
theorem isDeadA (h l : Heap) (j : Nat) : isDead (h ++ l) (h.length + j) = isDead l j := by
  simp [isDead, List.getElem?_append_right]
theorem setA (h l : Heap) (j : Nat) (x : Blk) : (h ++ l).set (h.length + j) x = h ++ l.set j x := by
  simp [List.set_append_right]
theorem appH_first {H : Heap} {b k n bytes : Nat} {ys : List V} (hn : 0 < n) (hl : n ≤ 2 ^ 20) (hb : bytes ≤ 2 ^ 8) : appH k bytes (.slice b 0 0 (.k 0)) n ys H = some (.slice H.length 0 n (.o k), H ++ [⟨.own, ys⟩]) := by
  have hbb : n * bytes ≤ 2 ^ 20 * 2 ^ 8 := Nat.mul_le_mul hl hb
  have hgt : ¬ (0 + n ≤ 0) := by omega
  simp only [appH, Nat.ne_of_gt hn, if_false, hgt]
  rw [if_pos ⟨by unfold room; rw [Nat.zero_add]; omega, by unfold room; omega⟩]
  simp [rdS]
theorem sdF_new {α : Type} [Flat α] {h : Heap} {b : Nat} {xs : List α} {k : Nat} (hb : h[b]? = some ⟨.own, flats xs⟩) (hl : xs.length < 2 ^ 63) (hk : k = Flat.sz α) : SdF h (.slice b 0 xs.length (.o k)) xs [b] := by
  subst hk
  refine ⟨hl, .inr ⟨b, 0, _, rfl, rfl, .inr ⟨_, _, [], rfl, hb, by simp, ?_, Reps.flat.2 ⟨rfl, rfl⟩⟩⟩⟩
  show cut (flats xs) 0 (xs.length * Flat.sz α) = _
  simp only [cut, flats_len, Nat.zero_add, List.drop_zero]
  rw [if_pos (Nat.le_refl _), List.take_of_length_le (by rw [flats_len]; exact Nat.le_refl _)]

theorem l16Own_ok {h : Heap} {v : V} {c : Cm} {F : List Nat} (hc : CmV h v c F) (h1 : c.parts.length ≤ 2 ^ 20) (h2 : c.heard.length ≤ 2 ^ 20) (n1 : 0 < c.parts.length) (n2 : 0 < c.heard.length) :
    ∃ r h', call p 291 [v] h = some (r, h') ∧ ∃ G, CmV h' r c G ∧ Fresh h.length h' G ∧ Keeps h h' ∧ h.length ≤ h'.length := by
  obtain ⟨x, y, F1, F2, rfl, _, hp, hh⟩ := hc
  have k1 : Keeps h (h ++ [⟨.own, []⟩, deadBlk]) := Keeps.append h _
  have k2 : Keeps h (h ++ [⟨.own, []⟩, ⟨.own, []⟩, ⟨.own, flats c.parts⟩]) := Keeps.append h _
  have e1 := (hp.keep k1).sl.rdS _ (Nat.le_refl _)
  have e2 := (hh.keep k2).sl.rdS _ (Nat.le_refl _)
  rw [List.take_length] at e1 e2
  have e1' : rdS (h ++ [⟨.own, []⟩, deadBlk]) 1 x c.parts.length = some (flats c.parts) := e1
  have e2' : rdS (h ++ [⟨.own, []⟩, ⟨.own, []⟩, ⟨.own, flats c.parts⟩]) 1 y c.heard.length = some (flats c.heard) := e2
  refine go (fn := g291) rfl rfl fun R hR => ?_
  have iD : isDead [⟨.own, []⟩, deadBlk, ⟨.own, flats c.parts⟩] 1 = true := rfl
  have iD0 : isDead [deadBlk, deadBlk] 0 = true := rfl
  have a0 := isDeadA h [deadBlk, deadBlk] 0
  have s0 := setA h [deadBlk, deadBlk] 0 ⟨.own, []⟩
  have a1 := isDeadA h [⟨.own, []⟩, deadBlk, ⟨.own, flats c.parts⟩] 1
  have s1 := setA h [⟨.own, []⟩, deadBlk, ⟨.own, flats c.parts⟩] 1 ⟨.own, []⟩
  simp only [Nat.add_zero, List.set_cons_zero, List.set_cons_succ] at a0 s0 a1 s1
  simp [g291, fillL, upd, begin_two, xop_m, a0, s0, a1, s1, iD, iD0, hp.cells, hp.cell, hh.cells, hh.cell, hp.len, hh.len, e1', e2', appH_first n1 h1, appH_first n2 h2, resV, mkV]
  have f1 : SdF (h ++ [⟨.own, []⟩, ⟨.own, []⟩, ⟨.own, flats c.parts⟩, ⟨.own, flats c.heard⟩]) (.slice (h.length + 2) 0 c.parts.length (.o 1)) c.parts [h.length + 2] := sdF_new (by simp) (by omega) rfl
  have f2 : SdF (h ++ [⟨.own, []⟩, ⟨.own, []⟩, ⟨.own, flats c.parts⟩, ⟨.own, flats c.heard⟩]) (.slice (h.length + 3) 0 c.heard.length (.o 1)) c.heard [h.length + 3] := sdF_new (by simp) (by omega) rfl
  refine ⟨by simp only [allDead, List.all_cons, List.all_nil, isDeadA]; rfl, ?_⟩
  refine hR _ _ ⟨[h.length + 2] ++ [h.length + 3], ⟨_, _, _, _, rfl, rfl, f1, f2⟩, ⟨by simp, by simp, ?_⟩, Keeps.append h _, by simp⟩
  intro b hb
  simp at hb
  rcases hb with rfl | rfl
  · exact ⟨flats c.parts, by simp⟩
  · exact ⟨flats c.heard, by simp⟩

theorem isOver_eq (n : Int) (h : Heap) : call p 305 [vi n] h = some (.bool (decide (n = 2 ∨ n = 3)), h) := by
  refine go_eq (fn := g305) rfl rfl fun R hR => ?_
  by_cases h1 : n = 2 <;> by_cases h2 : n = 3 <;> simp [g305, h1, h2] <;> simpa [h1, h2] using hR
theorem l16Over_eq (n : Int) (h : Heap) : call p 306 [vi n] h = some (.bool (decide (n = 2 ∨ n = 3)), h) := by
  refine go_eq (fn := g306) rfl rfl fun R hR => ?_
  by_cases h1 : n = 2 <;> by_cases h2 : n = 3 <;> simp [g306, h1, h2] <;> simpa [h1, h2] using hR
theorem isOne_eq {h : Heap} {x y : V} {w : V} {ps : List Int} {F : List Nat} (hp : SdF h x ps F) (n : Int) (hy : y.cells = [y] ∧ y.cell = true) (hw : ∃ m, w = vi m) : call p 303 [.agg [x, y, w], vi n] h = some (.bool (decide (0 ≤ n ∧ n < ps.length)), h) := by
  obtain ⟨m, rfl⟩ := hw
  have hb := hp.bd
  have w : IntKind.i64.wrap ((ps.length : Int) - 1) = (ps.length : Int) - 1 := by rw [IntWalk.i64_in] <;> omega
  refine go_eq (fn := g303) rfl rfl fun R hR => ?_
  have e : (decide (0 ≤ n ∧ n ≤ (ps.length : Int) - 1)) = decide (0 ≤ n ∧ n < ps.length) := by congr 1; simp; omega
  simp [g303, fillL, upd, hp.len, hp.cells, hp.cell, hy, w, e, -Bool.decide_and]
  exact hR

/-- a function value that asks whether a number is one that is not 1 -/
theorem not1_eq (n : Int) (h : Heap) : call p 392 [vi n] h = some (.bool (decide (n ≠ 1)), h) := by
  refine go_eq (fn := g392) rfl rfl fun R hR => ?_
  simp [g392]; simpa using hR
theorem indexF_eq {h : Heap} {v : V} {xs : List Int} (hs : Sl h v xs) (f : Nat) (capt : List V) (q : Int → Bool) (hf : ∀ n h, call p f (vi n :: capt) h = some (.bool (q n), h)) : ∃ k : Int, call p 391 [v, .fn f capt] h = some (vi k, h) ∧ (0 ≤ k ↔ ∃ x ∈ xs, q x = true) := by
  have : ∃ r h', call p 391 [v, .fn f capt] h = some (r, h') ∧ ∃ k : Int, r = vi k ∧ h' = h ∧ (0 ≤ k ↔ ∃ x ∈ xs, q x = true) := by
    refine go (fn := g391) rfl rfl fun R hR => ?_
    simp [g391, hs.len]
    refine Wc_upM (M := [4, 5, 8, 9, 10, 11, 12, 13, 14, 15, 16, 17, 18]) rfl xs.length (fun i s => s.σ 8 = .v (vi i) ∧ s.h = h ∧ ∀ x ∈ xs.take i, q x = false) 0 (by simp) fun i s ⟨g8, gh, hall⟩ hM J hJ => ?_
    by_cases hn : i < xs.length
    · cases he : q xs[i] with
      | true =>
        simp [g391_0, hM, g8, gh, hn, hs.idx, hs.loadI, hf, he]
        exact hR _ _ ⟨i, rfl, rfl, by simp; exact ⟨xs[i], by simp, he⟩⟩
      | false =>
        simp [g391_0, hM, g8, gh, hn, hs.idx, hs.loadI, hf, he, hs.step hn]
        exact hJ _ hn ⟨by simp, rfl, (all_take_succ hn).2 ⟨hall, he⟩⟩
    · rw [List.take_of_length_le (by omega)] at hall
      simp [g391_0, hM, g8, gh, hn]
      exact hR _ _ ⟨-1, rfl, rfl, by simpa using hall⟩
  obtain ⟨_, _, e, k, rfl, rfl, hk⟩ := this
  exact ⟨k, e, hk⟩
theorem containsF_eq {h : Heap} {v : V} {xs : List Int} (hs : Sl h v xs) (f : Nat) (capt : List V) (q : Int → Bool) (hf : ∀ n h, call p f (vi n :: capt) h = some (.bool (q n), h)) : call p 304 [v, .fn f capt] h = some (.bool (xs.any q), h) := by
  obtain ⟨k, e, hk⟩ := indexF_eq hs f capt q hf
  refine go_eq (fn := g304) rfl rfl fun R hR => ?_
  have : decide (0 ≤ k) = xs.any q := by
    rw [Bool.eq_iff_iff]; simp [hk]
  simp [g304, e, this]
  exact hR
theorem l16Word_eq {h : Heap} {v : V} {xs : List Int} (hs : Sl h v xs) : call p 388 [v] h = some (vi (if xs.any (fun n => decide (n ≠ 1)) = true then 2 else 1), h) := by
  refine go_eq (fn := g388) rfl rfl fun R hR => ?_
  simp [g388, l1All_eq hs, -Bool.decide_and]
  by_cases hq : ∀ x ∈ xs, 1 ≤ x ∧ x ≤ 1
  · have : (xs.any fun n => decide (n ≠ 1)) = false := by simp; intro x hx; have := hq x hx; omega
    rw [this] at hR
    rw [if_pos hq]; simpa using hR
  · have : (xs.any fun n => decide (n ≠ 1)) = true := by
      simp
      apply Classical.byContradiction
      intro hno
      exact hq fun x hx => by
        have : x = 1 := Classical.byContradiction fun h => hno ⟨x, hx, h⟩
        omega
    rw [this] at hR
    rw [if_neg hq]; simpa using hR
end GL

namespace GL
open Go

structure Tk where
  kind : Int
  part : Int
  other : Int
abbrev tv (t : Tk) : V := .agg [vi t.kind, vi t.part, vi t.other]

/-- a commit in a block of its own -/
structure CmP (h : Heap) (c : Nat) (x y : V) (m : Cm) (F1 F2 : List Nat) : Prop where
  blk : h[c]? = some ⟨.own, [x, y, vi m.word]⟩
  parts : SdF h x m.parts F1
  heard : SdF h y m.heard F2
  out : c ∉ F1 ∧ c ∉ F2
  nodup : (F1 ++ F2).Nodup
  own : ∀ b ∈ F1 ++ F2, OwnB h b
/-- nothing else is touched -/
def CmS (h h' : Heap) (c : Nat) (F : List Nat) : Prop := KeepsP (fun b => b ≠ c ∧ b ∉ F) h h' ∧ h'.length = h.length
theorem CmS.refl (h : Heap) (c : Nat) (F : List Nat) : CmS h h c F := ⟨KeepsP.refl _ _, rfl⟩
theorem CmS.trans {h h1 h2 : Heap} {c : Nat} {F : List Nat} (a : CmS h h1 c F) (b : CmS h1 h2 c F) : CmS h h2 c F := ⟨a.1.trans b.1, by rw [b.2, a.2]⟩

section
variable {h : Heap} {c : Nat} {x y : V} {m : Cm} {F1 F2 : List Nat}
/-- its word is set -/
theorem CmP.setW (hc : CmP h c x y m F1 F2) (w : Int) : CmP (h.set c ⟨.own, [x, y, vi w]⟩) c x y ⟨m.parts, m.heard, w⟩ F1 F2 ∧ CmS h (h.set c ⟨.own, [x, y, vi w]⟩) c (F1 ++ F2) := by
  have hlt := get_lt hc.blk
  have hk : KeepsP (fun b => b ≠ c) h (h.set c ⟨.own, [x, y, vi w]⟩) := fun b blk hb h1 _ => by rw [List.getElem?_set_ne (Ne.symm hb)]; exact h1
  have ne : ∀ b ∈ F1 ++ F2, b ≠ c := fun b hb e => by
    subst e
    rcases List.mem_append.1 hb with hb | hb
    · exact hc.out.1 hb
    · exact hc.out.2 hb
  exact ⟨⟨by simp [hlt], hc.parts.keeps (hk.mono fun b hb => ne b (List.mem_append_left _ hb)), hc.heard.keeps (hk.mono fun b hb => ne b (List.mem_append_right _ hb)), hc.out, hc.nodup, fun b hb => (hc.own b hb).set hlt⟩, hk.mono fun b hb => hb.1, by simp⟩
/-- a part is set -/
theorem CmP.setP (hc : CmP h c x y m F1 F2) {k : Nat} (hk : k < m.parts.length) (n : Int) : ∃ h', wrH h (bOf x) (oOf x + k) [vi n] = some h' ∧ CmP h' c x y ⟨m.parts.set k n, m.heard, m.word⟩ F1 F2 ∧ CmS h h' c (F1 ++ F2) := by
  obtain ⟨f1, f2, f3⟩ := hc.parts.flatF
  have hne : m.parts ≠ [] := by intro e; rw [e] at hk; simp at hk
  have hF := f3 hne
  have hb : bOf x ∈ F1 := by rw [hF]; simp
  obtain ⟨h', e, s', k', l', o'⟩ := hc.parts.putF (hc.own _ (List.mem_append_left _ hb)) hk (x' := n) (o := 0) (ys := [vi n]) (by simp [Flat.cells, lay])
  simp [Flat.sz] at e
  have hnd := List.nodup_append.1 hc.nodup
  refine ⟨h', e, ⟨k' _ _ (fun e => hc.out.1 (by rw [e]; exact hb)) hc.blk (by simp), s', hc.heard.keeps (k'.mono fun b hb2 e => hnd.2.2 _ hb b hb2 e.symm), hc.out, hc.nodup, fun b hb => o' b (hc.own b hb)⟩, k'.mono fun b hb2 e => hb2.2 (by rw [e]; exact List.mem_append_left _ hb), l'⟩
/-- what is heard of a part is set -/
theorem CmP.setH (hc : CmP h c x y m F1 F2) {k : Nat} (hk : k < m.heard.length) (n : Int) : ∃ h', wrH h (bOf y) (oOf y + k) [vi n] = some h' ∧ CmP h' c x y ⟨m.parts, m.heard.set k n, m.word⟩ F1 F2 ∧ CmS h h' c (F1 ++ F2) := by
  obtain ⟨f1, f2, f3⟩ := hc.heard.flatF
  have hne : m.heard ≠ [] := by intro e; rw [e] at hk; simp at hk
  have hF := f3 hne
  have hb : bOf y ∈ F2 := by rw [hF]; simp
  obtain ⟨h', e, s', k', l', o'⟩ := hc.heard.putF (hc.own _ (List.mem_append_right _ hb)) hk (x' := n) (o := 0) (ys := [vi n]) (by simp [Flat.cells, lay])
  simp [Flat.sz] at e
  have hnd := List.nodup_append.1 hc.nodup
  refine ⟨h', e, ⟨k' _ _ (fun e => hc.out.2 (by rw [e]; exact hb)) hc.blk (by simp), hc.parts.keeps (k'.mono fun b hb2 e => hnd.2.2 b hb2 _ hb e), s', hc.out, hc.nodup, fun b hb => o' b (hc.own b hb)⟩, k'.mono fun b hb2 e => hb2.2 (by rw [e]; exact List.mem_append_right _ hb), l'⟩

theorem decide_ok (hc : CmP h c x y m F1 F2) : ∃ r h', call p 307 [.ptr c 0] h = some (r, h') ∧ r = .bool (decide (m.word = 0)) ∧
    CmP h' c x y ⟨m.parts, m.heard, if m.word = 0 then (if m.heard.any (fun n => decide (n ≠ 1)) = true then 2 else 1) else m.word⟩ F1 F2 ∧ CmS h h' c (F1 ++ F2) := by
  refine go (fn := g307) rfl rfl fun R hR => ?_
  by_cases hw : m.word = 0
  · obtain ⟨c1, s1⟩ := hc.setW 1
    obtain ⟨c2, s2⟩ := c1.setW 2
    have e1 := containsF_eq c1.heard.sl 392 [] (fun n => decide (n ≠ 1)) not1_eq
    have hlt := get_lt hc.blk
    cases hq : m.heard.any fun n => decide (n ≠ 1) with
    | true =>
      rw [hq] at e1
      simp [g307, rdH_at hc.blk, hw, wrH_at hc.blk, rdH_set hlt, wrH_set hlt, e1]
      refine hR _ _ ⟨by simp [hw], by rw [if_pos hw, if_pos hq]; simpa using c2, by simpa using s1.trans s2⟩
    | false =>
      rw [hq] at e1
      simp [g307, rdH_at hc.blk, hw, wrH_at hc.blk, rdH_set hlt, wrH_set hlt, e1]
      refine hR _ _ ⟨by simp [hw], by rw [if_pos hw, if_neg (by rw [hq]; simp)]; exact c1, s1⟩
  · simp [g307, rdH_at hc.blk, hw]
    exact hR _ _ ⟨by simp [hw], by simpa [hw] using hc, CmS.refl _ _ _⟩

theorem tell_ok (hc : CmP h c x y m F1 F2) {k : Nat} (hk : k < m.parts.length) : ∃ r h', call p 308 [.ptr c 0, vi k] h = some (r, h') ∧ r = .bool (decide (¬ ((m.parts[k] = 2 ∨ m.parts[k] = 3) ∨ m.word = 0))) ∧
    CmP h' c x y (if (m.parts[k] = 2 ∨ m.parts[k] = 3) ∨ m.word = 0 then m else ⟨m.parts.set k (if m.word = 2 then 3 else 2), m.heard, m.word⟩) F1 F2 ∧ CmS h h' c (F1 ++ F2) := by
  refine go (fn := g308) rfl rfl fun R hR => ?_
  by_cases h1 : m.parts[k] = 2 ∨ m.parts[k] = 3
  · simp [g308, rdH_at hc.blk, hc.parts.idx, hk, hc.parts.sl.loadI, isOver_eq, h1]
    exact hR _ _ ⟨by simp [h1], by simpa [h1] using hc, CmS.refl _ _ _⟩
  · by_cases hw : m.word = 0
    · simp [g308, rdH_at hc.blk, hc.parts.idx, hk, hc.parts.sl.loadI, isOver_eq, h1, hw]
      exact hR _ _ ⟨by simp [hw], by simpa [hw] using hc, CmS.refl _ _ _⟩
    · obtain ⟨h2, e2, c2, s2⟩ := hc.setP hk 2
      by_cases hw2 : m.word = 2
      · obtain ⟨h3, e3, c3, s3⟩ := c2.setP (k := k) (by simpa using hk) 3
        have hb2 := c2.blk
        simp only [hw2] at hb2
        simp [g308, rdH_at hc.blk, hc.parts.idx, hk, hc.parts.sl.loadI, isOver_eq, h1, hw2, e2, e3, rdH_at hb2]
        refine hR _ _ ⟨by simp [hw, h1], by simpa [hw2, h1] using c3, s2.trans s3⟩
      · simp [g308, rdH_at hc.blk, hc.parts.idx, hk, hc.parts.sl.loadI, isOver_eq, h1, hw, e2, rdH_at c2.blk, hw2]
        refine hR _ _ ⟨by simp [hw, h1], by simpa [hw, hw2, h1] using c2, s2⟩
end

def stepC (c : Cm) (t : Tk) : Option Cm :=
  if ¬ (0 ≤ t.part ∧ t.part < c.parts.length) ∨ (t.kind ≠ 5 ∧ t.other ≠ 0) then none else
  if t.kind = 1 then (if c.parts.getD t.part.toNat 0 = 0 ∧ c.word = 0 then some ⟨c.parts.set t.part.toNat 1, c.heard.set t.part.toNat 1, c.word⟩ else none)
  else if t.kind = 2 then (if c.parts.getD t.part.toNat 0 = 0 ∧ c.word ≠ 1 then some ⟨c.parts.set t.part.toNat 3, c.heard.set t.part.toNat 2, c.word⟩ else none)
  else if t.kind = 3 then (if t.part = 0 ∧ c.word = 0 then some ⟨c.parts, c.heard, if c.heard.any (fun n => decide (n ≠ 1)) = true then 2 else 1⟩ else none)
  else if t.kind = 4 then (if (c.parts.getD t.part.toNat 0 = 2 ∨ c.parts.getD t.part.toNat 0 = 3) ∨ c.word = 0 then none else some ⟨c.parts.set t.part.toNat (if c.word = 2 then 3 else 2), c.heard, c.word⟩)
  else if t.kind = 5 then (if (0 ≤ t.other ∧ t.other < c.parts.length) ∧ t.other ≠ t.part ∧ c.parts.getD t.part.toNat 0 = 1 ∧ (c.parts.getD t.other.toNat 0 = 2 ∨ c.parts.getD t.other.toNat 0 = 3) then some ⟨c.parts.set t.part.toNat (c.parts.getD t.other.toNat 0), c.heard, c.word⟩ else none)
  else none

theorem step_ok {h : Heap} {c : Nat} {x y : V} {m : Cm} {F1 F2 : List Nat} (hc : CmP h c x y m F1 F2) (hl : m.heard.length = m.parts.length) (t : Tk) :
    ∃ r h', call p 295 [.ptr c 0, tv t] h = some (r, h') ∧ r = .bool (stepC m t).isSome ∧ CmP h' c x y ((stepC m t).getD m) F1 F2 ∧ CmS h h' c (F1 ++ F2) := by
  refine go (fn := g295) rfl rfl fun R hR => ?_
  obtain ⟨tk, tp, to⟩ := t
  have noA : ∀ h', stepC m ⟨tk, tp, to⟩ = none → CmP h' c x y m F1 F2 → CmS h h' c (F1 ++ F2) → R (.bool false) h' := fun h' e h1 h2 => hR _ _ ⟨by rw [e]; rfl, by rw [e]; exact h1, h2⟩
  have no : stepC m ⟨tk, tp, to⟩ = none → R (.bool false) h := fun e => noA h e hc (CmS.refl _ _ _)
  have yes : ∀ m' h', stepC m ⟨tk, tp, to⟩ = some m' → CmP h' c x y m' F1 F2 → CmS h h' c (F1 ++ F2) → R (.bool true) h' := fun m' h' e h1 h2 => hR _ _ ⟨by rw [e]; rfl, by rw [e]; exact h1, h2⟩
  clear hR
  have one := fun (w n : Int) => isOne_eq (h := h) (w := vi w) hc.parts n ⟨hc.heard.cells, hc.heard.cell⟩ ⟨w, rfl⟩
  by_cases hp : 0 ≤ tp ∧ tp < m.parts.length
  · obtain ⟨k, rfl⟩ := Int.eq_ofNat_of_zero_le hp.1
    have hk : k < m.parts.length := by omega
    have hkh : k < m.heard.length := by omega
    have hgd : m.parts.getD k 0 = m.parts[k] := by simp [hk]
    by_cases ho : tk ≠ 5 ∧ to ≠ 0
    · simp [g295, fillL, upd, rdH_at hc.blk, one, hk, ho.1, ho.2]
      exact no (by simp [stepC, ho.1, ho.2])
    · have pre : ¬ (¬ (0 ≤ ((k : Nat) : Int) ∧ ((k : Nat) : Int) < m.parts.length) ∨ (tk ≠ 5 ∧ to ≠ 0)) := by
        rintro (h | h)
        · exact h hp
        · exact ho h
      simp only [stepC, pre, if_false, Int.toNat_natCast, hgd] at yes no noA
      by_cases k5 : tk = 5
      · subst k5
        simp only [show ¬ (5 : Int) = 1 by decide, show ¬ (5 : Int) = 2 by decide, show ¬ (5 : Int) = 3 by decide, show ¬ (5 : Int) = 4 by decide, if_false, if_true] at yes no noA
        by_cases q1 : 0 ≤ to ∧ to < m.parts.length
        · obtain ⟨j, rfl⟩ := Int.eq_ofNat_of_zero_le q1.1
          have hj : j < m.parts.length := by omega
          have hgj : m.parts.getD j 0 = m.parts[j] := by simp [hj]
          simp only [Int.toNat_natCast, hgj, q1, and_self, true_and] at yes no noA
          by_cases q2 : (j : Int) = k
          · simp [g295, fillL, upd, rdH_at hc.blk, one, hk, hj, hc.parts.idx, hc.parts.sl.loadI, q2]
            exact no (by simp [q2])
          · by_cases q3 : m.parts[k] = 1
            · by_cases q4 : m.parts[j] = 2 ∨ m.parts[j] = 3
              · obtain ⟨h2, e2, c2, s2⟩ := hc.setP hk m.parts[j]
                simp [g295, fillL, upd, rdH_at hc.blk, one, hk, hj, hc.parts.idx, hc.parts.sl.loadI, q2, q3, isOver_eq, q4, e2]
                exact yes _ _ (by simp [q2, q3, q4]) c2 s2
              · simp [g295, fillL, upd, rdH_at hc.blk, one, hk, hj, hc.parts.idx, hc.parts.sl.loadI, q2, q3, isOver_eq, q4]
                exact no (by simp [q4])
            · simp [g295, fillL, upd, rdH_at hc.blk, one, hk, hj, hc.parts.idx, hc.parts.sl.loadI, q2, q3]
              exact no (by simp [q3])
        · simp [g295, fillL, upd, rdH_at hc.blk, one, hk, hc.parts.idx, hc.parts.sl.loadI, q1, -Bool.decide_and]
          exact no (by simp [q1])
      · have to0 : to = 0 := Classical.byContradiction fun h => ho ⟨k5, h⟩
        subst to0
        simp only [k5, if_false] at yes no noA
        by_cases k1 : tk = 1
        · subst k1
          simp only [if_true] at yes no noA
          by_cases q1 : m.parts[k] = 0
          · by_cases q2 : m.word = 0
            · obtain ⟨h2, e2, c2, s2⟩ := hc.setP hk 1
              obtain ⟨h3, e3, c3, s3⟩ := c2.setH (k := k) hkh 1
              simp [g295, fillL, upd, rdH_at hc.blk, one, hk, hkh, hc.parts.idx, hc.heard.idx, hc.parts.sl.loadI, q1, q2, e2, e3]
              exact yes _ _ (by rw [if_pos ⟨q1, q2⟩]) c3 (s2.trans s3)
            · simp [g295, fillL, upd, rdH_at hc.blk, one, hk, hc.parts.idx, hc.parts.sl.loadI, q1, q2]
              exact no (by simp [q2])
          · simp [g295, fillL, upd, rdH_at hc.blk, one, hk, hc.parts.idx, hc.parts.sl.loadI, q1]
            exact no (by simp [q1])
        · simp only [k1, if_false] at yes no noA
          by_cases k2 : tk = 2
          · subst k2
            simp only [if_true] at yes no noA
            by_cases q1 : m.parts[k] = 0
            · by_cases q2 : m.word = 1
              · simp [g295, fillL, upd, rdH_at hc.blk, one, hk, hc.parts.idx, hc.parts.sl.loadI, q1, q2]
                exact no (by simp [q2])
              · obtain ⟨h2, e2, c2, s2⟩ := hc.setP hk 3
                obtain ⟨h3, e3, c3, s3⟩ := c2.setH (k := k) hkh 2
                simp [g295, fillL, upd, rdH_at hc.blk, one, hk, hkh, hc.parts.idx, hc.heard.idx, hc.parts.sl.loadI, q1, q2, e2, e3]
                exact yes _ _ (by rw [if_pos ⟨q1, q2⟩]) c3 (s2.trans s3)
            · simp [g295, fillL, upd, rdH_at hc.blk, one, hk, hc.parts.idx, hc.parts.sl.loadI, q1]
              exact no (by simp [q1])
          · simp only [k2, if_false] at yes no noA
            by_cases k3 : tk = 3
            · subst k3
              simp only [if_true] at yes no noA
              by_cases q1 : (k : Int) = 0
              · obtain ⟨_, h2, e2, rfl, c2, s2⟩ := decide_ok hc
                have k0 : k = 0 := by omega
                subst k0
                have i0 := hc.parts.idx 1 .i64 0 hk
                have l0 := hc.parts.sl.loadI 0 hk
                have one0 := fun w => one w 0
                simp [hk] at i0 l0 one0
                by_cases q2 : m.word = 0
                · rw [if_pos q2] at c2
                  simp [q2] at e2
                  simp [g295, fillL, upd, rdH_at hc.blk, one0, hk, i0, l0, e2]
                  exact yes _ _ (by rw [if_pos ⟨q1, q2⟩]) c2 s2
                · rw [if_neg q2] at c2
                  simp [q2] at e2
                  simp [g295, fillL, upd, rdH_at hc.blk, one0, hk, i0, l0, e2]
                  exact noA _ (by simp [q2]) c2 s2
              · have q1' : ¬ k = 0 := by omega
                simp [g295, fillL, upd, rdH_at hc.blk, one, hk, hc.parts.idx, hc.parts.sl.loadI, q1']
                exact no (by simp [q1'])
            · simp only [k3, if_false] at yes no noA
              by_cases k4 : tk = 4
              · subst k4
                simp only [if_true] at yes no noA
                obtain ⟨_, h2, e2, rfl, c2, s2⟩ := tell_ok hc hk
                by_cases q1 : (m.parts[k] = 2 ∨ m.parts[k] = 3) ∨ m.word = 0
                · rw [if_pos q1] at c2
                  simp only [q1, not_true_eq_false, decide_false] at e2
                  simp [g295, fillL, upd, rdH_at hc.blk, one, hk, hc.parts.idx, hc.parts.sl.loadI, e2]
                  exact noA _ (by rw [if_pos q1]) c2 s2
                · rw [if_neg q1] at c2
                  simp only [q1, not_false_eq_true, decide_true] at e2
                  simp [g295, fillL, upd, rdH_at hc.blk, one, hk, hc.parts.idx, hc.parts.sl.loadI, e2]
                  exact yes _ _ (by rw [if_neg q1]) c2 s2
              · simp [g295, fillL, upd, rdH_at hc.blk, one, hk, hc.parts.idx, hc.parts.sl.loadI, k1, k2, k3, k4, k5]
                exact no (by simp [k4])
  · simp [g295, fillL, upd, rdH_at hc.blk, one, hp, -Bool.decide_and]
    exact no (by simp only [stepC]; rw [if_pos (.inl hp)])
end GL

namespace GL
open Go

/-- a commit of one's own, by value -/
structure CmO (h : Heap) (x y : V) (ps hs : List Int) (F1 F2 : List Nat) : Prop where
  parts : SdF h x ps F1
  heard : SdF h y hs F2
  nodup : (F1 ++ F2).Nodup
  own : ∀ b ∈ F1 ++ F2, OwnB h b
def KS (h h' : Heap) (F : List Nat) : Prop := KeepsP (fun b => b ∉ F) h h' ∧ h'.length = h.length
theorem KS.refl (h : Heap) (F : List Nat) : KS h h F := ⟨KeepsP.refl _ _, rfl⟩
theorem KS.trans {h h1 h2 : Heap} {F : List Nat} (a : KS h h1 F) (b : KS h1 h2 F) : KS h h2 F := ⟨a.1.trans b.1, by rw [b.2, a.2]⟩

section
variable {h : Heap} {x y : V} {ps hs : List Int} {F1 F2 : List Nat}
theorem CmO.setP (hc : CmO h x y ps hs F1 F2) {k : Nat} (hk : k < ps.length) (n : Int) : ∃ h', wrH h (bOf x) (oOf x + k) [vi n] = some h' ∧ CmO h' x y (ps.set k n) hs F1 F2 ∧ KS h h' (F1 ++ F2) := by
  obtain ⟨f1, f2, f3⟩ := hc.parts.flatF
  have hne : ps ≠ [] := by intro e; rw [e] at hk; simp at hk
  have hF := f3 hne
  have hb : bOf x ∈ F1 := by rw [hF]; simp
  obtain ⟨h', e, s', k', l', o'⟩ := hc.parts.putF (hc.own _ (List.mem_append_left _ hb)) hk (x' := n) (o := 0) (ys := [vi n]) (by simp [Flat.cells, lay])
  simp [Flat.sz] at e
  have hnd := List.nodup_append.1 hc.nodup
  exact ⟨h', e, ⟨s', hc.heard.keeps (k'.mono fun b hb2 e => hnd.2.2 _ hb b hb2 e.symm), hc.nodup, fun b hb => o' b (hc.own b hb)⟩, k'.mono fun b hb2 e => hb2 (by rw [e]; exact List.mem_append_left _ hb), l'⟩
theorem CmO.setH (hc : CmO h x y ps hs F1 F2) {k : Nat} (hk : k < hs.length) (n : Int) : ∃ h', wrH h (bOf y) (oOf y + k) [vi n] = some h' ∧ CmO h' x y ps (hs.set k n) F1 F2 ∧ KS h h' (F1 ++ F2) := by
  obtain ⟨f1, f2, f3⟩ := hc.heard.flatF
  have hne : hs ≠ [] := by intro e; rw [e] at hk; simp at hk
  have hF := f3 hne
  have hb : bOf y ∈ F2 := by rw [hF]; simp
  obtain ⟨h', e, s', k', l', o'⟩ := hc.heard.putF (hc.own _ (List.mem_append_right _ hb)) hk (x' := n) (o := 0) (ys := [vi n]) (by simp [Flat.cells, lay])
  simp [Flat.sz] at e
  have hnd := List.nodup_append.1 hc.nodup
  exact ⟨h', e, ⟨hc.parts.keeps (k'.mono fun b hb2 e => hnd.2.2 b hb2 _ hb e), s', hc.nodup, fun b hb => o' b (hc.own b hb)⟩, k'.mono fun b hb2 e => hb2 (by rw [e]; exact List.mem_append_right _ hb), l'⟩
end

set_option maxHeartbeats 4000000 in
set_option maxRecDepth 20000 in
theorem l16Step_ok {h : Heap} {x y : V} {m : Cm} {F1 F2 : List Nat} (hc : CmO h x y m.parts m.heard F1 F2) (hl : m.heard.length = m.parts.length) (hw : 0 ≤ m.word ∧ m.word ≤ 2) (t : Tk) :
    ∃ r h', call p 292 [.agg [x, y, vi m.word], tv t] h = some (r, h') ∧ r = .tup [.agg [x, y, vi ((stepC m t).getD m).word], .bool (stepC m t).isSome] ∧ CmO h' x y ((stepC m t).getD m).parts ((stepC m t).getD m).heard F1 F2 ∧ KS h h' (F1 ++ F2) := by
  refine go (fn := g292) rfl rfl fun R hR => ?_
  obtain ⟨tk, tp, to⟩ := t
  have no : stepC m ⟨tk, tp, to⟩ = none → R (.tup [.agg [x, y, vi m.word], .bool false]) h := fun e => hR _ _ ⟨by rw [e]; rfl, by rw [e]; exact hc, KS.refl _ _⟩
  have yes : ∀ m' h', stepC m ⟨tk, tp, to⟩ = some m' → CmO h' x y m'.parts m'.heard F1 F2 → KS h h' (F1 ++ F2) → R (.tup [.agg [x, y, vi m'.word], .bool true]) h' := fun m' h' e h1 h2 => hR _ _ ⟨by rw [e]; rfl, by rw [e]; exact h1, h2⟩
  clear hR
  have c1 := hc.parts.cells
  have c2 := hc.parts.cell
  have c3 := hc.heard.cells
  have c4 := hc.heard.cell
  have ln := hc.parts.len
  have hb := hc.parts.bd
  have wl : IntKind.i64.wrap ((m.parts.length : Int) - 1) = (m.parts.length : Int) - 1 := by rw [IntWalk.i64_in] <;> omega
  by_cases hp : 0 ≤ tp ∧ tp < m.parts.length
  · obtain ⟨k, rfl⟩ := Int.eq_ofNat_of_zero_le hp.1
    have hk : k < m.parts.length := by omega
    have hkh : k < m.heard.length := by omega
    have hgd : m.parts.getD k 0 = m.parts[k] := by simp [hk]
    have hp' : 0 ≤ (k : Int) ∧ (k : Int) ≤ (m.parts.length : Int) - 1 := by omega
    have ix := hc.parts.idx 1 .i64 k hk
    have iy := hc.heard.idx 1 .i64 k hkh
    have lx := hc.parts.sl.loadI k hk
    simp only [Nat.mul_one] at ix iy
    by_cases ho : 0 ≤ to ∧ to ≤ (m.parts.length : Int) - 1
    · by_cases hko : tk ≠ 5 ∧ to ≠ 0
      · simp [g292, fillL, upd, resV, c1, c2, c3, c4, ln, wl, hp', ho, hko.1, hko.2, -Bool.decide_and]
        exact no (by simp only [stepC]; rw [if_pos (.inr hko)])
      · have pre : ¬ (¬ (0 ≤ ((k : Nat) : Int) ∧ ((k : Nat) : Int) < m.parts.length) ∨ (tk ≠ 5 ∧ to ≠ 0)) := by
          rintro (h | h)
          · exact h hp
          · exact hko h
        simp only [stepC, pre, if_false, Int.toNat_natCast, hgd] at yes no
        by_cases k5 : tk = 5
        · subst k5
          simp only [show ¬ (5 : Int) = 1 by decide, show ¬ (5 : Int) = 2 by decide, show ¬ (5 : Int) = 3 by decide, show ¬ (5 : Int) = 4 by decide, if_false, if_true] at yes no
          obtain ⟨j, rfl⟩ := Int.eq_ofNat_of_zero_le ho.1
          have hj : j < m.parts.length := by omega
          have hj' : 0 ≤ (j : Int) ∧ (j : Int) < m.parts.length := by omega
          have hgj : m.parts.getD j 0 = m.parts[j] := by simp [hj]
          have jx := hc.parts.idx 1 .i64 j hj
          have jl := hc.parts.sl.loadI j hj
          simp only [Nat.mul_one] at jx
          simp only [Int.toNat_natCast, hgj, hj', and_self, true_and] at yes no
          by_cases q2 : (j : Int) = k
          · simp [g292, fillL, upd, resV, c1, c2, c3, c4, ln, wl, hp', ho, ix, lx, q2, -Bool.decide_and]
            exact no (by simp [q2])
          · by_cases q3 : m.parts[k] = 1
            · by_cases q4 : m.parts[j] = 2 ∨ m.parts[j] = 3
              · obtain ⟨h2, e2, d2, s2⟩ := hc.setP hk m.parts[j]
                simp [g292, fillL, upd, resV, c1, c2, c3, c4, ln, wl, hp', ho, ix, lx, jx, jl, q2, q3, l16Over_eq, q4, e2, -Bool.decide_and]
                exact yes ⟨m.parts.set k m.parts[j], m.heard, m.word⟩ _ (by rw [if_pos ⟨q2, q3, q4⟩]) d2 s2
              · simp [g292, fillL, upd, resV, c1, c2, c3, c4, ln, wl, hp', ho, ix, lx, jx, jl, q2, q3, l16Over_eq, q4, -Bool.decide_and]
                exact no (by simp [q4])
            · simp [g292, fillL, upd, resV, c1, c2, c3, c4, ln, wl, hp', ho, ix, lx, q2, q3, -Bool.decide_and]
              exact no (by simp [q3])
        · have to0 : to = 0 := Classical.byContradiction fun h => hko ⟨k5, h⟩
          subst to0
          have h0' : 1 ≤ (m.parts.length : Int) := by omega
          simp only [k5, if_false] at yes no
          by_cases k1 : tk = 1
          · subst k1
            simp only [if_true] at yes no
            by_cases q1 : m.parts[k] = 0
            · by_cases q2 : m.word = 0
              · obtain ⟨h2, e2, d2, s2⟩ := hc.setP hk 1
                obtain ⟨h3, e3, d3, s3⟩ := d2.setH (k := k) hkh 1
                have yes' := yes ⟨m.parts.set k 1, m.heard.set k 1, m.word⟩ _ (by rw [if_pos ⟨q1, q2⟩]) d3 (s2.trans s3)
                simp only [q2] at yes'
                simp [g292, fillL, upd, resV, c1, c2, c3, c4, ln, wl, hp', h0', ix, lx, iy, q1, q2, e2, e3, -Bool.decide_and]
                exact yes'
              · simp [g292, fillL, upd, resV, c1, c2, c3, c4, ln, wl, hp', h0', ix, lx, q1, q2, -Bool.decide_and]
                exact no (by simp [q2])
            · simp [g292, fillL, upd, resV, c1, c2, c3, c4, ln, wl, hp', h0', ix, lx, q1, -Bool.decide_and]
              exact no (by simp [q1])
          · simp only [k1, if_false] at yes no
            by_cases k2 : tk = 2
            · subst k2
              simp only [if_true] at yes no
              by_cases q1 : m.parts[k] = 0
              · by_cases q2 : m.word = 1
                · have no' := no (by simp [q2])
                  simp only [q2] at no'
                  simp [g292, fillL, upd, resV, c1, c2, c3, c4, ln, wl, hp', h0', ix, lx, q1, q2, -Bool.decide_and]
                  exact no'
                · obtain ⟨h2, e2, d2, s2⟩ := hc.setP hk 3
                  obtain ⟨h3, e3, d3, s3⟩ := d2.setH (k := k) hkh 2
                  simp [g292, fillL, upd, resV, c1, c2, c3, c4, ln, wl, hp', h0', ix, lx, iy, q1, q2, e2, e3, -Bool.decide_and]
                  exact yes ⟨m.parts.set k 3, m.heard.set k 2, m.word⟩ _ (by rw [if_pos ⟨q1, q2⟩]) d3 (s2.trans s3)
              · simp [g292, fillL, upd, resV, c1, c2, c3, c4, ln, wl, hp', h0', ix, lx, q1, -Bool.decide_and]
                exact no (by simp [q1])
            · simp only [k2, if_false] at yes no
              by_cases k3 : tk = 3
              · subst k3
                simp only [if_true] at yes no
                by_cases q1 : (k : Int) = 0
                · by_cases q2 : m.word = 0
                  · have yes' := yes ⟨m.parts, m.heard, if m.heard.any (fun n => decide (n ≠ 1)) = true then 2 else 1⟩ h (by rw [if_pos ⟨q1, q2⟩]) hc (KS.refl _ _)
                    have ew := l16Word_eq hc.heard.sl
                    generalize (if (m.heard.any fun n => decide (n ≠ 1)) = true then (2 : Int) else 1) = w' at yes' ew
                    have k0 : k = 0 := by omega
                    subst k0
                    simp at ix lx
                    simp [g292, fillL, upd, resV, c1, c2, c3, c4, ln, wl, h0', ix, lx, q2, ew, -Bool.decide_and]
                    exact yes'
                  · have k0 : k = 0 := by omega
                    subst k0
                    simp at ix lx
                    simp [g292, fillL, upd, resV, c1, c2, c3, c4, ln, wl, h0', ix, lx, q2, -Bool.decide_and]
                    exact no (by simp [q2])
                · have q1' : ¬ k = 0 := by omega
                  simp [g292, fillL, upd, resV, c1, c2, c3, c4, ln, wl, hp', h0', ix, lx, q1', -Bool.decide_and]
                  exact no (by simp [q1'])
              · simp only [k3, if_false] at yes no
                by_cases k4 : tk = 4
                · subst k4
                  simp only [if_true] at yes no
                  by_cases q1 : m.parts[k] = 2 ∨ m.parts[k] = 3
                  · simp [g292, fillL, upd, resV, c1, c2, c3, c4, ln, wl, hp', h0', ix, lx, l16Over_eq, q1, -Bool.decide_and]
                    exact no (by simp [q1])
                  · have hw3 : m.word = 0 ∨ m.word = 1 ∨ m.word = 2 := by omega
                    rcases hw3 with q2 | q2 | q2
                    · have no' := no (by simp [q2])
                      simp only [q2] at no'
                      simp [g292, fillL, upd, resV, c1, c2, c3, c4, ln, wl, hp', h0', ix, lx, l16Over_eq, q1, q2, -Bool.decide_and]
                      exact no'
                    · obtain ⟨h2, e2, d2, s2⟩ := hc.setP hk 2
                      have yes' := yes ⟨m.parts.set k 2, m.heard, m.word⟩ _ (by rw [if_neg (by simp [q1, q2])]; simp [q2]) d2 s2
                      simp only [q2] at yes'
                      simp [g292, fillL, upd, resV, c1, c2, c3, c4, ln, wl, hp', h0', ix, lx, l16Over_eq, q1, q2, e2, -Bool.decide_and]
                      exact yes'
                    · obtain ⟨h2, e2, d2, s2⟩ := hc.setP hk 3
                      have yes' := yes ⟨m.parts.set k 3, m.heard, m.word⟩ _ (by rw [if_neg (by simp [q1, q2])]; simp [q2]) d2 s2
                      simp only [q2] at yes'
                      simp [g292, fillL, upd, resV, c1, c2, c3, c4, ln, wl, hp', h0', ix, lx, l16Over_eq, q1, q2, e2, -Bool.decide_and]
                      exact yes'
                · simp [g292, fillL, upd, resV, c1, c2, c3, c4, ln, wl, hp', h0', ix, lx, k1, k2, k3, k4, k5, -Bool.decide_and]
                  exact no (by simp [k4])
    · simp [g292, fillL, upd, resV, c1, c2, c3, c4, ln, wl, hp', ho, -Bool.decide_and]
      refine no ?_
      simp only [stepC]
      by_cases k5 : tk = 5
      · subst k5
        have : ¬ (0 ≤ to ∧ to < m.parts.length) := by omega
        simp [this]
      · have : to ≠ 0 := by omega
        simp [k5, this]
  · have hp' : ¬ (0 ≤ tp ∧ tp ≤ (m.parts.length : Int) - 1) := by omega
    simp [g292, fillL, upd, resV, c1, c2, c3, c4, ln, wl, hp', -Bool.decide_and]
    exact no (by simp only [stepC]; rw [if_pos (.inl hp)])
end GL

namespace GL
open Go

section
variable {h : Heap} {v w : V} {c d : Cm} {F G : List Nat}
theorem CmV.keeps {h' : Heap} (hc : CmV h v c F) (hk : KeepsP (fun b => b ∈ F) h h') : CmV h' v c F := by
  obtain ⟨x, y, F1, F2, rfl, rfl, hp, hh⟩ := hc
  exact ⟨x, y, F1, F2, rfl, rfl, hp.keeps (hk.mono fun b hb => List.mem_append_left _ hb), hh.keeps (hk.mono fun b hb => List.mem_append_right _ hb)⟩
theorem CmV.keep {h' : Heap} (hc : CmV h v c F) (hk : Keeps h h') : CmV h' v c F := hc.keeps (hk.p _)
theorem CmV.lt (hc : CmV h v c F) {b : Nat} (hb : b ∈ F) : b < h.length := by
  obtain ⟨x, y, F1, F2, rfl, rfl, hp, hh⟩ := hc
  rcases List.mem_append.1 hb with hb | hb
  · obtain ⟨blk, h1, _⟩ := hp.lt hb; exact get_lt h1
  · obtain ⟨blk, h1, _⟩ := hh.lt hb; exact get_lt h1

end

def zC : Cm := ⟨[], [], 0⟩
theorem zC_v (h : Heap) : CmV h (.agg [.nils, .nils, vi 0]) zC [] := ⟨.nils, .nils, [], [], rfl, rfl, SdF.nil, SdF.nil⟩

theorem goodC_len {c : Cm} (hg : goodC c = true) : (1 ≤ c.parts.length ∧ c.parts.length ≤ 5) ∧ c.heard.length = c.parts.length ∧ (0 ≤ c.word ∧ c.word ≤ 2) := by
  simp only [goodC, decide_eq_true_eq] at hg
  exact ⟨hg.1, hg.2.1, hg.2.2.1⟩

theorem wrH_last {h : Heap} {zs cs : List V} (hl : cs.length = zs.length) : wrH (h ++ [⟨.own, zs⟩]) h.length 0 cs = some (h ++ [⟨.own, cs⟩]) := by
  simp only [wrH, get_last, if_true]
  simp [lay, hl]

theorem stepC_len {c m : Cm} {t : Tk} (h : stepC c t = some m) : m.parts.length = c.parts.length ∧ m.heard.length = c.heard.length := by
  unfold stepC at h
  repeat' split at h
  all_goals (first | (cases h; done) | (injection h with h; subst h; simp))

end GL

namespace GL
open Go
instance : Flat Tk := ⟨3, fun t => [vi t.kind, vi t.part, vi t.other], fun _ => rfl, fun _ => rfl, by decide⟩
theorem Sl.loadK {h : Heap} {v : V} {xs : List Tk} (hs : Sl h v xs) (i : Nat) (hi : i < xs.length) : rdH h (bOf v) (oOf v + i * 3) 3 = some [vi xs[i].kind, vi xs[i].part, vi xs[i].other] := hs.load i hi
end GL

namespace GL
open Go

theorem flats_rep (n : Nat) : flats (List.replicate n (0 : Int)) = List.replicate n (vi 0) := by
  induction n with
  | zero => rfl
  | succ n ih => simp [List.replicate_succ, flats, Flat.cells] at ih ⊢; exact ih
theorem sdF_newK {α : Type} [Flat α] {h : Heap} {b : Nat} {xs : List α} {n : Nat} {cs : List V} (hb : h[b]? = some ⟨.own, cs⟩) (hcs : cs = flats xs) (hn : n = xs.length) (hl : xs.length < 2 ^ 63) : SdF h (.slice b 0 n (.k n)) xs [b] := by
  subst hcs; subst hn
  refine ⟨hl, .inr ⟨b, 0, _, rfl, Nat.le_refl _, .inr ⟨_, _, [], rfl, hb, by simp, ?_, Reps.flat.2 ⟨rfl, rfl⟩⟩⟩⟩
  show cut (flats xs) 0 (xs.length * Flat.sz α) = _
  simp only [cut, flats_len, Nat.zero_add, List.drop_zero]
  rw [if_pos (Nat.le_refl _), List.take_of_length_le (by rw [flats_len]; exact Nat.le_refl _)]

def newC (n : Nat) : Cm := ⟨List.replicate n 0, List.replicate n 0, 0⟩
def newR (n : Int) : Cm := if 1 ≤ n ∧ n ≤ 5 then newC n.toNat else zC

theorem newC_v {h : Heap} {n : Nat} (hn : n ≤ 5) : CmV (h ++ [⟨.own, List.replicate n (vi 0)⟩, ⟨.own, List.replicate n (vi 0)⟩]) (.agg [.slice h.length 0 n (.k n), .slice (h.length + 1) 0 n (.k n), vi 0]) (newC n) [h.length, h.length + 1] ∧
    Fresh h.length (h ++ [⟨.own, List.replicate n (vi 0)⟩, ⟨.own, List.replicate n (vi 0)⟩]) [h.length, h.length + 1] := by
  refine ⟨⟨_, _, [h.length], [h.length + 1], rfl, rfl, sdF_newK (cs := List.replicate n (vi 0)) (by simp) (flats_rep n).symm (by simp [newC]) (by simp [newC]; omega), sdF_newK (cs := List.replicate n (vi 0)) (by simp) (flats_rep n).symm (by simp [newC]) (by simp [newC]; omega)⟩, by simp, by simp, fun b hb => ?_⟩
  simp at hb
  rcases hb with rfl | rfl
  · exact ⟨List.replicate n (vi 0), by simp⟩
  · exact ⟨List.replicate n (vi 0), by simp⟩

theorem NewCommitI_ok (n : Int) (h : Heap) : ∃ r h', call p 197 [vi n] h = some (r, h') ∧ ∃ w G, r = .tup [w, .bool (decide (1 ≤ n ∧ n ≤ 5))] ∧ CmV h' w (newR n) G ∧ Fresh h.length h' G ∧ Keeps h h' ∧ h.length ≤ h'.length := by
  refine go (fn := g197) rfl rfl fun R hR => ?_
  by_cases h1 : 1 ≤ n ∧ n ≤ 5
  · obtain ⟨k, rfl⟩ := Int.eq_ofNat_of_zero_le (show 0 ≤ n by omega)
    have hk : k ≤ 5 := by omega
    have c2 : (k : Int) * 8 ≤ (room : Int) := by unfold room; omega
    have c3 : k ≤ room := by unfold room; omega
    have c4 : (k : Int) ≤ (room : Int) := by omega
    have iD0 : isDead [deadBlk, deadBlk] 0 = true := rfl
    have iD1 : isDead [⟨.own, List.replicate k (vi 0)⟩, deadBlk] 1 = true := rfl
    have a0 := isDeadA h [deadBlk, deadBlk] 0
    have s0 := setA h [deadBlk, deadBlk] 0 ⟨.own, List.replicate k (vi 0)⟩
    have a1 := isDeadA h [⟨.own, List.replicate k (vi 0)⟩, deadBlk] 1
    have s1 := setA h [⟨.own, List.replicate k (vi 0)⟩, deadBlk] 1 ⟨.own, List.replicate k (vi 0)⟩
    simp only [Nat.add_zero, List.set_cons_zero, List.set_cons_succ] at a0 s0 a1 s1
    obtain ⟨q1, q2⟩ := newC_v (h := h) hk
    simp [g197, fillL, upd, resV, mkV, begin_two, xop_m, a0, s0, a1, s1, iD0, iD1, h1, c2, c3, c4, -Bool.decide_and]
    exact hR _ _ ⟨_, _, by rw [decide_eq_true h1], by simpa [newR, h1] using q1, q2, Keeps.append h _, by simp⟩
  · simp [g197, fillL, upd, resV, mkV, h1, -Bool.decide_and]
    refine hR _ _ ⟨.agg [.nils, .nils, vi 0], [], by simp [h1, -Bool.decide_and], by simpa [newR, h1] using zC_v h, Fresh.nil, Keeps.refl _, Nat.le_refl _⟩
theorem NewCommitS_ok (n : Int) (h : Heap) : ∃ r h', call p 198 [vi n] h = some (r, h') ∧ ∃ w G, r = .tup [w, .bool (decide (1 ≤ n ∧ n ≤ 5))] ∧ CmV h' w (newR n) G ∧ Fresh h.length h' G ∧ Keeps h h' ∧ h.length ≤ h'.length := by
  refine go (fn := g198) rfl rfl fun R hR => ?_
  by_cases h1 : 1 ≤ n ∧ n ≤ 5
  · obtain ⟨k, rfl⟩ := Int.eq_ofNat_of_zero_le (show 0 ≤ n by omega)
    have hk : k ≤ 5 := by omega
    have c2 : (k : Int) * 8 ≤ (room : Int) := by unfold room; omega
    have c3 : k ≤ room := by unfold room; omega
    have c4 : (k : Int) ≤ (room : Int) := by omega
    have iD0 : isDead [deadBlk, deadBlk] 0 = true := rfl
    have iD1 : isDead [⟨.own, List.replicate k (vi 0)⟩, deadBlk] 1 = true := rfl
    have a0 := isDeadA h [deadBlk, deadBlk] 0
    have s0 := setA h [deadBlk, deadBlk] 0 ⟨.own, List.replicate k (vi 0)⟩
    have a1 := isDeadA h [⟨.own, List.replicate k (vi 0)⟩, deadBlk] 1
    have s1 := setA h [⟨.own, List.replicate k (vi 0)⟩, deadBlk] 1 ⟨.own, List.replicate k (vi 0)⟩
    simp only [Nat.add_zero, List.set_cons_zero, List.set_cons_succ] at a0 s0 a1 s1
    obtain ⟨q1, q2⟩ := newC_v (h := h) hk
    simp [g198, fillL, upd, resV, mkV, begin_two, xop_m, a0, s0, a1, s1, iD0, iD1, h1, c2, c3, c4, -Bool.decide_and]
    exact hR _ _ ⟨_, _, by rw [decide_eq_true h1], by simpa [newR, h1] using q1, q2, Keeps.append h _, by simp⟩
  · simp [g198, fillL, upd, resV, mkV, h1, -Bool.decide_and]
    refine hR _ _ ⟨.agg [.nils, .nils, vi 0], [], by simp [h1, -Bool.decide_and], by simpa [newR, h1] using zC_v h, Fresh.nil, Keeps.refl _, Nat.le_refl _⟩

/-- steps one by one -/
def playC (c : Cm) (l : List Tk) : Cm := l.foldl (fun c t => (stepC c t).getD c) c
def didC (c : Cm) : List Tk → List Bool
  | [] => []
  | t :: l => (stepC c t).isSome :: didC ((stepC c t).getD c) l
theorem playC_snoc (c : Cm) (l : List Tk) (t : Tk) : playC c (l ++ [t]) = (stepC (playC c l) t).getD (playC c l) := by simp [playC]
theorem didC_snoc (c : Cm) (l : List Tk) (t : Tk) : didC c (l ++ [t]) = didC c l ++ [(stepC (playC c l) t).isSome] := by
  induction l generalizing c with
  | nil => simp [didC, playC]
  | cons x l ih => simp [didC, playC, ih]
theorem didC_len (c : Cm) (l : List Tk) : (didC c l).length = l.length := by
  induction l generalizing c with
  | nil => rfl
  | cons x l ih => simp [didC, ih]

/-- a commit of n parts -/
def dimC (n : Nat) (c : Cm) : Prop := c.parts.length = n ∧ c.heard.length = n ∧ 0 ≤ c.word ∧ c.word ≤ 2
theorem stepC_dim {n : Nat} {c : Cm} (hd : dimC n c) (t : Tk) : dimC n ((stepC c t).getD c) := by
  cases hs : stepC c t with
  | none => exact hd
  | some m =>
    obtain ⟨l1, l2⟩ := stepC_len hs
    simp only [Option.getD_some]
    refine ⟨by rw [l1]; exact hd.1, by rw [l2]; exact hd.2.1, ?_⟩
    have hw := hd.2.2
    unfold stepC at hs
    repeat' split at hs
    all_goals (first | (cases hs; done) | (injection hs with hs; subst hs; simp only; first | omega | (split <;> omega)))
theorem playC_dim {n : Nat} {c : Cm} (hd : dimC n c) (l : List Tk) : dimC n (playC c l) := by
  induction l generalizing c with
  | nil => exact hd
  | cons t l ih => exact ih (stepC_dim hd t)
theorem newC_dim (n : Nat) : dimC n (newC n) := ⟨by simp [newC], by simp [newC], by simp [newC], by simp [newC]⟩
end GL

namespace GL
open Go

theorem DC.talks {h0 h : Heap} {N : Nat} (d : DC h0 h N) (hN : N < 2 ^ 58) : ∃ v h', call p 300 [.ptr h0.length 0] h = some (v, h') ∧ ∃ (xs : List Tk), Out h.length h' v xs ∧ xs.length ≤ 60 ∧ DC h0 h' (N + 2000) ∧ KeepsBut h0.length h h' ∧ h.length ≤ h'.length := by
  obtain ⟨n, h1, e1, hn, d1, k1, l1⟩ := d.pick (by omega) 16 (by decide)
  obtain ⟨b, h2, e2, d2, k2, l2⟩ := d1.one (by omega) 20 (by decide)
  obtain ⟨m, h3, e3, hm, d3, k3, l3⟩ := d2.pick (by omega) 2 (by decide)
  have hlt := d.lt
  refine go (fn := g300) rfl rfl fun R hR => ?_
  have w : IntKind.i64.wrap (40 + (m : Int)) = (40 + m : Nat) := by rw [IntWalk.i64_in] <;> omega
  have loop : ∀ (k : Nat) (s0 : S) (K : Ex → S → Prop), k ≤ 50 → s0.σ 4 = .v (vi k) → s0.σ 3 = .v .nils → s0.σ 0 = .v (.ptr h0.length 0) → DC h0 s0.h (N + 6) → KeepsBut h0.length h s0.h → h.length ≤ s0.h.length →
      (∀ s' (xs : List Tk) v, s'.σ 0 = .v (.ptr h0.length 0) → s'.σ 3 = .v v → Out h.length s'.h v xs → xs.length ≤ 50 → DC h0 s'.h (N + 1900) → KeepsBut h0.length h s'.h → h.length ≤ s'.h.length → K (.exit 0) s') → Wc p (.loop g300_0) s0 K := by
    intro k s0 K hk g4 g3 g0 d kb hl hK
    refine Wc_dnM (M := [3, 4, 5, 13, 14, 15, 16, 17, 18, 19, 20, 21, 22, 23, 24, 25, 26, 27, 28, 29, 30, 31, 32, 33, 34, 35, 36, 37, 38, 39, 40, 41, 42, 43, 44, 45, 46]) rfl (fun k s => ∃ (xs : List Tk) (v : V), xs.length + k ≤ 50 ∧ s.σ 4 = .v (vi k) ∧ s.σ 3 = .v v ∧ Out h.length s.h v xs ∧ DC h0 s.h (N + 6 + xs.length * 20) ∧ KeepsBut h0.length h s.h ∧ h.length ≤ s.h.length) k
      ⟨[], .nils, by simpa using hk, g4, g3, Out.nil hl, by simpa using d, kb, hl⟩ fun k s ⟨xs, v, hx, g4, g3, ho, d, kb, hl⟩ hM J hJ => ?_
    by_cases hk0 : 0 < k
    · have w2 : IntKind.i64.wrap ((k : Int) - 1) = (k - 1 : Nat) := by rw [IntWalk.i64_in] <;> omega
      obtain ⟨kd, h4, e4, hkd, d4, k4, l4⟩ := d.amongL (by omega) [1, 1, 1, 1, 2, 3, 4, 4, 5] 9 rfl [vi 1, vi 1, vi 1, vi 1, vi 2, vi 3, vi 4, vi 4, vi 5] rfl (.k 9) (by decide) (by decide)
      obtain ⟨pt, h5, e5, hpt, d5, k5, l5⟩ := d4.pick (by omega) 4 (by decide)
      have kb5 := (kb.trans k4).trans k5
      have o5 := (k4.trans k5).out ho (by omega) (by omega)
      have fin : ∀ (t : Tk) (h6 : Heap), DC h0 h6 (N + 6 + xs.length * 20 + 20) → KeepsBut h0.length h h6 → Out h.length h6 v xs → h.length ≤ h6.length →
          ∃ v' h7, appH 3 24 v 1 [vi t.kind, vi t.part, vi t.other] (h6 ++ [⟨.own, [vi t.kind, vi t.part, vi t.other]⟩]) = some (v', h7) ∧ Out h.length h7 v' (xs ++ [t]) ∧ DC h0 h7 (N + 6 + xs.length * 20 + 20) ∧ KeepsBut h0.length h h7 ∧ h.length ≤ h7.length := fun t h6 d6 kb6 o6 l6 => by
        obtain ⟨v', h7, e7, o7, d7, k7, l7⟩ := Out.draw (k := 3) (bytes := 24) d6 kb6 o6 (Nat.le_refl _) hlt t (by omega) rfl (by decide) rfl
        exact ⟨v', h7, e7, o7, d7, k7, by omega⟩
      have done : ∀ s', (∃ (t : Tk) (v' : V), s'.σ 4 = .v (vi (k - 1 : Nat)) ∧ s'.σ 3 = .v v' ∧ Out h.length s'.h v' (xs ++ [t]) ∧ DC h0 s'.h (N + 6 + xs.length * 20 + 20) ∧ KeepsBut h0.length h s'.h ∧ h.length ≤ s'.h.length) → J s' := fun s' ⟨t, v', a, b, c, e, f, g⟩ =>
        hJ (k - 1) _ (by omega) ⟨xs ++ [t], v', by simp; omega, a, b, c, e.mono (by simp; omega), f, g⟩
      -- what the last question changes
      have last : ∀ (h6 : Heap) (d6 : DC h0 h6 (N + 6 + xs.length * 20 + 6)), KeepsBut h0.length h h6 → Out h.length h6 v xs → h.length ≤ h6.length →
          ∃ (b7 : Bool) (h7 : Heap) (a1 : Nat) (h8 : Heap) (a2 : Nat) (h9 : Heap) (a3 : Nat) (h10 : Heap), call p 92 [.ptr h0.length 0, vi 40] h6 = some (.bool b7, h7) ∧ call p 91 [.ptr h0.length 0, vi 7] h7 = some (vi a1, h8) ∧ call p 91 [.ptr h0.length 0, vi 7] h8 = some (vi a2, h9) ∧ call p 91 [.ptr h0.length 0, vi 3] h9 = some (vi a3, h10) ∧
            DC h0 h7 (N + 6 + xs.length * 20 + 20) ∧ KeepsBut h0.length h h7 ∧ Out h.length h7 v xs ∧ h.length ≤ h7.length ∧ DC h0 h10 (N + 6 + xs.length * 20 + 20) ∧ KeepsBut h0.length h h10 ∧ Out h.length h10 v xs ∧ h.length ≤ h10.length := fun h6 d6 kb6 o6 l6 => by
        obtain ⟨b7, h7, e7, d7, k7, l7⟩ := d6.one (by omega) 40 (by decide)
        obtain ⟨a1, h8, e8, _, d8, k8, l8⟩ := d7.pick (by omega) 7 (by decide)
        obtain ⟨a2, h9, e9, _, d9, k9, l9⟩ := d8.pick (by omega) 7 (by decide)
        obtain ⟨a3, h10, e10, _, d10, k10, l10⟩ := d9.pick (by omega) 3 (by decide)
        exact ⟨b7, h7, a1, h8, a2, h9, a3, h10, e7, e8, e9, e10, d7.mono (by omega), kb6.trans k7, k7.out o6 (by omega) (by omega), by omega, d10.mono (by omega), (((kb6.trans k7).trans k8).trans k9).trans k10, (((k7.trans k8).trans k9).trans k10).out o6 (by omega) (by omega), by omega⟩
      by_cases q3 : kd = 3
      · subst q3
        obtain ⟨b7, h7, a1, h8, a2, h9, a3, h10, e7, e8, e9, e10, d7, kb7, o7, l7, d10, kb10, o10, l10⟩ := last h5 (d5.mono (by omega)) kb5 o5 (by omega)
        cases b7
        · obtain ⟨v', h11, e11, o11, d11, kb11, l11⟩ := fin ⟨3, 0, 0⟩ h7 d7 kb7 o7 l7
          simp at e11
          simp [g300_0, hM, g0, g4, g3, hk0, e4, e5, w2, rdS_last, upd, fillL, e7, e11]
          exact done _ ⟨⟨3, 0, 0⟩, v', by simp, by simp, o11, d11, kb11, l11⟩
        · obtain ⟨v', h11, e11, o11, d11, kb11, l11⟩ := fin ⟨a1, IntKind.i64.wrap ((a2 : Int) - 1), a3⟩ h10 d10 kb10 o10 l10
          simp at e11
          simp [g300_0, hM, g0, g4, g3, hk0, e4, e5, w2, rdS_last, upd, fillL, e7, e8, e9, e10, e11]
          exact done _ ⟨_, v', by simp, by simp, o11, d11, kb11, l11⟩
      · by_cases q5 : kd = 5
        · subst q5
          obtain ⟨ot, h6, e6, _, d6, k6, l6⟩ := d5.pick (by omega) 4 (by decide)
          obtain ⟨b7, h7, a1, h8, a2, h9, a3, h10, e7, e8, e9, e10, d7, kb7, o7, l7, d10, kb10, o10, l10⟩ := last h6 (d6.mono (by omega)) (kb5.trans k6) (k6.out o5 (by omega) (by omega)) (by omega)
          cases b7
          · obtain ⟨v', h11, e11, o11, d11, kb11, l11⟩ := fin ⟨5, pt, ot⟩ h7 d7 kb7 o7 l7
            simp at e11
            simp [g300_0, hM, g0, g4, g3, hk0, e4, e5, e6, w2, rdS_last, upd, fillL, e7, e11]
            exact done _ ⟨⟨5, pt, ot⟩, v', by simp, by simp, o11, d11, kb11, l11⟩
          · obtain ⟨v', h11, e11, o11, d11, kb11, l11⟩ := fin ⟨a1, IntKind.i64.wrap ((a2 : Int) - 1), a3⟩ h10 d10 kb10 o10 l10
            simp at e11
            simp [g300_0, hM, g0, g4, g3, hk0, e4, e5, e6, w2, rdS_last, upd, fillL, e7, e8, e9, e10, e11]
            exact done _ ⟨_, v', by simp, by simp, o11, d11, kb11, l11⟩
        · obtain ⟨b7, h7, a1, h8, a2, h9, a3, h10, e7, e8, e9, e10, d7, kb7, o7, l7, d10, kb10, o10, l10⟩ := last h5 (d5.mono (by omega)) kb5 o5 (by omega)
          cases b7
          · obtain ⟨v', h11, e11, o11, d11, kb11, l11⟩ := fin ⟨kd, pt, 0⟩ h7 d7 kb7 o7 l7
            simp at e11
            simp [g300_0, hM, g0, g4, g3, hk0, e4, e5, w2, rdS_last, upd, fillL, q3, q5, e7, e11]
            exact done _ ⟨⟨kd, pt, 0⟩, v', by simp, by simp, o11, d11, kb11, l11⟩
          · obtain ⟨v', h11, e11, o11, d11, kb11, l11⟩ := fin ⟨a1, IntKind.i64.wrap ((a2 : Int) - 1), a3⟩ h10 d10 kb10 o10 l10
            simp at e11
            simp [g300_0, hM, g0, g4, g3, hk0, e4, e5, w2, rdS_last, upd, fillL, q3, q5, e7, e8, e9, e10, e11]
            exact done _ ⟨_, v', by simp, by simp, o11, d11, kb11, l11⟩
    · have : k = 0 := by omega
      subst this
      simp [g300_0, hM, g4]
      exact hK _ xs v (by simp [hM, g0]) (by simp [g3]) ho (by omega) (d.mono (by omega)) kb hl
  cases b
  · simp [g300, e1, e2]
    refine loop n _ _ (by omega) (by simp) (by simp) (by simp) (d2.mono (by omega)) (k1.trans k2) (by simp; omega) fun s' xs v g0 g3 ho hx d kb hl => ?_
    simp [g3]
    exact hR _ _ ⟨xs, ho, by omega, d.mono (by omega), kb, hl⟩
  · simp [g300, e1, e2, e3, w]
    refine loop (40 + m) _ _ (by omega) (by simp) (by simp) (by simp) (d3.mono (by omega)) ((k1.trans k2).trans k3) (by simp; omega) fun s' xs v g0 g3 ho hx d kb hl => ?_
    simp [g3]
    exact hR _ _ ⟨xs, ho, by omega, d.mono (by omega), kb, hl⟩
end GL

namespace GL
open Go

theorem CmV.cells {h : Heap} {v : V} {c : Cm} {F : List Nat} (hc : CmV h v c F) : ∃ x y, v = .agg [x, y, vi c.word] ∧ x.cells = [x] ∧ x.cell = true ∧ y.cells = [y] ∧ y.cell = true := by
  obtain ⟨x, y, F1, F2, rfl, rfl, hp, hh⟩ := hc
  exact ⟨x, y, rfl, hp.cells, hp.cell, hh.cells, hh.cell⟩

def playR (n : Int) (l : List Tk) : Cm := if (1 ≤ n ∧ n ≤ 5) ∧ l.length ≤ 40 then playC (newC n.toNat) l else zC
def playD (n : Int) (l : List Tk) : List Bool := if (1 ≤ n ∧ n ≤ 5) ∧ l.length ≤ 40 then didC (newC n.toNat) l else []

theorem Out.oneT {lo : Nat} {h : Heap} {v : V} {xs : List Bool} (ho : Out lo h v xs) (x : Bool) (hx : xs.length ≤ 2 ^ 20) :
    ∃ v' h', appH 1 1 v 1 [.bool x] (h ++ [⟨.own, [.bool x]⟩]) = some (v', h') ∧ Out lo h' v' (xs ++ [x]) ∧ KeepsP (fun i => ¬ vB v i) h h' ∧ h.length < h'.length ∧ (∀ i, vB v' i → h.length < i) := by
  have o3 : Out lo (h ++ [⟨.own, [.bool x]⟩]) v xs := (Keeps.append h _).out ho (by simp)
  obtain ⟨v', h', e4, o4, k4, l4, b4⟩ := o3.app [x] (by simp) (bytes := 1) (by decide) (by simp; omega) (k := 1) rfl (n := 1) rfl (ys := [.bool x]) rfl
  exact ⟨v', h', e4, o4, fun i blk hi h1 h2 => k4 i blk hi (Keeps.append h _ i blk h1 h2) h2, by simp at l4; omega, fun i hi => by have := b4 i hi; simp at this; omega⟩

theorem PlayS_ok {h : Heap} {v : V} {l : List Tk} (n : Int) (hs : Sl h v l) : ∃ r h', call p 202 [vi n, v] h = some (r, h') ∧ ∃ w d G, r = .tup [w, d, .bool (decide ((1 ≤ n ∧ n ≤ 5) ∧ l.length ≤ 40))] ∧ CmV h' w (playR n l) G ∧ Fresh h.length h' G ∧ Sl h' d (playD n l) ∧ Keeps h h' ∧ h.length ≤ h'.length := by
  obtain ⟨_, h1, e1, w0, G0, rfl, c0, f0, k0, l0⟩ := NewCommitS_ok n h
  have c0' := c0
  obtain ⟨x0, y0, rfl, p1, p2, p3, p4⟩ := c0'.cells
  refine go (fn := g202) rfl rfl fun R hR => ?_
  have bad : ¬ ((1 ≤ n ∧ n ≤ 5) ∧ l.length ≤ 40) → R (.tup [.agg [.nils, .nils, vi 0], .nils, .bool false]) h1 := fun hb =>
    hR _ _ ⟨.agg [.nils, .nils, vi 0], .nils, [], by rw [decide_eq_false hb], by simpa [playR, hb] using zC_v h1, Fresh.nil, by simpa [playD, hb] using Sl.nil, k0, l0⟩
  by_cases hn : 1 ≤ n ∧ n ≤ 5
  · by_cases hl : l.length ≤ 40
    · have hl' : ¬ (40 : Int) < l.length := by omega
      obtain ⟨k, rfl⟩ := Int.eq_ofNat_of_zero_le (show 0 ≤ n by omega)
      have hR' : ∀ w d G h', CmV h' w (playC (newC k) l) G → Fresh h.length h' G → Sl h' d (didC (newC k) l) → Keeps h h' → h.length ≤ h'.length → R (.tup [w, d, .bool true]) h' := fun w d G h' a b c e f =>
        hR _ _ ⟨w, d, G, by rw [decide_eq_true ⟨hn, hl⟩], by simpa [playR, hn, hl] using a, b, by simpa [playD, hn, hl] using c, e, f⟩
      have c1 : CmV h1 (.agg [x0, y0, vi (newR k).word]) (newC k) G0 := by simpa [newR, hn] using c0
      simp [g202, fillL, upd, resV, mkV, e1, hn, hl', hs.len, p1, p2, p3, p4, -Bool.decide_and]
      refine Wc_upM (M := [9, 11, 12, 13, 29, 30, 31, 32, 33, 34, 35, 36, 37, 38, 39, 40, 41, 42, 43, 44, 45, 46]) rfl l.length (fun i s => i ≤ l.length ∧ s.σ 29 = .v (vi i) ∧ ∃ (x y d : V) (w : Int) (G : List Nat), s.L 7 = (1, [x, y, vi w]) ∧ s.L 4 = (1, [.nils, .nils, vi 0]) ∧ w = (playC (newC k) (l.take i)).word ∧ CmV s.h (.agg [x, y, vi w]) (playC (newC k) (l.take i)) G ∧ s.σ 9 = .v d ∧ Out h.length s.h d (didC (newC k) (l.take i)) ∧ (∀ b ∈ G, h.length ≤ b ∧ ¬ vB d b) ∧ Keeps h s.h ∧ h.length ≤ s.h.length) 0
        ⟨by omega, by simp, x0, y0, .nils, _, G0, by simp [upd]; rfl, by simp [upd], by simp [newR, hn, playC], by simpa [playC] using c1, by simp, by simpa [didC] using Out.nil l0, fun b hb => ⟨f0.ge b hb, fun ⟨_, _, _, e⟩ => by cases e⟩, k0, l0⟩ fun i s ⟨gi, g29, x, y, d, w, G, gL, gL4, hw, hc, g9, ho, hG, hk, hlen⟩ hM J hJ => ?_
      have hdim : dimC k (playC (newC k) (l.take i)) := playC_dim (newC_dim k) _
      have hk1 : 1 ≤ k ∧ k ≤ 5 := by omega
      obtain ⟨m1, m2, m3⟩ := hdim
      obtain ⟨r1, h2, e2, G1, c2, f2, k2, l2⟩ := l16Own_ok hc (by omega) (by omega) (by omega) (by omega)
      have o2 := k2.out ho (by omega)
      by_cases hi : i < l.length
      · have hs' := hs.keeps hk
        obtain ⟨xa, ya, Fa, Fb, rfl, rfl, pa, pb⟩ := c2
        obtain ⟨_, h3, e3, rfl, c3, s3, l3⟩ := l16Step_ok (m := playC (newC k) (l.take i)) ⟨pa, pb, f2.nodup, f2.own⟩ (by omega) m3 l[i]
        have o3 : Out h.length h3 d (didC (newC k) (l.take i)) := o2.keeps s3 (fun b hb hm => by have := (ho.ge hb).2; have := f2.ge b hm; omega) (by omega)
        have k3 : Keeps h h3 := Keeps.far (n := h.length) (hk.trans k2) s3 (Nat.le_refl _) fun b hb hm => by have := f2.ge b hm; omega
        obtain ⟨d', h4, e4, o4, k4, l4, b4⟩ := o3.oneT (stepC (playC (newC k) (l.take i)) l[i]).isSome (by rw [didC_len]; simp; omega)
        have k4' : Keeps h h4 := o3.far k3 k4 (Nat.le_refl _)
        have hti : l.take (i + 1) = l.take i ++ [l[i]] := List.take_succ_eq_append_getElem hi
        have hp1 : playC (newC k) (l.take (i + 1)) = (stepC (playC (newC k) (l.take i)) l[i]).getD (playC (newC k) (l.take i)) := by rw [hti, playC_snoc]
        have hd1 : didC (newC k) (l.take (i + 1)) = didC (newC k) (l.take i) ++ [(stepC (playC (newC k) (l.take i)) l[i]).isSome] := by rw [hti, didC_snoc]
        rw [← hd1] at o4
        cases hst : stepC (playC (newC k) (l.take i)) l[i] with
        | none =>
          rw [hst] at e3 e4 hp1
          simp only [Option.getD_none, Option.isSome_none] at e3 e4 hp1
          obtain ⟨z1, z2, ez, q1, q2, q3, q4⟩ := hc.cells
          injection ez with ez; injection ez with e5 ez; injection ez with e6 _
          subst e5; subst e6
          simp [g202_0, hM, g29, g9, gL, hi, hs'.idx, hs'.loadK, hs.step hi, e2, e3, e4, rdS_last, fillL, upd, pa.cells, pa.cell, pb.cells, pb.cell]
          refine hJ _ hi ⟨hi, by simp, x, y, d', w, G, by simp [gL], by simp [gL4], by rw [hp1]; exact hw, ?_, by simp, o4, fun b hb => ⟨(hG b hb).1, fun hv => ?_⟩, k4', by show h.length ≤ h4.length; omega⟩
          · rw [hp1]
            exact ((hc.keep k2).keeps (s3.mono fun b hb hm => by have := f2.ge b hm; have := hc.lt hb; omega)).keeps (k4.mono fun b hb => (hG b hb).2)
          · have := b4 b hv
            have := hc.lt hb; omega
        | some m =>
          rw [hst] at e3 e4 c3 hp1
          simp only [Option.getD_some, Option.isSome_some] at e3 e4 c3 hp1
          simp [g202_0, hM, g29, g9, gL, hi, hs'.idx, hs'.loadK, hs.step hi, e2, e3, e4, rdS_last, fillL, upd, pa.cells, pa.cell, pb.cells, pb.cell]
          have nv : ∀ b ∈ Fa ++ Fb, ¬ vB d b := fun b hb hv => by have := (ho.ge hv).2; have := f2.ge b hb; omega
          have cv : CmV h3 (.agg [xa, ya, vi m.word]) m (Fa ++ Fb) := ⟨xa, ya, Fa, Fb, rfl, rfl, c3.parts, c3.heard⟩
          refine hJ _ hi ⟨hi, by simp, xa, ya, d', m.word, Fa ++ Fb, by simp [upd], by simp [upd, gL4], by rw [hp1], ?_, by simp, o4, fun b hb => ⟨by have := f2.ge b hb; omega, fun hv => ?_⟩, k4', by show h.length ≤ h4.length; omega⟩
          · rw [hp1]
            exact cv.keeps (k4.mono nv)
          · have := b4 b hv
            have := cv.lt hb; omega
      · have : i = l.length := by omega
        subst this
        rw [List.take_length] at hc hw ho c2
        obtain ⟨z1, z2, ez, q1, q2, q3, q4⟩ := hc.cells
        injection ez with ez; injection ez with e5 ez; injection ez with e6 _
        subst e5; subst e6
        have c2' := c2
        obtain ⟨xa, ya, rfl, r1, r2, r3, r4⟩ := c2'.cells
        rw [List.take_length] at o2
        simp [g202_0, hM, g29, g9, gL, gL4, e2, fillL, upd, r1, r2, r3, r4, resV, mkV]
        exact hR' _ _ _ _ c2 (f2.mono (by omega)) o2.sl (hk.trans k2) (by omega)
    · have hl' : (40 : Int) < l.length := by omega
      simp [g202, fillL, upd, resV, mkV, e1, hn, hl', hs.len, p1, p2, p3, p4, -Bool.decide_and]
      exact bad fun h => hl h.2
  · simp [g202, fillL, upd, resV, mkV, e1, hn, p1, p2, p3, p4, -Bool.decide_and]
    exact bad fun h => hn h.1
end GL

namespace GL
open Go

theorem dim_play {n : Int} {l : List Tk} (hn : 1 ≤ n ∧ n ≤ 5) (hl : l.length ≤ 40) : dimC n.toNat (playR n l) := by
  simp only [playR, hn, hl, and_self, if_true]
  exact playC_dim (newC_dim _) _

/-- the last touch of a drawn commit -/
theorem DC.commit {h0 h : Heap} {N : Nat} (d : DC h0 h N) (hN : N < 2 ^ 57) : ∃ v h', call p 299 [.ptr h0.length 0] h = some (v, h') ∧ ∃ (c : Cm) (G : List Nat), CmV h' v c G ∧ (∀ b ∈ G, h.length ≤ b) ∧ DC h0 h' (N + 3000) ∧ KeepsBut h0.length h h' ∧ h.length ≤ h'.length := by
  obtain ⟨n, h1, e1, hn, d1, k1, l1⟩ := d.pick (by omega) 4 (by decide)
  obtain ⟨tv, h2, e2, ts, ho, htl, d2, k2, l2⟩ := d1.talks (by omega)
  have w : IntKind.i64.wrap (1 + (n : Int)) = (1 + n : Nat) := by rw [IntWalk.i64_in] <;> omega
  have hn5 : 1 ≤ ((1 + n : Nat) : Int) ∧ ((1 + n : Nat) : Int) ≤ 5 := by omega
  obtain ⟨_, h3, e3, wv, dv, G, rfl, c3, f3, s3, k3, l3⟩ := PlayS_ok ((1 + n : Nat) : Int) ho.sl
  obtain ⟨_, h4, e4, wv4, G4, rfl, c4, f4, k4, l4⟩ := NewCommitS_ok 2 h3
  have d3 := d2.keeps k3
  have hlt := d.lt
  have kb3 := (k1.trans k2).trans (k3.but h0.length)
  refine go (fn := g299) rfl rfl fun R hR => ?_
  have e3' : call p 202 [vi (1 + n : Nat), tv] h2 = some (.tup [wv, dv, .bool (decide ((1 ≤ ((1 + n : Nat) : Int) ∧ ((1 + n : Nat) : Int) ≤ 5) ∧ ts.length ≤ 40))], h3) := e3
  -- behind the choice of a commit
  have tail : ∀ (h5 : Heap) (v5 : V) (c : Cm) (G5 : List Nat), CmV h5 v5 c G5 → Fresh h.length h5 G5 → 0 < c.parts.length → DC h0 h5 (N + 2900) → KeepsBut h0.length h h5 → h.length ≤ h5.length →
      ∃ (q : Nat) (h6 : Heap) (a : Nat) (h7 : Heap), call p 91 [.ptr h0.length 0, vi 20] h5 = some (vi q, h6) ∧ call p 91 [.ptr h0.length 0, vi 5] h6 = some (vi a, h7) ∧
        (∀ x y wd, v5 = .agg [x, y, vi wd] → R (.agg [x, y, vi wd]) h6 ∧ R (.agg [x, y, vi (IntKind.i64.wrap ((a : Int) - 1))]) h7 ∧ idxV 1 x (.int .i64 0) = some (.ptr (bOf x) (oOf x)) ∧ ∃ h8, wrH h7 (bOf x) (oOf x) [vi a] = some h8 ∧ R (.agg [x, y, vi wd]) h8) := fun h5 v5 c G5 hc hf hp hd kb hl => by
    obtain ⟨q, h6, e6, _, d6, k6, l6⟩ := hd.pick (by omega) 20 (by decide)
    obtain ⟨a, h7, e7, _, d7, k7, l7⟩ := d6.pick (by omega) 5 (by decide)
    refine ⟨q, h6, a, h7, e6, e7, fun x y wd hv => ?_⟩
    have nc : ∀ b ∈ G5, b ≠ h0.length := fun b hb => by have := hf.ge b hb; omega
    have c6 := hc.keeps (k6.P.mono nc)
    have c7 := c6.keeps (k7.P.mono nc)
    have f7 := (hf.keeps (k6.P.mono nc)).keeps (k7.P.mono nc)
    subst hv
    obtain ⟨x', y', F1, F2, ez, rfl, px, py⟩ := c7
    injection ez with ez; injection ez with ea ez; injection ez with eb ez; injection ez with ew _; injection ew with _ ew
    subst ea; subst eb; subst ew
    have i0 := px.idx 1 .i64 0 hp
    simp at i0
    obtain ⟨h8, e8, c8, s8⟩ := CmO.setP (hs := c.heard) ⟨px, py, f7.nodup, f7.own⟩ hp (a : Int)
    simp at e8
    obtain ⟨s8a, s8b⟩ := s8
    refine ⟨hR _ _ ⟨c, F1 ++ F2, c6, hf.ge, d6.mono (by omega), kb.trans k6, by omega⟩, hR _ _ ⟨⟨c.parts, c.heard, _⟩, F1 ++ F2, ⟨x, y, F1, F2, rfl, rfl, px, py⟩, hf.ge, d7.mono (by omega), (kb.trans k6).trans k7, by omega⟩, i0, h8, e8, ?_⟩
    refine hR _ _ ⟨⟨c.parts.set 0 a, c.heard, c.word⟩, F1 ++ F2, ⟨x, y, F1, F2, rfl, rfl, c8.parts, c8.heard⟩, hf.ge, (d7.far s8a fun i hi hm => by have := hf.ge i hm; omega).mono (by omega), ((kb.trans k6).trans k7).far s8a fun i hi _ hm => by have := hf.ge i hm; omega, by omega⟩
  by_cases hl : ts.length ≤ 40
  · rw [decide_eq_true ⟨hn5, hl⟩] at e3'
    obtain ⟨m1, m2, m3⟩ := dim_play (l := ts) hn5 hl
    obtain ⟨q, h6, a, h7, e6, e7, hT⟩ := tail h3 wv _ G c3 (f3.mono (by omega)) (by omega) (d3.mono (by omega)) kb3 (by omega)
    obtain ⟨x, y, rfl, p1, p2, p3, p4⟩ := c3.cells
    obtain ⟨t1, t2, t3, h8, t4, t5⟩ := hT x y _ rfl
    by_cases q0 : q = 0
    · subst q0
      simp [g299, fillL, upd, resV, mkV, e1, e2, w, e3', p1, p2, p3, p4, e6, e7, -Int.natCast_add]
      exact t2
    · by_cases q1 : q = 1
      · subst q1
        simp [g299, fillL, upd, resV, mkV, e1, e2, w, e3', p1, p2, p3, p4, e6, e7, t3, t4, -Int.natCast_add]
        exact t5
      · have q1' : ¬ (q : Int) = 1 := by omega
        simp [g299, fillL, upd, resV, mkV, e1, e2, w, e3', p1, p2, p3, p4, e6, q0, q1', -Int.natCast_add]
        exact t1
  · rw [decide_eq_false (fun h => hl h.2)] at e3'
    obtain ⟨x3, y3, rfl, p1, p2, p3, p4⟩ := c3.cells
    obtain ⟨q, h6, a, h7, e6, e7, hT⟩ := tail h4 wv4 _ G4 c4 (f4.mono (by omega)) (by simp [newR, newC]) ((d3.keeps k4).mono (by omega)) (kb3.trans (k4.but _)) (by omega)
    obtain ⟨x, y, rfl, r1, r2, r3, r4⟩ := c4.cells
    obtain ⟨t1, t2, t3, h8, t4, t5⟩ := hT x y _ rfl
    simp at e4
    by_cases q0 : q = 0
    · subst q0
      simp [g299, fillL, upd, resV, mkV, e1, e2, w, e3', p1, p2, p3, p4, e4, r1, r2, r3, r4, e6, e7, -Int.natCast_add]
      exact t2
    · by_cases q1 : q = 1
      · subst q1
        simp [g299, fillL, upd, resV, mkV, e1, e2, w, e3', p1, p2, p3, p4, e4, r1, r2, r3, r4, e6, e7, t3, t4, -Int.natCast_add]
        exact t5
      · have q1' : ¬ (q : Int) = 1 := by omega
        simp [g299, fillL, upd, resV, mkV, e1, e2, w, e3', p1, p2, p3, p4, e4, r1, r2, r3, r4, e6, q0, q1', -Int.natCast_add]
        exact t1

end GL

namespace GL
open Go

theorem goodC_iff {c : Cm} : goodC c = true ↔ (1 ≤ c.parts.length ∧ c.parts.length ≤ 5) ∧ c.heard.length = c.parts.length ∧ (0 ≤ c.word ∧ c.word ≤ 2) ∧ ∀ i (h1 : i < c.parts.length) (h2 : i < c.heard.length), okP c.word (noC c) c.parts[i] c.heard[i] := by
  simp only [goodC, decide_eq_true_eq]
  refine ⟨fun ⟨a, b, d, e⟩ => ⟨a, b, d, fun i h1 h2 => ?_⟩, fun ⟨a, b, d, e⟩ => ⟨a, b, d, fun x hx => ?_⟩⟩
  · have hz : (c.parts.zip c.heard)[i]'(by simp; omega) = (c.parts[i], c.heard[i]) := by simp
    exact e (c.parts[i], c.heard[i]) (by rw [← hz]; exact List.getElem_mem _)
  · obtain ⟨i, hi, rfl⟩ := List.getElem_of_mem hx
    have hi' := hi
    rw [List.length_zip] at hi'
    have h1 : i < c.parts.length := by omega
    have h2 : i < c.heard.length := by omega
    have hz : (c.parts.zip c.heard)[i] = (c.parts[i], c.heard[i]) := by simp
    rw [hz]; exact e i h1 h2

theorem noC_01 (c : Cm) : noC c = 0 ∨ noC c = 1 := by unfold noC; split <;> simp

theorem goodC_step {c m : Cm} {t : Tk} (hg : goodC c = true) (hs : stepC c t = some m) : goodC m = true := by
  obtain ⟨g1, g2, g3, g4⟩ := goodC_iff.1 hg
  obtain ⟨l1, l2⟩ := stepC_len hs
  unfold stepC at hs
  split at hs
  · cases hs
  rename_i hpre
  have hp : 0 ≤ t.part ∧ t.part < c.parts.length := Classical.byContradiction fun h => hpre (.inl h)
  obtain ⟨k, hk⟩ := Int.eq_ofNat_of_zero_le hp.1
  have hkl : k < c.parts.length := by omega
  have hkh : k < c.heard.length := by omega
  have hgd : c.parts.getD k 0 = c.parts[k] := by simp [hkl]
  have ok := g4 k hkl hkh
  have n01 := noC_01 c
  rw [hk] at hs
  simp only [Int.toNat_natCast, hgd] at hs
  refine goodC_iff.2 ?_
  split at hs
  · -- yes
    split at hs
    · injection hs with hs; subst hs
      rename_i q
      refine ⟨by simpa using g1, by simpa using g2, g3, fun i h1 h2 => ?_⟩
      simp at h1 h2
      have hno : noC ⟨c.parts.set k 1, c.heard.set k 1, c.word⟩ = noC c := by
        have hk2 : c.heard[k] ≠ 2 := fun h => by unfold okP at ok; omega
        unfold noC
        have : (2 : Int) ∈ c.heard.set k 1 ↔ (2 : Int) ∈ c.heard := by
          constructor
          · intro h
            rcases List.mem_or_eq_of_mem_set h with h | h
            · exact h
            · cases h
          · intro h
            obtain ⟨j, hj, e⟩ := List.getElem_of_mem h
            have hjk : k ≠ j := fun e2 => hk2 (by subst e2; exact e)
            have hm : (c.heard.set k 1)[j]'(by simpa using hj) ∈ c.heard.set k 1 := List.getElem_mem _
            rw [List.getElem_set_ne hjk, e] at hm; exact hm
        simp only [this]
      rw [hno]
      have oi := g4 i h1 h2
      simp only [List.getElem_set]
      split
      · unfold okP at *; omega
      · exact oi
    · cases hs
  split at hs
  · -- no
    split at hs
    · injection hs with hs; subst hs
      rename_i q
      refine ⟨by simpa using g1, by simpa using g2, g3, fun i h1 h2 => ?_⟩
      simp at h1 h2
      have hno : noC ⟨c.parts.set k 3, c.heard.set k 2, c.word⟩ = 1 := by
        unfold noC
        rw [if_pos]
        show (2 : Int) ∈ c.heard.set k 2
        have hm : (c.heard.set k 2)[k]'(by simpa using hkh) ∈ c.heard.set k 2 := List.getElem_mem _
        rwa [List.getElem_set_self] at hm
      rw [hno]
      have oi := g4 i h1 h2
      simp only [List.getElem_set]
      split
      · unfold okP at *; omega
      · unfold okP at *; omega
    · cases hs
  split at hs
  · -- decided
    split at hs
    · injection hs with hs; subst hs
      rename_i q
      by_cases hany : (c.heard.any fun n => decide (n ≠ 1)) = true
      · refine ⟨g1, g2, by simp only [hany, if_true]; omega, fun i h1 h2 => ?_⟩
        have oi := g4 i h1 h2
        have hno : noC ⟨c.parts, c.heard, if (c.heard.any fun n => decide (n ≠ 1)) = true then 2 else 1⟩ = noC c := rfl
        rw [hno]
        simp only [hany, if_true]
        unfold okP at *; omega
      · have hall : ∀ x ∈ c.heard, x = 1 := by simpa using hany
        refine ⟨g1, g2, by simp only [hany]; simp, fun i h1 h2 => ?_⟩
        have oi := g4 i h1 h2
        have hi1 := hall c.heard[i] (List.getElem_mem _)
        have hno0 : noC c = 0 := by
          unfold noC; rw [if_neg]; intro h; have := hall 2 h; omega
        have hno : noC ⟨c.parts, c.heard, if (c.heard.any fun n => decide (n ≠ 1)) = true then 2 else 1⟩ = noC c := rfl
        rw [hno]
        simp only [hany]
        rw [hi1] at oi ⊢
        simp only [Bool.false_eq_true, if_false]
        unfold okP at *; omega
    · cases hs
  split at hs
  · -- told
    split at hs
    · cases hs
    · injection hs with hs; subst hs
      rename_i q
      refine ⟨by simpa using g1, by simpa using g2, g3, fun i h1 h2 => ?_⟩
      simp at h1
      simp only at h2
      have oi := g4 i h1 h2
      have hno : ∀ ps, noC ⟨ps, c.heard, c.word⟩ = noC c := fun _ => rfl
      rw [hno]
      simp only [List.getElem_set]
      split
      · rename_i e; subst e
        split
        · unfold okP at *; omega
        · unfold okP at *; omega
      · exact oi
  split at hs
  · -- asked another
    split at hs
    · rename_i q
      obtain ⟨j, hj⟩ := Int.eq_ofNat_of_zero_le q.1.1
      rw [hj] at q hs
      have hjl : j < c.parts.length := by omega
      have hjh : j < c.heard.length := by omega
      have hgj : c.parts.getD j 0 = c.parts[j] := by simp [hjl]
      simp only [Int.toNat_natCast, hgj] at q hs
      injection hs with hs; subst hs
      have oj := g4 j hjl hjh
      refine ⟨by simpa using g1, by simpa using g2, g3, fun i h1 h2 => ?_⟩
      simp at h1
      simp only at h2
      have oi := g4 i h1 h2
      have hno : ∀ ps, noC ⟨ps, c.heard, c.word⟩ = noC c := fun _ => rfl
      rw [hno]
      simp only [List.getElem_set]
      split
      · rename_i e; subst e
        unfold okP at *; omega
      · exact oi
    · cases hs
  · cases hs

/-- what a step leaves alone -/
theorem stepC_stays {c m : Cm} {t : Tk} (hg : goodC c = true) (hs : stepC c t = some m) : (∀ i (h1 : i < c.parts.length) (h2 : i < m.parts.length), (2 ≤ c.parts[i] ∨ (i : Int) ≠ t.part) → m.parts[i] = c.parts[i]) ∧ (c.word ≠ 0 → m.word = c.word) := by
  unfold stepC at hs
  split at hs
  · cases hs
  rename_i hpre
  have hp : 0 ≤ t.part ∧ t.part < c.parts.length := Classical.byContradiction fun h => hpre (.inl h)
  obtain ⟨k, hk⟩ := Int.eq_ofNat_of_zero_le hp.1
  have hkl : k < c.parts.length := by omega
  have hgd : c.parts.getD k 0 = c.parts[k] := by simp [hkl]
  obtain ⟨g1, g2, g3, g4⟩ := goodC_iff.1 hg
  have ok := g4 k hkl (by omega)
  rw [hk] at hs ⊢
  simp only [Int.toNat_natCast, hgd] at hs
  have set1 : ∀ (x : Int) (hd : List Int) (w : Int), c.parts[k] < 2 → m = ⟨c.parts.set k x, hd, w⟩ → ∀ i (h1 : i < c.parts.length) (h2 : i < m.parts.length), (2 ≤ c.parts[i] ∨ (i : Int) ≠ k) → m.parts[i] = c.parts[i] := by
    intro x hd w hlt e i h1 h2 hor
    subst e
    simp only [List.getElem_set]
    split
    · rename_i e; subst e; omega
    · rfl
  split at hs
  · split at hs
    · injection hs with hs; rename_i q; exact ⟨set1 1 _ _ (by omega) hs.symm, fun h => absurd q.2 h⟩
    · cases hs
  split at hs
  · split at hs
    · injection hs with hs; rename_i q; exact ⟨set1 3 _ _ (by omega) hs.symm, fun _ => by rw [← hs]⟩
    · cases hs
  split at hs
  · split at hs
    · injection hs with hs; rename_i q; subst hs; exact ⟨fun _ _ _ _ => rfl, fun h => absurd q.2 h⟩
    · cases hs
  split at hs
  · split at hs
    · cases hs
    · injection hs with hs; rename_i q
      refine ⟨set1 _ _ _ ?_ hs.symm, fun _ => by rw [← hs]⟩
      unfold okP at ok; omega
  split at hs
  · split at hs
    · injection hs with hs; rename_i q; exact ⟨set1 _ _ _ (by omega) hs.symm, fun _ => by rw [← hs]⟩
    · cases hs
  · cases hs
end GL

namespace GL
open Go

theorem sameCommit_eq {h : Heap} {v w : V} {c d : Cm} {F G : List Nat} (hc : CmV h v c F) (hd : CmV h w d G) : call p 190 [v, w] h = some (.bool (decide (c.parts = d.parts ∧ c.heard = d.heard ∧ c.word = d.word)), h) := by
  obtain ⟨x, y, F1, F2, rfl, _, hp, hh⟩ := hc
  obtain ⟨x', y', G1, G2, rfl, _, hp', hh'⟩ := hd
  have e1 := sameInts_eq hp.sl hp'.sl
  have e2 := sameInts_eq hh.sl hh'.sl
  refine go_eq (fn := g190) rfl rfl fun R hR => ?_
  by_cases h1 : c.parts = d.parts
  · by_cases h2 : c.heard = d.heard
    · by_cases h3 : c.word = d.word
      · simp [g190, fillL, upd, hp.cells, hp.cell, hh.cells, hh.cell, hp'.cells, hp'.cell, hh'.cells, hh'.cell, e1, e2, h1, h2, h3]
        simpa [h1, h2, h3] using hR
      · simp [g190, fillL, upd, hp.cells, hp.cell, hh.cells, hh.cell, hp'.cells, hp'.cell, hh'.cells, hh'.cell, e1, e2, h1, h2, h3]
        simpa [h1, h2, h3] using hR
    · simp [g190, fillL, upd, hp.cells, hp.cell, hh.cells, hh.cell, hp'.cells, hp'.cell, hh'.cells, hh'.cell, e1, e2, h1, h2]
      simpa [h1, h2] using hR
  · simp [g190, fillL, upd, hp.cells, hp.cell, hh.cells, hh.cell, hp'.cells, hp'.cell, hh'.cells, hh'.cell, e1, h1]
    simpa [h1] using hR
end GL

namespace GL
open Go

end GL

namespace GL
open Go

theorem indexFh_eq {h : Heap} {v : V} {xs : List Int} (hs : Sl h v xs) (f : Nat) (capt : List V) (q : Int → Bool) (hf : ∀ n, call p f (vi n :: capt) h = some (.bool (q n), h)) : ∃ k : Int, call p 391 [v, .fn f capt] h = some (vi k, h) ∧ (0 ≤ k ↔ ∃ x ∈ xs, q x = true) := by
  have : ∃ r h', call p 391 [v, .fn f capt] h = some (r, h') ∧ ∃ k : Int, r = vi k ∧ h' = h ∧ (0 ≤ k ↔ ∃ x ∈ xs, q x = true) := by
    refine go (fn := g391) rfl rfl fun R hR => ?_
    simp [g391, hs.len]
    refine Wc_upM (M := [4, 5, 8, 9, 10, 11, 12, 13, 14, 15, 16, 17, 18]) rfl xs.length (fun i s => s.σ 8 = .v (vi i) ∧ s.h = h ∧ ∀ x ∈ xs.take i, q x = false) 0 (by simp) fun i s ⟨g8, gh, hall⟩ hM J hJ => ?_
    by_cases hn : i < xs.length
    · cases he : q xs[i] with
      | true =>
        simp [g391_0, hM, g8, gh, hn, hs.idx, hs.loadI, hf, he]
        exact hR _ _ ⟨i, rfl, rfl, by simp; exact ⟨xs[i], by simp, he⟩⟩
      | false =>
        simp [g391_0, hM, g8, gh, hn, hs.idx, hs.loadI, hf, he, hs.step hn]
        exact hJ _ hn ⟨by simp, rfl, (all_take_succ hn).2 ⟨hall, he⟩⟩
    · rw [List.take_of_length_le (by omega)] at hall
      simp [g391_0, hM, g8, gh, hn]
      exact hR _ _ ⟨-1, rfl, rfl, by simpa using hall⟩
  obtain ⟨_, _, e, k, rfl, rfl, hk⟩ := this
  exact ⟨k, e, hk⟩
theorem containsFh_eq {h : Heap} {v : V} {xs : List Int} (hs : Sl h v xs) (f : Nat) (capt : List V) (q : Int → Bool) (hf : ∀ n, call p f (vi n :: capt) h = some (.bool (q n), h)) : call p 304 [v, .fn f capt] h = some (.bool (xs.any q), h) := by
  obtain ⟨k, e, hk⟩ := indexFh_eq hs f capt q hf
  refine go_eq (fn := g304) rfl rfl fun R hR => ?_
  have : decide (0 ≤ k) = xs.any q := by
    rw [Bool.eq_iff_iff]; simp [hk]
  simp [g304, e, this]
  exact hR

/-- decide, and tell all -/
def finishC (c : Cm) : Cm := playC c (⟨3, 0, 0⟩ :: (List.range c.parts.length).map fun (k : Nat) => ⟨4, k, 0⟩)
def finishR (c : Cm) : Cm := if goodC c = true then finishC c else zC
def fin1 (c : Cm) (i : Nat) : Cm := playC c (⟨3, 0, 0⟩ :: (List.range i).map fun (k : Nat) => ⟨4, k, 0⟩)
theorem fin1_succ (c : Cm) (i : Nat) : fin1 c (i + 1) = (stepC (fin1 c i) ⟨4, i, 0⟩).getD (fin1 c i) := by
  unfold fin1
  rw [List.range_succ, List.map_append, ← List.cons_append]
  exact playC_snoc c (⟨3, 0, 0⟩ :: (List.range i).map fun (k : Nat) => ⟨4, (k : Int), 0⟩) ⟨4, i, 0⟩
theorem fin1_zero (c : Cm) : fin1 c 0 = (stepC c ⟨3, 0, 0⟩).getD c := rfl
theorem fin1_dim {n : Nat} {c : Cm} (hd : dimC n c) (i : Nat) : dimC n (fin1 c i) := playC_dim hd _
theorem goodC_dim {c : Cm} (hg : goodC c = true) : dimC c.parts.length c := by
  obtain ⟨a, b, d⟩ := goodC_len hg
  exact ⟨rfl, b, d⟩

theorem tell_step {m : Cm} {k : Nat} (hk : k < m.parts.length) : (stepC m ⟨4, k, 0⟩).getD m = (if (m.parts[k] = 2 ∨ m.parts[k] = 3) ∨ m.word = 0 then m else ⟨m.parts.set k (if m.word = 2 then 3 else 2), m.heard, m.word⟩) := by
  have hgd : m.parts.getD k 0 = m.parts[k] := by simp [hk]
  have hp : 0 ≤ (k : Int) ∧ (k : Int) < m.parts.length := by omega
  simp only [stepC, hp, Int.toNat_natCast, hgd]
  simp
  split
  · rfl
  · rfl
theorem decide_step {m : Cm} (hn : 0 < m.parts.length) : (stepC m ⟨3, 0, 0⟩).getD m = ⟨m.parts, m.heard, if m.word = 0 then (if m.heard.any (fun n => decide (n ≠ 1)) = true then 2 else 1) else m.word⟩ := by
  have hp : 0 ≤ (0 : Int) ∧ (0 : Int) < m.parts.length := by omega
  by_cases hw : m.word = 0
  · have : stepC m ⟨3, 0, 0⟩ = some ⟨m.parts, m.heard, if m.heard.any (fun n => decide (n ≠ 1)) = true then 2 else 1⟩ := by
      unfold stepC
      rw [if_neg (by rintro (h | h); exact h hp; exact h.2 rfl), if_neg (by decide), if_neg (by decide), if_pos rfl, if_pos ⟨rfl, hw⟩]
    rw [this, if_pos hw]; rfl
  · have : stepC m ⟨3, 0, 0⟩ = none := by
      unfold stepC
      rw [if_neg (by rintro (h | h); exact h hp; exact h.2 rfl), if_neg (by decide), if_neg (by decide), if_pos rfl, if_neg (fun h => hw h.2)]
    rw [this, if_neg hw]; rfl

theorem FinishI_ok {h : Heap} {v : V} {c : Cm} {F : List Nat} (hc : CmV h v c F) :
    ∃ r h', call p 205 [v] h = some (r, h') ∧ ∃ w G, r = .tup [w, .bool (goodC c)] ∧ CmV h' w (finishR c) G ∧ Fresh h.length h' G ∧ Keeps h h' ∧ h.length ≤ h'.length := by
  refine go (fn := g205) rfl rfl fun R hR => ?_
  have e0 := GoodCommit_eq hc
  cases hg : goodC c with
  | false =>
    obtain ⟨x, y, rfl, p1, p2, p3, p4⟩ := hc.cells
    rw [hg] at e0
    simp [g205, fillL, upd, p1, p2, p3, p4, e0, resV, mkV]
    refine hR _ _ ⟨.agg [.nils, .nils, vi 0], [], (by rw [hg]), by simpa [finishR, hg] using zC_v h, Fresh.nil, Keeps.refl _, Nat.le_refl _⟩
  | true =>
    obtain ⟨l1, l2, l3⟩ := goodC_len hg
    obtain ⟨r, h1, e1, G, c1, f1, k1, len1⟩ := cloned_ok hc (by omega) (by omega)
    obtain ⟨x, y, rfl, p1, p2, p3, p4⟩ := hc.cells
    obtain ⟨a, b, G1, G2, rfl, rfl, ha, hb⟩ := c1
    rw [hg] at e0
    have kb : Keeps h1 (h1 ++ [⟨.own, [a, b, vi c.word]⟩]) := Keeps.append h1 _
    have out : ∀ b ∈ G1 ++ G2, b ≠ h1.length := fun b hb e => by have := (f1.own b hb).lt; omega
    have cp : CmP (h1 ++ [⟨.own, [a, b, vi c.word]⟩]) h1.length a b c G1 G2 := ⟨by simp, ha.keep kb, hb.keep kb, ⟨fun hm => out _ (List.mem_append_left _ hm) rfl, fun hm => out _ (List.mem_append_right _ hm) rfl⟩, f1.nodup, fun b hb => (f1.own b hb).keeps (kb.p fun _ => True) trivial⟩
    obtain ⟨_, h2, e2, rfl, c2, s2, l2'⟩ := decide_ok cp
    have ew : wrH (h1 ++ [⟨.own, [.nils, .nils, vi 0]⟩]) h1.length 0 [a, b, vi c.word] = some (h1 ++ [⟨.own, [a, b, vi c.word]⟩]) := wrH_last rfl
    have hdim := goodC_dim hg
    have c2' : CmP h2 h1.length a b (fin1 c 0) G1 G2 := by rw [fin1_zero, decide_step (by omega)]; exact c2
    have hlen2 : h2.length = h1.length + 1 := by rw [l2']; simp
    simp [g205, ew, fillL, upd, p1, p2, p3, p4, ha.cells, ha.cell, hb.cells, hb.cell, e0, e1, e2, rdH_at c2'.blk, c2'.parts.len, (fin1_dim hdim 0).1]
    refine Wc_upM (M := [5, 16, 17, 18, 19, 20, 21]) rfl c.parts.length (fun i s => i ≤ c.parts.length ∧ s.σ 16 = .v (vi i) ∧ CmP s.h h1.length a b (fin1 c i) G1 G2 ∧ CmS h2 s.h h1.length (G1 ++ G2) ∧ s.L 2 = (1, [.nils, .nils, vi 0])) 0
      ⟨by omega, by simp, c2', CmS.refl _ _ _, by simp [upd]⟩ fun i s ⟨gi, g16, gc, gs, gL⟩ hM J hJ => ?_
    have hd := fin1_dim hdim i
    by_cases hi : i < c.parts.length
    · obtain ⟨_, h3, e3, rfl, c3, s3⟩ := tell_ok gc (k := i) (by rw [hd.1]; exact hi)
      have w2 : IntKind.i64.wrap ((i : Int) + 1) = (i + 1 : Nat) := by rw [IntWalk.i64_in] <;> omega
      simp [g205_0, hM, g16, hi, e3, w2, -Int.natCast_add]
      refine hJ _ hi ⟨hi, by simp, ?_, gs.trans s3, by simp [gL]⟩
      rw [fin1_succ, tell_step (by rw [hd.1]; exact hi)]; exact c3
    · have : i = c.parts.length := by omega
      subst this
      have kf : Keeps h s.h := Keeps.far (n := h.length) (k1.trans kb) (s2.trans gs.1) (Nat.le_refl _) fun i hi => ⟨by omega, fun hm => by have := f1.ge i hm; omega⟩
      simp [g205_0, hM, g16, rdH_at gc.blk, fillL, upd, gL, ha.cell, hb.cell, resV, mkV]
      refine hR _ _ ⟨.agg [a, b, vi (fin1 c c.parts.length).word], G1 ++ G2, (by rw [hg]; try rfl), (by rw [show finishR c = fin1 c c.parts.length from by unfold finishR; rw [if_pos hg]; rfl]; exact ⟨a, b, G1, G2, rfl, rfl, gc.parts, gc.heard⟩), ⟨gc.nodup, f1.ge, gc.own⟩, kf, by have := gs.2; omega⟩

theorem FinishS_ok {h : Heap} {v : V} {c : Cm} {F : List Nat} (hc : CmV h v c F) :
    ∃ r h', call p 208 [v] h = some (r, h') ∧ ∃ w G, r = .tup [w, .bool (goodC c)] ∧ CmV h' w (finishR c) G ∧ Fresh h.length h' G ∧ Keeps h h' ∧ h.length ≤ h'.length := by
  refine go (fn := g208) rfl rfl fun R hR => ?_
  have e0 := GoodCommitS_eq hc
  cases hg : goodC c with
  | false =>
    obtain ⟨x, y, rfl, p1, p2, p3, p4⟩ := hc.cells
    rw [hg] at e0
    simp [g208, fillL, upd, p1, p2, p3, p4, e0, resV, mkV]
    refine hR _ _ ⟨.agg [.nils, .nils, vi 0], [], (by rw [hg]), by simpa [finishR, hg] using zC_v h, Fresh.nil, Keeps.refl _, Nat.le_refl _⟩
  | true =>
    obtain ⟨l1, l2, l3⟩ := goodC_len hg
    obtain ⟨r, h1, e1, G, c1, f1, k1, len1⟩ := l16Own_ok hc (by omega) (by omega) (by omega) (by omega)
    obtain ⟨x, y, rfl, p1, p2, p3, p4⟩ := hc.cells
    obtain ⟨a, b, G1, G2, rfl, rfl, ha, hb⟩ := c1
    rw [hg] at e0
    obtain ⟨_, h2, e2, rfl, c2, s2⟩ := l16Step_ok (m := c) ⟨ha, hb, f1.nodup, f1.own⟩ l2 l3 ⟨3, 0, 0⟩
    have hdim := goodC_dim hg
    rw [← fin1_zero] at c2 e2
    simp [g208, fillL, upd, p1, p2, p3, p4, ha.cells, ha.cell, hb.cells, hb.cell, e0, e1, e2, c2.parts.len, (fin1_dim hdim 0).1, resV, mkV]
    refine Wc_upM (M := [6, 7, 8, 23, 24, 25, 26, 27, 28, 29, 30, 31, 32, 33, 34]) rfl c.parts.length (fun i s => i ≤ c.parts.length ∧ s.σ 23 = .v (vi i) ∧ CmO s.h a b (fin1 c i).parts (fin1 c i).heard G1 G2 ∧ KS h2 s.h (G1 ++ G2) ∧ s.L 2 = (1, [.nils, .nils, vi 0]) ∧ s.L 4 = (1, [a, b, vi (fin1 c i).word])) 0
      ⟨by omega, by simp, c2, KS.refl _ _, by simp [upd], by simp [upd]⟩ fun i s ⟨gi, g23, gc, gs, gL, gL4⟩ hM J hJ => ?_
    have hd := fin1_dim hdim i
    by_cases hi : i < c.parts.length
    · obtain ⟨_, h3, e3, rfl, c3, s3⟩ := l16Step_ok (m := fin1 c i) gc (by rw [hd.1, hd.2.1]) hd.2.2 ⟨4, i, 0⟩
      rw [← fin1_succ] at e3 c3
      have w2 : IntKind.i64.wrap ((i : Int) + 1) = (i + 1 : Nat) := by rw [IntWalk.i64_in] <;> omega
      simp [g208_0, hM, g23, gL4, hi, e3, w2, fillL, upd, ha.cell, hb.cell, -Int.natCast_add]
      exact hJ _ hi ⟨hi, by simp, c3, gs.trans s3, by simp [gL], by simp [upd]⟩
    · have : i = c.parts.length := by omega
      subst this
      have kf : Keeps h s.h := Keeps.far (n := h.length) k1 (s2.trans gs).1 (Nat.le_refl _) fun i hi hm => by have := f1.ge i hm; omega
      have cv : CmV s.h (.agg [a, b, vi (fin1 c c.parts.length).word]) (fin1 c c.parts.length) (G1 ++ G2) := ⟨a, b, G1, G2, rfl, rfl, gc.parts, gc.heard⟩
      obtain ⟨r3, h3, e3, G3, c3, f3, k3, len3⟩ := l16Own_ok cv (by have := hd.1; omega) (by have := hd.2.1; omega) (by have := hd.1; omega) (by have := hd.2.1; omega)
      have c3' := c3
      obtain ⟨x3, y3, rfl, r1, r2, r3, r4⟩ := c3'.cells
      have hln : h2.length = h1.length := s2.2
      have hl3 : s.h.length = h2.length := gs.2
      simp [g208_0, hM, g23, gL4, e3, fillL, upd, gL, r1, r2, r3, r4, resV, mkV]
      refine hR _ _ ⟨_, G3, (by rw [hg]; try rfl), (by rw [show finishR c = fin1 c c.parts.length from by unfold finishR; rw [if_pos hg]; rfl]; exact c3), f3.mono (by omega), kf.trans k3, by omega⟩
end GL

namespace GL
open Go

theorem says1_eq {h : Heap} {b : Nat} {f : Int} (hb : h[b]? = some ⟨.own, [vi f]⟩) (n : Int) : call p 309 [vi n, .ptr b 0] h = some (.bool (decide (n ≠ f)), h) := by
  refine go_eq (fn := g309) rfl rfl fun R hR => ?_
  simp [g309, rdH_at hb]; simpa using hR

def saysB (c : Cm) : Bool := (c.parts.all fun n => decide (n = 2)) || c.parts.all fun n => decide (n = 3)
def saysR (c : Cm) : V := if goodC c = true then .tup [.bool (saysB c), .bool true] else .tup [.bool false, .bool false]

theorem saysB_first {c : Cm} (hn : 0 < c.parts.length) : saysB c = (decide (c.parts[0] = 2 ∨ c.parts[0] = 3) && !c.parts.any fun n => decide (n ≠ c.parts[0])) := by
  rw [Bool.eq_iff_iff]
  simp only [saysB, Bool.or_eq_true, List.all_eq_true, decide_eq_true_eq, Bool.and_eq_true, Bool.not_eq_true', List.any_eq_false]
  constructor
  · rintro (h | h)
    · have h0 := h c.parts[0] (List.getElem_mem _)
      exact ⟨.inl h0, fun x hx => by rw [h x hx, h0]; simp⟩
    · have h0 := h c.parts[0] (List.getElem_mem _)
      exact ⟨.inr h0, fun x hx => by rw [h x hx, h0]; simp⟩
  · rintro ⟨h0 | h0, h⟩
    · exact .inl fun x hx => by have := h x hx; rw [h0] at this; simpa using this
    · exact .inr fun x hx => by have := h x hx; rw [h0] at this; simpa using this

theorem SaysAllI_ok {h : Heap} {v : V} {c : Cm} {F : List Nat} (hc : CmV h v c F) : ∃ h', call p 206 [v] h = some (saysR c, h') ∧ Keeps h h' := by
  have : ∃ r h', call p 206 [v] h = some (r, h') ∧ r = saysR c ∧ Keeps h h' := by
    refine go (fn := g206) rfl rfl fun R hR => ?_
    have e0 := GoodCommit_eq hc
    cases hg : goodC c with
    | false =>
      obtain ⟨x, y, rfl, p1, p2, p3, p4⟩ := hc.cells
      rw [hg] at e0
      simp [g206, fillL, upd, p1, p2, p3, p4, e0]
      exact hR _ _ ⟨by simp [saysR, hg], Keeps.refl _⟩
    | true =>
      obtain ⟨l1, l2, l3⟩ := goodC_len hg
      obtain ⟨x, y, F1, F2, rfl, rfl, hp, hh⟩ := hc
      have hn : 0 < c.parts.length := by omega
      rw [hg] at e0
      have i0 := hp.idx 1 .i64 0 hn
      have q0 := hp.sl.loadI 0 hn
      simp at i0 q0
      have ew : wrH (h ++ [⟨.own, [vi 0]⟩]) h.length 0 [vi c.parts[0]] = some (h ++ [⟨.own, [vi c.parts[0]]⟩]) := wrH_last rfl
      have hb : (h ++ [⟨.own, [vi c.parts[0]]⟩])[h.length]? = some ⟨.own, [vi c.parts[0]]⟩ := get_last _ _
      have cf := containsFh_eq (hp.keep (Keeps.append h [⟨.own, [vi c.parts[0]]⟩])).sl 309 [.ptr h.length 0] (fun n => decide (n ≠ c.parts[0])) (says1_eq hb)
      have hsb := saysB_first hn
      have hRR : R (.tup [.bool (saysB c), .bool true]) (h ++ [⟨.own, [vi c.parts[0]]⟩]) := hR _ _ ⟨by simp [saysR, hg], Keeps.append _ _⟩
      rw [hsb] at hRR
      by_cases q1 : c.parts[0] = 2 ∨ c.parts[0] = 3
      · simp [g206, fillL, upd, hp.cells, hp.cell, hh.cells, hh.cell, e0, i0, q0, ew, rdH_at hb, isOver_eq, q1, cf, -Bool.decide_or]
        simpa [q1, -Bool.decide_or] using hRR
      · simp [g206, fillL, upd, hp.cells, hp.cell, hh.cells, hh.cell, e0, i0, q0, ew, rdH_at hb, isOver_eq, q1, -Bool.decide_or]
        simpa [q1, -Bool.decide_or] using hRR
  obtain ⟨_, h', e, rfl, hk⟩ := this
  exact ⟨h', e, hk⟩
theorem all_one {l : List Int} {k : Int} : (l.all fun n => decide (k ≤ n ∧ n ≤ k)) = l.all fun n => decide (n = k) := by
  congr 1; funext n; congr 1; simp; omega
theorem SaysAllS_eq {h : Heap} {v : V} {c : Cm} {F : List Nat} (hc : CmV h v c F) : call p 210 [v] h = some (saysR c, h) := by
  refine go_eq (fn := g210) rfl rfl fun R hR => ?_
  have e0 := GoodCommitS_eq hc
  obtain ⟨x, y, F1, F2, rfl, rfl, hp, hh⟩ := hc
  cases hg : goodC c with
  | false =>
    rw [hg] at e0
    simp [g210, fillL, upd, hp.cells, hp.cell, hh.cells, hh.cell, e0]
    simpa [saysR, hg] using hR
  | true =>
    rw [hg] at e0
    have a2 := l1All_eq hp.sl 2 2
    have a3 := l1All_eq hp.sl 3 3
    rw [all_one] at a2 a3
    rw [show saysR c = .tup [.bool (saysB c), .bool true] by simp [saysR, hg]] at hR
    unfold saysB at hR
    cases q2 : c.parts.all fun n => decide (n = 2)
    · cases q3 : c.parts.all fun n => decide (n = 3) <;> rw [q2] at a2 hR <;> rw [q3] at a3 hR <;> simp only [g210] <;> simp [fillL, upd, hp.cells, hp.cell, hh.cells, hh.cell, e0, a2, a3] <;> simpa using hR
    · rw [q2] at a2 hR
      simp only [g210]
      simp [fillL, upd, hp.cells, hp.cell, hh.cells, hh.cell, e0, a2]
      simpa using hR

theorem PlayI_ok {h : Heap} {v : V} {l : List Tk} (n : Int) (hs : Sl h v l) : ∃ r h', call p 201 [vi n, v] h = some (r, h') ∧ ∃ w d G, r = .tup [w, d, .bool (decide ((1 ≤ n ∧ n ≤ 5) ∧ l.length ≤ 40))] ∧ CmV h' w (playR n l) G ∧ Sl h' d (playD n l) ∧ Keeps h h' ∧ h.length ≤ h'.length := by
  obtain ⟨_, h1, e1, w0, G0, rfl, c0, f0, k0, l0⟩ := NewCommitI_ok n h
  have c0' := c0
  obtain ⟨x0, y0, F1, F2, rfl, rfl, hp, hh⟩ := c0'
  refine go (fn := g201) rfl rfl fun R hR => ?_
  have kz : Keeps h1 (h1 ++ [⟨.own, [x0, y0, vi (newR n).word]⟩]) := Keeps.append h1 _
  have bad : ¬ ((1 ≤ n ∧ n ≤ 5) ∧ l.length ≤ 40) → ∀ h', Keeps h h' → h.length ≤ h'.length → R (.tup [.agg [.nils, .nils, vi 0], .nils, .bool false]) h' := fun hb h' hk hl =>
    hR _ _ ⟨.agg [.nils, .nils, vi 0], .nils, [], by rw [decide_eq_false hb], by simpa [playR, hb] using zC_v h', by simpa [playD, hb] using Sl.nil, hk, hl⟩
  have ew : wrH (h1 ++ [⟨.own, [.nils, .nils, vi 0]⟩]) h1.length 0 [x0, y0, vi (newR n).word] = some (h1 ++ [⟨.own, [x0, y0, vi (newR n).word]⟩]) := wrH_last rfl
  by_cases hn : 1 ≤ n ∧ n ≤ 5
  · by_cases hl : l.length ≤ 40
    · have hl' : ¬ (40 : Int) < l.length := by omega
      obtain ⟨k, rfl⟩ := Int.eq_ofNat_of_zero_le (show 0 ≤ n by omega)
      have hR' : ∀ w d G h', CmV h' w (playC (newC k) l) G → Sl h' d (didC (newC k) l) → Keeps h h' → h.length ≤ h'.length → R (.tup [w, d, .bool true]) h' := fun w d G h' a c e f =>
        hR _ _ ⟨w, d, G, by rw [decide_eq_true ⟨hn, hl⟩], by simpa [playR, hn, hl] using a, by simpa [playD, hn, hl] using c, e, f⟩
      have hnr : newR (k : Int) = newC k := by simp [newR, hn]
      have out : ∀ b ∈ F1 ++ F2, b ≠ h1.length := fun b hb e => by have := (f0.own b hb).lt; omega
      have cp : CmP (h1 ++ [⟨.own, [x0, y0, vi (newR k).word]⟩]) h1.length x0 y0 (newC k) F1 F2 := by
        rw [hnr] at hp hh ⊢
        exact ⟨by simp, hp.keep (Keeps.append h1 _), hh.keep (Keeps.append h1 _), ⟨fun hm => out _ (List.mem_append_left _ hm) rfl, fun hm => out _ (List.mem_append_right _ hm) rfl⟩, f0.nodup, fun b hb => (f0.own b hb).keeps ((Keeps.append h1 _).p fun _ => True) trivial⟩
      have cp1 : CmP (h1 ++ [⟨.own, [x0, y0, vi (newR k).word]⟩, ⟨.own, []⟩]) h1.length x0 y0 (newC k) F1 F2 := by
        have ka : Keeps (h1 ++ [⟨.own, [x0, y0, vi (newR k).word]⟩]) (h1 ++ [⟨.own, [x0, y0, vi (newR k).word]⟩, ⟨.own, []⟩]) := by
          have := Keeps.append (h1 ++ [⟨.own, [x0, y0, vi (newR k).word]⟩]) [⟨.own, []⟩]
          simpa using this
        exact ⟨ka _ _ cp.blk (by simp), cp.parts.keep ka, cp.heard.keep ka, cp.out, cp.nodup, fun b hb => (cp.own b hb).keeps (ka.p fun _ => True) trivial⟩
      simp [g201, fillL, upd, resV, mkV, e1, ew, hn, hl', hs.len, hp.cells, hp.cell, hh.cells, hh.cell, -Bool.decide_and]
      refine Wc_upM (M := [9, 11, 28, 29, 30, 31, 32, 33, 34, 35, 36, 37]) rfl l.length (fun i s => i ≤ l.length ∧ s.σ 28 = .v (vi i) ∧ s.L 4 = (1, [.nils, .nils, vi 0]) ∧ CmP s.h h1.length x0 y0 (playC (newC k) (l.take i)) F1 F2 ∧ ∃ d, s.σ 9 = .v d ∧ Out (h1.length + 1) s.h d (didC (newC k) (l.take i)) ∧ Keeps h s.h ∧ h.length ≤ s.h.length) 0
        ⟨by omega, by simp, by simp [upd], by simpa [playC] using cp1, .slice (h1.length + 1) 0 0 (.k 0), by simp, by simpa [didC] using Out.empty (Nat.le_refl _) (by simp), k0.trans (Keeps.append h1 _), by simp; omega⟩ fun i s ⟨gi, g28, gL4, hc, d, g9, ho, hk, hlen⟩ hM J hJ => ?_
      have hdim : dimC k (playC (newC k) (l.take i)) := playC_dim (newC_dim k) _
      obtain ⟨m1, m2, m3⟩ := hdim
      by_cases hi : i < l.length
      · have hs' := hs.keeps hk
        obtain ⟨_, h3, e3, rfl, c3, s3, l3⟩ := step_ok hc (by omega) l[i]
        have o3 : Out (h1.length + 1) h3 d (didC (newC k) (l.take i)) := ho.keeps s3 (fun b hb => ⟨by have := (ho.ge hb).1; omega, fun hm => by have := (ho.ge hb).1; have := (f0.own b hm).lt; omega⟩) (by omega)
        have k3 : Keeps h h3 := Keeps.far (n := h.length) hk s3 (Nat.le_refl _) fun b hb => ⟨by omega, fun hm => by have := f0.ge b hm; omega⟩
        obtain ⟨d', h4, e4, o4, k4, l4, b4⟩ := o3.oneT (stepC (playC (newC k) (l.take i)) l[i]).isSome (by rw [didC_len]; simp; omega)
        have k4' : Keeps h h4 := o3.far k3 k4 (by omega)
        have hti : l.take (i + 1) = l.take i ++ [l[i]] := List.take_succ_eq_append_getElem hi
        have hp1 : playC (newC k) (l.take (i + 1)) = (stepC (playC (newC k) (l.take i)) l[i]).getD (playC (newC k) (l.take i)) := by rw [hti, playC_snoc]
        have hd1 : didC (newC k) (l.take (i + 1)) = didC (newC k) (l.take i) ++ [(stepC (playC (newC k) (l.take i)) l[i]).isSome] := by rw [hti, didC_snoc]
        rw [← hd1] at o4
        rw [← hp1] at c3
        generalize hq : (stepC (playC (newC k) (l.take i)) l[i]).isSome = q at e3 e4
        simp [g201_0, hM, g28, g9, hi, hs'.idx, hs'.loadK, hs.step hi, e3, e4, rdS_last, fillL, upd]
        have nv : ∀ b, (b = h1.length ∨ b ∈ F1 ++ F2) → ¬ vB d b := fun b hb hv => by
          have := (ho.ge hv).1
          rcases hb with rfl | hb
          · omega
          · have := (f0.own b hb).lt; omega
        refine hJ _ hi ⟨hi, by simp, by simp [gL4], ⟨k4 _ _ (nv _ (.inl rfl)) c3.blk (by simp), c3.parts.keeps (k4.mono fun b hb => nv b (.inr (List.mem_append_left _ hb))), c3.heard.keeps (k4.mono fun b hb => nv b (.inr (List.mem_append_right _ hb))), c3.out, c3.nodup, fun b hb => (c3.own b hb).keeps k4 (nv b (.inr hb))⟩, d', by simp, o4, k4', by show h.length ≤ h4.length; omega⟩
      · have : i = l.length := by omega
        subst this
        rw [List.take_length] at hc ho
        simp [g201_0, hM, g28, g9, gL4, rdH_at hc.blk, fillL, upd, hp.cell, hh.cell, resV, mkV]
        exact hR' _ _ _ _ ⟨x0, y0, F1, F2, rfl, rfl, hc.parts, hc.heard⟩ ho.sl hk hlen
    · have hl' : (40 : Int) < l.length := by omega
      simp [g201, fillL, upd, resV, mkV, e1, ew, hn, hl', hs.len, hp.cells, hp.cell, hh.cells, hh.cell, -Bool.decide_and]
      exact bad (fun h => hl h.2) _ (k0.trans kz) (by simp; omega)
  · simp [g201, fillL, upd, resV, mkV, e1, ew, hn, hp.cells, hp.cell, hh.cells, hh.cell, -Bool.decide_and]
    exact bad (fun h => hn h.1) _ (k0.trans kz) (by simp; omega)
end GL

namespace GL
open Go

theorem has_eq {h : Heap} {v : V} {xs : List Int} (hs : Sl h v xs) (n : Int) : call p 204 [v, vi n] h = some (.bool (decide (n ∈ xs)), h) := by
  refine go_eq (fn := g204) rfl rfl fun R hR => ?_
  simp [g204, hs.len]
  refine Wc_upM (M := [4, 6, 9, 10, 11, 12, 13, 14, 15, 16]) rfl xs.length (fun i s => s.σ 9 = .v (vi i) ∧ s.h = h ∧ n ∉ xs.take i) 0 (by simp) fun i s ⟨g9, gh, hall⟩ hM J hJ => ?_
  by_cases hn : i < xs.length
  · by_cases he : xs[i] = n
    · have : n ∈ xs := by rw [← he]; simp
      simp [g204_0, hM, g9, gh, hn, hs.idx, hs.loadI, he]
      simpa [this] using hR
    · simp [g204_0, hM, g9, gh, hn, hs.idx, hs.loadI, he, hs.step hn]
      exact hJ _ hn ⟨by simp, rfl, by rw [mem_take_succ hn]; rintro (h | h); exact hall h; exact he h.symm⟩
  · rw [List.take_of_length_le (by omega)] at hall
    simp [g204_0, hM, g9, gh, hn]
    simpa [hall] using hR

theorem sameBools_eq {h : Heap} {v w : V} {xs : List Bool} (hs : Sl h v xs) (ht : Sl h w xs) : call p 203 [v, w] h = some (.bool true, h) := by
  refine go_eq (fn := g203) rfl rfl fun R hR => ?_
  simp [g203, hs.len, ht.len]
  refine Wc_upM (M := [4, 5, 13, 14, 15, 16, 17, 18, 19, 20, 21, 22, 23, 24, 25]) rfl xs.length (fun i s => s.σ 13 = .v (vi i) ∧ s.h = h) 0 (by simp) fun i s ⟨g13, gh⟩ hM J hJ => ?_
  by_cases hn : i < xs.length
  · simp [g203_0, hM, g13, gh, hn, hs.idx, hs.loadT, ht.idx, ht.loadT, hs.step hn]
    exact hJ _ hn ⟨by simp, rfl⟩
  · simp [g203_0, hM, g13, gh, hn]
    exact hR

theorem DrawGoodCommit_ok {h : Heap} {v : V} {bs : List Byte} (hs : Sl h v bs) : ∃ r h', call p 310 [v] h = some (r, h') ∧ ∃ (c : Cm) (G : List Nat), CmV h' r c G ∧ Keeps h h' := by
  obtain ⟨w, h1, e1, c, G, c1, g1, d1, k1, l1⟩ := (DC.start hs).commit (by decide)
  have c1' := c1
  obtain ⟨x, y, rfl, p1, p2, p3, p4⟩ := c1'.cells
  refine go (fn := g310) rfl rfl fun R hR => ?_
  simp [g310, fillL, upd, resV, mkV, hs.cells, hs.cell, e1, p1, p2, p3, p4]
  exact hR _ _ ⟨c, G, c1, d1.keep⟩
theorem DrawFinish_ok {h : Heap} {v : V} {bs : List Byte} (hs : Sl h v bs) : ∃ r h', call p 207 [v] h = some (r, h') ∧ ∃ (c : Cm) (G : List Nat), CmV h' r c G ∧ Keeps h h' := by
  obtain ⟨w, h1, e1, c, G, c1, k1⟩ := DrawGoodCommit_ok hs
  have c1' := c1
  obtain ⟨x, y, rfl, p1, p2, p3, p4⟩ := c1'.cells
  refine go (fn := g207) rfl rfl fun R hR => ?_
  simp [g207, fillL, upd, resV, mkV, e1, p1, p2, p3, p4]
  exact hR _ _ ⟨c, G, c1, k1⟩
theorem DrawSays_ok {h : Heap} {v : V} {bs : List Byte} (hs : Sl h v bs) : ∃ r h', call p 209 [v] h = some (r, h') ∧ ∃ (c : Cm) (G : List Nat), CmV h' r c G ∧ Keeps h h' := by
  obtain ⟨w, h1, e1, c, G, c1, k1⟩ := DrawGoodCommit_ok hs
  have c1' := c1
  obtain ⟨x, y, rfl, p1, p2, p3, p4⟩ := c1'.cells
  refine go (fn := g209) rfl rfl fun R hR => ?_
  simp [g209, fillL, upd, resV, mkV, e1, p1, p2, p3, p4]
  exact hR _ _ ⟨c, G, c1, k1⟩
theorem DrawPlay_ok {h : Heap} {v : V} {bs : List Byte} (hs : Sl h v bs) : ∃ r h', call p 200 [v] h = some (r, h') ∧ ∃ (n : Int) (w : V) (l : List Tk), r = .tup [vi n, w] ∧ Sl h' w l ∧ Keeps h h' := by
  obtain ⟨n, h1, e1, _, d1, k1, l1⟩ := (DC.start hs).amongL (by decide) [0, 1, 3, 4, 4, 5, 6] 7 rfl [vi 0, vi 1, vi 3, vi 4, vi 4, vi 5, vi 6] rfl (.k 7) (by decide) (by decide)
  obtain ⟨w, h2, e2, ts, ho, htl, d2, k2, l2⟩ := d1.talks (by decide)
  simp at e1
  refine go (fn := g200) rfl rfl fun R hR => ?_
  simp [g200, fillL, upd, resV, mkV, hs.cells, hs.cell, e1, e2]
  exact hR _ _ ⟨n, w, ts, rfl, ho.sl, d2.keep⟩

/-! the plain law -/
theorem goodC_new {n : Nat} (hn : 1 ≤ n ∧ n ≤ 5) : goodC (newC n) = true := by
  refine goodC_iff.2 ⟨by simpa [newC] using hn, by simp [newC], by simp [newC], fun i h1 h2 => ?_⟩
  simp [newC, okP]
theorem goodC_getD {c : Cm} {t : Tk} (hg : goodC c = true) : goodC ((stepC c t).getD c) = true := by
  cases hs : stepC c t with
  | none => exact hg
  | some m => exact goodC_step hg hs
theorem goodC_play {c : Cm} (hg : goodC c = true) (l : List Tk) : goodC (playC c l) = true := by
  induction l generalizing c with
  | nil => exact hg
  | cons t l ih => exact ih (goodC_getD hg)

/-- how often yes was said, and taken -/
def yesN (c : Cm) : List Tk → Nat
  | [] => 0
  | t :: l => (if (stepC c t).isSome = true ∧ t.kind = 1 then 1 else 0) + yesN ((stepC c t).getD c) l
theorem yesN_snoc (c : Cm) (l : List Tk) (t : Tk) : yesN c (l ++ [t]) = yesN c l + (if (stepC (playC c l) t).isSome = true ∧ t.kind = 1 then 1 else 0) := by
  induction l generalizing c with
  | nil => simp only [List.nil_append, yesN, Nat.add_zero, Nat.zero_add]; rfl
  | cons x l ih => simp only [List.cons_append, yesN, ih, Nat.add_assoc]; rfl
theorem yesN_le (c : Cm) (l : List Tk) : yesN c l ≤ l.length := by
  induction l generalizing c with
  | nil => simp [yesN]
  | cons x l ih => have := ih ((stepC c x).getD c); simp only [yesN, List.length_cons]; split <;> omega

theorem step_yes {c m : Cm} {t : Tk} (hg : goodC c = true) (hs : stepC c t = some m) : m.heard.count 1 = c.heard.count 1 + (if t.kind = 1 then 1 else 0) := by
  obtain ⟨g1, g2, g3, g4⟩ := goodC_iff.1 hg
  unfold stepC at hs
  split at hs
  · cases hs
  rename_i hpre
  have hp : 0 ≤ t.part ∧ t.part < c.parts.length := Classical.byContradiction fun h => hpre (.inl h)
  obtain ⟨k, hk⟩ := Int.eq_ofNat_of_zero_le hp.1
  have hkl : k < c.parts.length := by omega
  have hkh : k < c.heard.length := by omega
  have hgd : c.parts.getD k 0 = c.parts[k] := by simp [hkl]
  have ok := g4 k hkl hkh
  rw [hk] at hs
  simp only [Int.toNat_natCast, hgd] at hs
  split at hs
  · rename_i hk1
    split at hs
    · injection hs with hs; subst hs
      rename_i q
      have hne : c.heard[k] ≠ 1 := fun h => by unfold okP at ok; omega
      simp only [hk1, if_true]
      rw [List.count_set hkh]
      simp [hne]
    · cases hs
  rename_i hk1
  simp only [hk1, if_false, Nat.add_zero]
  split at hs
  · split at hs
    · injection hs with hs; subst hs
      rename_i q
      have hne : c.heard[k] ≠ 1 := fun h => by unfold okP at ok; omega
      simp only
      rw [List.count_set hkh]
      simp [hne]
    · cases hs
  split at hs
  · split at hs
    · injection hs with hs; subst hs; rfl
    · cases hs
  split at hs
  · split at hs
    · cases hs
    · injection hs with hs; subst hs; rfl
  split at hs
  · split at hs
    · injection hs with hs; subst hs; rfl
    · cases hs
  · cases hs

theorem play_yes {c : Cm} (hg : goodC c = true) (l : List Tk) : (playC c l).heard.count 1 = c.heard.count 1 + yesN c l := by
  induction l generalizing c with
  | nil => simp [playC, yesN]
  | cons t l ih =>
    have := ih (goodC_getD (t := t) hg)
    show (playC ((stepC c t).getD c) l).heard.count 1 = _
    rw [this]
    simp only [yesN]
    cases hs : stepC c t with
    | none => simp
    | some m =>
      have := step_yes hg hs
      simp only [Option.getD_some, Option.isSome_some, true_and]
      omega

/-- where one is done -/
theorem done_all {c : Cm} (hg : goodC c = true) (hd : (2 : Int) ∈ c.parts) : (3 : Int) ∉ c.parts ∧ c.heard.count 1 = c.parts.length := by
  obtain ⟨g1, g2, g3, g4⟩ := goodC_iff.1 hg
  obtain ⟨i, hi, e⟩ := List.getElem_of_mem hd
  have oi := g4 i hi (by omega)
  have hw : c.word = 1 := by unfold okP at oi; omega
  constructor
  · intro h3
    obtain ⟨j, hj, e3⟩ := List.getElem_of_mem h3
    have oj := g4 j hj (by omega)
    unfold okP at oj; omega
  · rw [← g2, List.count_eq_length]
    intro x hx
    obtain ⟨j, hj, rfl⟩ := List.getElem_of_mem hx
    have oj := g4 j (by omega) hj
    unfold okP at oj; omega

theorem fin_stays {c : Cm} (hg : goodC c = true) (l : List Tk) {i : Nat} {x : Int} (hx : c.parts[i]? = some x) (h2 : 2 ≤ x) : (playC c l).parts[i]? = some x := by
  induction l generalizing c with
  | nil => exact hx
  | cons t l ih =>
    show (playC ((stepC c t).getD c) l).parts[i]? = _
    refine ih (goodC_getD hg) ?_
    cases hs : stepC c t with
    | none => exact hx
    | some m =>
      have hl := (stepC_len hs).1
      obtain ⟨h1, e⟩ := List.getElem?_eq_some_iff.1 hx
      have := (stepC_stays hg hs).1 i h1 (by omega) (.inl (by rw [e]; exact h2))
      show m.parts[i]? = some x
      rw [List.getElem?_eq_getElem (by omega), this, e]

theorem fin1_over {c : Cm} (hg : goodC c = true) : ∀ i, i ≤ c.parts.length → goodC (fin1 c i) = true ∧ (fin1 c i).word ≠ 0 ∧ ∀ j (h : j < (fin1 c i).parts.length), j < i → (fin1 c i).parts[j] = 2 ∨ (fin1 c i).parts[j] = 3
  | 0, _ => by
    obtain ⟨g1, g2, g3, g4⟩ := goodC_iff.1 hg
    refine ⟨goodC_play hg _, ?_, fun j h hj => by omega⟩
    rw [fin1_zero, decide_step (by omega)]
    simp only
    split
    · split <;> decide
    · assumption
  | i + 1, hi => by
    obtain ⟨h1, h2, h3⟩ := fin1_over hg i (by omega)
    have hd := fin1_dim (goodC_dim hg) i
    have hil : i < (fin1 c i).parts.length := by rw [hd.1]; omega
    refine ⟨goodC_play hg _, ?_, ?_⟩
    · rw [fin1_succ, tell_step hil]
      split
      · exact h2
      · exact h2
    · rw [fin1_succ, tell_step hil]
      split
      · rename_i q
        intro j hj hji
        by_cases e : j = i
        · subst e
          rcases q with q | q
          · exact q
          · exact absurd q h2
        · exact h3 j hj (by omega)
      · intro j hj hji
        simp only at hj ⊢
        rw [List.getElem_set]
        split
        · split
          · exact .inr rfl
          · exact .inl rfl
        · rename_i e
          exact h3 j (by simpa using hj) (by omega)

theorem finish_says {c : Cm} (hg : goodC c = true) : goodC (finishC c) = true ∧ saysB (finishC c) = true ∧ (finishC c).parts.length = c.parts.length := by
  obtain ⟨h1, h2, h3⟩ := fin1_over hg c.parts.length (Nat.le_refl _)
  have hd := fin1_dim (goodC_dim hg) c.parts.length
  change goodC (fin1 c c.parts.length) = true ∧ saysB (fin1 c c.parts.length) = true ∧ (fin1 c c.parts.length).parts.length = c.parts.length
  refine ⟨h1, ?_, hd.1⟩
  obtain ⟨g1, g2, g3, g4⟩ := goodC_iff.1 h1
  generalize fin1 c c.parts.length = m at *
  simp only [saysB, Bool.or_eq_true, List.all_eq_true, decide_eq_true_eq]
  by_cases hw : m.word = 1
  · refine .inl fun x hx => ?_
    obtain ⟨j, hj, rfl⟩ := List.getElem_of_mem hx
    have := h3 j hj (by have := hd.1; omega)
    have oj := g4 j hj (by omega)
    unfold okP at oj; omega
  · refine .inr fun x hx => ?_
    obtain ⟨j, hj, rfl⟩ := List.getElem_of_mem hx
    have := h3 j hj (by have := hd.1; omega)
    have oj := g4 j hj (by omega)
    unfold okP at oj; omega
end GL

namespace GL
open Go

theorem didC_get (c : Cm) (l : List Tk) {i : Nat} (hi : i < l.length) (h2 : i < (didC c l).length) : (didC c l)[i] = (stepC (playC c (l.take i)) l[i]).isSome := by
  induction l generalizing c i with
  | nil => simp at hi
  | cons t l ih =>
    cases i with
    | zero => rfl
    | succ i => exact ih _ (by simpa using hi) (by simpa [didC] using h2)

theorem FnCommit_tail {h h1 : Heap} {vb : V} {bs : List Byte} (hb : Sl h vb bs) (k1 : Keeps h h1) :
    ∃ (u x1 x2 x3 x4 : V) (w1 w2 : Int) (g1 : Bool) (h2 h3 h4 h5 h6 : Heap) (y1 y2 y3 y4 : V) (s1 s2 : Bool) (wu wv : Int) (x5 x6 x7 x8 : V), call p 207 [vb] h1 = some (.agg [x5, x6, vi wu], h2) ∧ call p 205 [.agg [x5, x6, vi wu]] h2 = some (.tup [.agg [x1, x2, vi w1], .bool g1], h3) ∧ call p 208 [.agg [x5, x6, vi wu]] h3 = some (.tup [.agg [x3, x4, vi w2], .bool g1], h4) ∧
      call p 209 [vb] h4 = some (.agg [x7, x8, vi wv], h5) ∧ call p 206 [.agg [x7, x8, vi wv]] h5 = some (.tup [.bool s1, .bool s2], h6) ∧ call p 210 [.agg [x7, x8, vi wv]] h6 = some (.tup [.bool s1, .bool s2], h6) ∧ call p 190 [.agg [x1, x2, vi w1], .agg [x3, x4, vi w2]] h6 = some (.bool true, h6) ∧
      (∀ x ∈ [x1, x2, x3, x4, x5, x6, x7, x8], x.cells = [x] ∧ x.cell = true) := by
  obtain ⟨_, h2, e2, c, G, c2, k2⟩ := DrawFinish_ok (hb.keeps k1)
  obtain ⟨_, h3, e3, w3, G3, rfl, c3, f3, k3, l3⟩ := FinishI_ok c2
  obtain ⟨_, h4, e4, w4, G4, rfl, c4, f4, k4, l4⟩ := FinishS_ok (c2.keep k3)
  obtain ⟨_, h5, e5, d, G5, c5, k5⟩ := DrawSays_ok (hb.keeps (((k1.trans k2).trans k3).trans k4))
  obtain ⟨h6, e6, k6⟩ := SaysAllI_ok c5
  have e7 := SaysAllS_eq (c5.keep k6)
  have e8 := sameCommit_eq (((c3.keep k4).keep k5).keep k6) ((c4.keep k5).keep k6)
  simp at e8
  obtain ⟨x5, x6, rfl, p1, p2, p3, p4⟩ := c2.cells
  obtain ⟨x1, x2, rfl, q1, q2, q3, q4⟩ := c3.cells
  obtain ⟨x3, x4, rfl, r1, r2, r3, r4⟩ := c4.cells
  obtain ⟨x7, x8, rfl, t1, t2, t3, t4⟩ := c5.cells
  obtain ⟨s1, s2, hs⟩ : ∃ s1 s2, saysR d = .tup [.bool s1, .bool s2] := by
    unfold saysR; split
    · exact ⟨_, _, rfl⟩
    · exact ⟨_, _, rfl⟩
  rw [hs] at e6 e7
  refine ⟨.nils, x1, x2, x3, x4, _, _, goodC c, h2, h3, h4, h5, h6, .nils, .nils, .nils, .nils, s1, s2, _, _, x5, x6, x7, x8, e2, e3, e4, e5, e6, e7, e8, ?_⟩
  intro x hx
  simp at hx
  rcases hx with rfl | rfl | rfl | rfl | rfl | rfl | rfl | rfl
  · exact ⟨q1, q2⟩
  · exact ⟨q3, q4⟩
  · exact ⟨r1, r2⟩
  · exact ⟨r3, r4⟩
  · exact ⟨p1, p2⟩
  · exact ⟨p3, p4⟩
  · exact ⟨t1, t2⟩
  · exact ⟨t3, t4⟩

set_option maxRecDepth 20000 in
set_option maxHeartbeats 4000000 in
theorem FnCommit_ok {h : Heap} {va vb : V} {as bs : List Byte} (ha : Sl h va as) (hb : Sl h vb bs) : ∃ r h', call p 199 [va, vb] h = some (r, h') ∧ r = .bool true := by
  obtain ⟨_, h1, e1, n, w, l, rfl, hl, k1⟩ := DrawPlay_ok ha
  obtain ⟨_, h2, e2, wI, dI, G2, rfl, c2, d2, k2, l2⟩ := PlayI_ok n hl
  obtain ⟨_, h3, e3, wS, dS, G3, rfl, c3, f3, d3, k3, l3⟩ := PlayS_ok n (hl.keeps k2)
  have cI := c2.keep k3
  have dI' := d2.keeps k3
  have e4 := sameBools_eq dI' d3
  have e5 := sameCommit_eq cI c3
  simp at e5
  have k13 := (k1.trans k2).trans k3
  refine go (fn := g199) rfl rfl fun R hR => ?_
  by_cases hbig : (1048576 : Int) < IntKind.i64.wrap ((as.length : Int) + bs.length)
  · simp [g199, ha.len, hb.len, hbig]
    exact hR _ _ rfl
  · by_cases hok : (1 ≤ n ∧ n ≤ 5) ∧ l.length ≤ 40
    · obtain ⟨k, rfl⟩ := Int.eq_ofNat_of_zero_le (show 0 ≤ n by omega)
      have hk5 : 1 ≤ k ∧ k ≤ 5 := by omega
      have hplay : playR (k : Int) l = playC (newC k) l := by simp [playR, hok]
      have hplayD : playD (k : Int) l = didC (newC k) l := by simp [playD, hok]
      rw [hplay] at cI c3
      rw [hplayD] at dI'
      rw [decide_eq_true hok] at e2 e3
      have gN := goodC_new hk5
      have gC := goodC_play gN l
      have hdim := playC_dim (newC_dim k) l
      have hyes := play_yes gN l
      have hy0 : (newC k).heard.count 1 = 0 := by simp [newC, List.count_replicate]
      rw [hy0, Nat.zero_add] at hyes
      obtain ⟨_, h4, f4, wF, GF, rfl, cF, fF, k4, l4⟩ := FinishI_ok cI
      have hfr : finishR (playC (newC k) l) = finishC (playC (newC k) l) := by simp [finishR, gC]
      rw [hfr] at cF
      obtain ⟨h5, f5, k5⟩ := SaysAllI_ok cF
      obtain ⟨fs1, fs2, fs3⟩ := finish_says gC
      have hsr : saysR (finishC (playC (newC k) l)) = .tup [.bool true, .bool true] := by simp [saysR, fs1, fs2]
      rw [hsr] at f5
      rw [gC] at f4
      have cI5 := (cI.keep k4).keep k5
      have cF5 := cF.keep k5
      have f6 := GoodCommit_eq cI5
      have f7 := GoodCommit_eq cF5
      rw [gC] at f6
      rw [fs1] at f7
      have stay : ∀ (i : Nat) (x : Int), (playC (newC k) l).parts[i]? = some x → 2 ≤ x → (finishC (playC (newC k) l)).parts[i]? = some x := fun i x hx h2 => fin_stays gC _ hx h2
      have dall := done_all (c := playC (newC k) l) gC
      generalize hc : playC (newC k) l = c at *
      generalize finishC c = f at *
      obtain ⟨xS, yS, rfl, v1, v2, v3, v4⟩ := c3.cells
      have cI0 := cI
      obtain ⟨xI, yI, A1, A2, rfl, rfl, pI, qI⟩ := cI
      obtain ⟨xF, yF, B1, B2, rfl, rfl, pF, qF⟩ := cF5
      have pI5 := (pI.keep k4).keep k5
      have g2 := has_eq pI.sl 2
      have g3 := has_eq pI5.sl 3
      obtain ⟨_, x1, x2, x3, x4, w1, w2, gg, t2, t3, t4, t5, t6, _, _, _, _, s1, s2, wu, wv, x5, x6, x7, x8, z1, z2, z3, z4, z5, z6, z7, zc⟩ := FnCommit_tail hb ((k13.trans k4).trans k5)
      simp only [List.mem_cons, List.not_mem_nil, or_false, forall_eq_or_imp, forall_eq] at zc
      obtain ⟨⟨a1, b1⟩, ⟨a2, b2⟩, ⟨a3, b3⟩, ⟨a4, b4⟩, ⟨a5, b5⟩, ⟨a6, b6⟩, ⟨a7, b7⟩, ⟨a8, b8⟩⟩ := zc
      have hl3 := hl.keeps (k2.trans k3)
      simp [g199, ha.len, hb.len, hbig, fillL, upd, resV, mkV, e1, e2, e3, e4, e5, pI.cells, pI.cell, qI.cells, qI.cell, v1, v2, v3, v4, g2, hl3.len]
      refine Wc_upM (M := [14, 15, 16, 79, 80, 81, 82, 83, 84, 85, 86, 87, 88, 89, 90, 91, 92, 93, 94, 95]) rfl l.length (fun i s => i ≤ l.length ∧ s.σ 79 = .v (vi i) ∧ s.σ 14 = .v (vi (yesN (newC k) (l.take i))) ∧ s.h = h3 ∧ s.L 7 = (1, [xI, yI, vi c.word])) 0
        ⟨by omega, by simp, by simp [yesN], rfl, by simp [upd]⟩ fun i s ⟨gi, g79, g14, gh, gL7⟩ hM J hJ => ?_
      by_cases hi : i < l.length
      · have hid : i < (didC (newC k) l).length := by rw [didC_len]; exact hi
        have hdg := didC_get (newC k) l hi hid
        have hys := yesN_snoc (newC k) (l.take i) l[i]
        rw [← List.take_succ_eq_append_getElem hi] at hys
        have hyl := yesN_le (newC k) (l.take i)
        have hyl2 : (l.take i).length = i := by simp; omega
        have hbl := hl.bd
        have wy : IntKind.i64.wrap ((yesN (newC k) (l.take i) : Int) + 1) = (yesN (newC k) (l.take i) + 1 : Nat) := by rw [IntWalk.i64_in] <;> omega
        cases hdi : (stepC (playC (newC k) (l.take i)) l[i]).isSome with
        | true =>
          rw [hdi] at hdg hys
          by_cases hk1 : l[i].kind = 1
          · simp [g199_0, hM, g79, g14, gh, gL7, hi, hid, hl3.idx, hl3.loadK, dI'.idx, dI'.loadT, hdg, hk1, wy, hl.step hi, upd, -Int.natCast_add]
            exact hJ _ hi ⟨hi, by simp, by simp [hys, hk1], rfl, by simp [upd, gL7]⟩
          · simp [g199_0, hM, g79, g14, gh, gL7, hi, hid, hl3.idx, hl3.loadK, dI'.idx, dI'.loadT, hdg, hk1, hl.step hi, upd]
            exact hJ _ hi ⟨hi, by simp, by simp [hys, hk1, g14], rfl, by simp [upd, gL7]⟩
        | false =>
          rw [hdi] at hdg hys
          simp [g199_0, hM, g79, g14, gh, gL7, hi, hid, hl3.idx, hl3.loadK, dI'.idx, dI'.loadT, hdg, hl.step hi, upd]
          exact hJ _ hi ⟨hi, by simp, by simp [hys, g14], rfl, by simp [upd, gL7]⟩
      · have : i = l.length := by omega
        subst this
        rw [List.take_length, ← hyes] at g14
        have hlen : c.parts.length = k := hdim.1
        have done : (2 : Int) ∈ c.parts → (3 : Int) ∉ c.parts ∧ c.heard.count 1 = k := fun h => by rw [← hlen]; exact dall h
        have lenF : f.parts.length = k := by rw [fs3, hlen]
        -- what stands behind the checks
        have loop2 : ∀ (g : Nat) (s0 : S) (K : Ex → S → Prop), s0.σ 152 = .v xI → s0.σ 153 = .v (vi k) → s0.σ 154 = .v (vi 0) → s0.σ 1 = .v vb → s0.σ 17 = .lp 17 g 0 → s0.L 17 = (g, [xF, yF, vi f.word]) → s0.h = h5 → (∀ s', s'.σ 1 = .v vb → s'.h = h5 → K (.exit 2) s') → Wc p (.loop g199_1) s0 K := fun g s0 K g152 g153 g154 g1 g17 gL17 gh5 hK => by
          refine Wc_upM (M := [4, 21, 22, 154, 155, 156, 157, 158, 159, 160, 161, 162, 163, 164, 165, 166, 167, 168, 169, 170]) rfl k (fun i s => s.σ 154 = .v (vi i) ∧ s.h = h5 ∧ s.L 17 = (g, [xF, yF, vi f.word])) 0 ⟨g154, gh5, gL17⟩ fun i s ⟨g154, gh5, gL17⟩ hM J hJ => ?_
          by_cases hi : i < k
          · have hic : i < c.parts.length := by omega
            have hif : i < f.parts.length := by omega
            have w2 : IntKind.i64.wrap ((i : Int) + 1) = (i + 1 : Nat) := by rw [IntWalk.i64_in] <;> omega
            by_cases q : 2 ≤ c.parts[i]
            · have st := stay i c.parts[i] (List.getElem?_eq_getElem hic) q
              rw [List.getElem?_eq_getElem hif] at st
              injection st with st
              simp [g199_1, hM, g152, g153, g154, g17, gh5, gL17, hi, hic, hif, pI5.idx, pI5.sl.loadI, pF.idx, pF.sl.loadI, q, st, w2, -Int.natCast_add]
              exact hJ _ hi ⟨by simp, rfl, by simp [gL17]⟩
            · simp [g199_1, hM, g152, g153, g154, g17, gh5, gL17, hi, hic, hif, pI5.idx, pI5.sl.loadI, q, w2, -Int.natCast_add]
              exact hJ _ hi ⟨by simp, rfl, by simp [gL17]⟩
          · simp [g199_1, hM, g152, g153, g154, hi]
            exact hK _ (by simp [hM, g1]) (by simp [gh5])
        by_cases hd : (2 : Int) ∈ c.parts
        · obtain ⟨n3, n1⟩ := done hd
          simp [g199_0, hM, g79, g14, gh, gL7, fillL, upd, resV, mkV, f4, f5, f6, f7, g3, hd, n3, n1, pI.cells, pI.cell, qI.cells, qI.cell, pF.cells, pF.cell, qF.cells, qF.cell, pI5.len, pF.len, hlen, lenF]
          refine loop2 ((s.L 17).1 + 1) _ _ (by simp) (by simp) (by simp) (by simp [hM]) (by simp) (by simp [upd]) (by simp) fun s' g1 gh5 => ?_
          simp [g1, gh5, fillL, upd, resV, mkV, z1, z2, z3, z4, z5, z6, z7, a1, a2, a3, a4, a5, a6, a7, a8, b1, b2, b3, b4, b5, b6, b7, b8]
          exact hR _ _ rfl
        · simp [g199_0, hM, g79, g14, gh, gL7, fillL, upd, resV, mkV, f4, f5, f6, f7, hd, pI.cells, pI.cell, qI.cells, qI.cell, pF.cells, pF.cell, qF.cells, qF.cell, pI5.len, pF.len, hlen, lenF]
          refine loop2 ((s.L 17).1 + 1) _ _ (by simp) (by simp) (by simp) (by simp [hM]) (by simp) (by simp [upd]) (by simp) fun s' g1 gh5 => ?_
          simp [g1, gh5, fillL, upd, resV, mkV, z1, z2, z3, z4, z5, z6, z7, a1, a2, a3, a4, a5, a6, a7, a8, b1, b2, b3, b4, b5, b6, b7, b8]
          exact hR _ _ rfl
    · rw [decide_eq_false hok] at e2 e3
      obtain ⟨_, x1, x2, x3, x4, w1, w2, gg, t2, t3, t4, t5, t6, _, _, _, _, s1, s2, wu, wv, x5, x6, x7, x8, z1, z2, z3, z4, z5, z6, z7, zc⟩ := FnCommit_tail hb k13
      simp only [List.mem_cons, List.not_mem_nil, or_false, forall_eq_or_imp, forall_eq] at zc
      obtain ⟨⟨a1, b1⟩, ⟨a2, b2⟩, ⟨a3, b3⟩, ⟨a4, b4⟩, ⟨a5, b5⟩, ⟨a6, b6⟩, ⟨a7, b7⟩, ⟨a8, b8⟩⟩ := zc
      obtain ⟨xS, yS, rfl, v1, v2, v3, v4⟩ := c3.cells
      obtain ⟨xI, yI, rfl, u1, u2, u3, u4⟩ := cI.cells
      simp [g199, ha.len, hb.len, hbig, fillL, upd, resV, mkV, e1, e2, e3, e4, e5, u1, u2, u3, u4, v1, v2, v3, v4, z1, z2, z3, z4, z5, z6, z7, a1, a2, a3, a4, a5, a6, a7, a8, b1, b2, b3, b4, b5, b6, b7, b8]
      exact hR _ _ rfl
end GL

