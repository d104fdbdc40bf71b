import Derived.ChangeArms
import Derived.IntWalk
import Derived.WideShapes
import Derived.Test.YtflbkhbfbcbcoaaGp
/- What the functions of the law do, on the machine. -/
set_option linter.unusedSimpArgs false
set_option linter.unusedVariables false
set_option linter.unnecessarySimpa false
/-! truths -/
namespace GL
open Go

@[simp] theorem within_eq (n lo hi : Int) (h : Heap) : call p 107 [vi n, vi lo, vi hi] h = some (.bool (decide (lo ≤ n ∧ n ≤ hi)), h) := by
  apply W_eq
  refine call_W (fn := g107) rfl rfl ?_
  by_cases h1 : lo ≤ n <;> simp [g107, h1]

@[simp] theorem l1In_eq (n lo hi : Int) (h : Heap) : call p 98 [vi n, vi lo, vi hi] h = some (.bool (decide (lo ≤ n ∧ n ≤ hi)), h) := by
  apply W_eq
  refine call_W (fn := g98) rfl rfl ?_
  by_cases h1 : lo ≤ n <;> simp [g98, h1]

def isT (n : Int) : Prop := 0 ≤ n ∧ n ≤ 2
instance (n : Int) : Decidable (isT n) := inferInstanceAs (Decidable (_ ∧ _))

end GL

/-! the cursor of the draws -/
namespace GL
open Go

/-- a cursor at block c: what it holds, and how far it has come at most -/
def Cur (h : Heap) (c N : Nat) : Prop := ∃ (v : V) (bs : List Byte) (n : Nat) (sd : Int), h[c]? = some ⟨.own, [v, vi n, .int .u64 sd]⟩ ∧ Sl h v bs ∧ (bs = [] ∨ bOf v < c) ∧ n ≤ N

theorem Cur.mono {h : Heap} {c N M : Nat} (hc : Cur h c N) (hn : N ≤ M) : Cur h c M := by
  obtain ⟨v, bs, n, sd, h1, h2, h3, h4⟩ := hc
  exact ⟨v, bs, n, sd, h1, h2, h3, by omega⟩

theorem Cur.keeps {h h' : Heap} {c N : Nat} (hc : Cur h c N) (hk : Keeps h h') : Cur h' c N := by
  obtain ⟨v, bs, n, sd, h1, h2, h3, h4⟩ := hc
  exact ⟨v, bs, n, sd, hk _ _ h1 (by simp), h2.keeps hk, h3, h4⟩

theorem Cur.lt {h : Heap} {c N : Nat} (hc : Cur h c N) : c < h.length := by
  obtain ⟨_, _, _, _, h1, _⟩ := hc; exact get_lt h1

theorem Cur.keepsP {h h' : Heap} {c N : Nat} {P : Nat → Prop} (hc : Cur h c N) (hk : KeepsP P h h') (hp : ∀ i, i ≤ c → P i) : Cur h' c N := by
  obtain ⟨v, bs, n, sd, h1, h2, h3, h4⟩ := hc
  refine ⟨v, bs, n, sd, hk _ _ (hp _ (Nat.le_refl _)) h1 (by simp), ?_, h3, h4⟩
  refine ⟨h2.1, ?_⟩
  rcases h2.2 with hs | ⟨b, off, cap, hv, hs⟩
  · exact .inl hs
  · refine .inr ⟨b, off, cap, hv, ?_⟩
    rcases hs with hs | ⟨blk, h6, h7, h8⟩
    · exact .inl hs
    · subst hv
      rcases h3 with h5 | h5
      · exact .inl h5
      · exact .inr ⟨blk, hk _ _ (hp _ (Nat.le_of_lt h5)) h6 h7, h7, h8⟩

theorem Cur.set {h : Heap} {c N n : Nat} {v : V} {bs : List Byte} {nb : Blk} {sd sd' : Int} (h1 : h[c]? = some ⟨.own, [v, vi n, .int .u64 sd]⟩) (h2 : Sl h v bs) (h3 : bs = [] ∨ bOf v < c) (hn : n ≤ N)
    (hb : nb = ⟨.own, [v, vi (n + 1 : Nat), .int .u64 sd']⟩) : Cur (h.set c nb) c (N + 1) := by
  subst hb
  exact ⟨v, bs, n + 1, sd', by simp [get_lt h1], h2.but (h3.imp_right Nat.ne_of_lt) (KeepsBut.set _ _ _), h3, by omega⟩

theorem mod_byte (k : Nat) : ∃ x : Nat, x ≤ 255 ∧ IntKind.i64.wrap (IntKind.u64.wrap ((k &&& 255 % 2 ^ IntKind.u64.bits : Nat) : Int)) = x := by
  have h1 : 255 % 2 ^ IntKind.u64.bits = 2 ^ 8 - 1 := by decide
  refine ⟨k % 256, by omega, ?_⟩
  rw [h1, Nat.and_two_pow_sub_one_eq_mod, IntWalk.u64_in _ (by omega), IntWalk.i64_in _ (by omega)]

theorem next_ok {h : Heap} {c N : Nat} (hc : Cur h c N) (hN : N < 2 ^ 62) : ∃ v h', call p 140 [.ptr c 0] h = some (v, h') ∧ ∃ x : Nat, v = vi x ∧ x ≤ 255 ∧ Cur h' c (N + 1) ∧ KeepsBut c h h' ∧ h'.length = h.length := by
  obtain ⟨v, bs, n, sd, h1, h2, h3, h4⟩ := hc
  refine go (fn := g140) rfl rfl fun R hR => ?_
  have hlt := get_lt h1
  have hw : IntKind.i64.wrap ((n : Int) + 1) = (n + 1 : Nat) := by rw [IntWalk.i64_in] <;> omega
  by_cases hn : n < bs.length
  · have hb0 := bs[n].lt
    have hw2 : IntKind.i64.wrap (bs[n].n : Int) = bs[n].n := IntWalk.i64_in _ (by omega)
    have hle : ((n : Int) + 1) ≤ bs.length := by omega
    simp [g140, rdH_at h1, wrH_at h1, rdH_set hlt, wrH_set hlt, h2.len, h2.idx, hn, h2.loadB, hw, hw2, hle]
    exact hR _ _ ⟨bs[n].n, rfl, by omega, Cur.set h1 h2 h3 h4 rfl, KeepsBut.set _ _ _, by simp⟩
  · have hle : ¬ ((n : Int) + 1) ≤ bs.length := by omega
    simp [g140, rdH_at h1, wrH_at h1, rdH_set hlt, wrH_set hlt, h2.len, hn, hw, hle, -Int.natCast_emod]
    obtain ⟨x, hx1, hx2⟩ := mod_byte (((IntKind.u64.wrap (IntKind.u64.wrap (IntKind.u64.wrap (sd * 6364136223846793005) + IntKind.u64.wrap 0) + 1442695040888963407)).fdiv (2 ^ min 40 IntKind.u64.bits) % 2 ^ IntKind.u64.bits).toNat)
    exact hR _ _ ⟨x, by rw [hx2], hx1, Cur.set h1 h2 h3 h4 rfl, KeepsBut.set _ _ _, by simp⟩

theorem pick_ok {h : Heap} {c N n : Nat} (hc : Cur h c N) (hN : N < 2 ^ 61) (hn : n < 2 ^ 40) :
    ∃ v h', call p 91 [.ptr c 0, vi n] h = some (v, h') ∧ ∃ x : Nat, v = vi x ∧ x < max n 1 ∧ Cur h' c (N + 2) ∧ KeepsBut c h h' ∧ h'.length = h.length := by
  refine go (fn := g91) rfl rfl fun R hR => ?_
  by_cases h1 : n ≤ 1
  · have h1' : (n : Int) ≤ 1 := by omega
    simp [g91, h1']
    exact hR _ _ ⟨0, rfl, by omega, hc.mono (by omega), KeepsBut.refl _ _, rfl⟩
  · have h1' : ¬ (n : Int) ≤ 1 := by omega
    obtain ⟨_, h2, e1, x, rfl, hx, c1, k1, l1⟩ := next_ok hc (by omega)
    have h0 : ¬ n = 0 := by omega
    by_cases h2 : 200 < n
    · have h2' : (200 : Int) < n := by omega
      obtain ⟨_, h3, e2, y, rfl, hy, c2, k2, l2⟩ := next_ok c1 (by omega)
      have w1 : IntKind.i64.wrap ((x : Int) * 256) = (x * 256 : Nat) := by rw [IntWalk.i64_in] <;> omega
      have w2 : IntKind.i64.wrap (((x * 256 : Nat) : Int) + y) = (x * 256 + y : Nat) := by rw [IntWalk.i64_in] <;> omega
      have w3 : (((x * 256 + y : Nat) : Int)).tmod n = ((x * 256 + y) % n : Nat) := by rw [Int.tmod_eq_emod_of_nonneg (by omega)]; rfl
      simp [g91, h1', e1, h2', e2, w1, w2, h0, w3, -Int.natCast_mul, -Int.natCast_add, -Int.natCast_emod]
      exact hR _ _ ⟨(x * 256 + y) % n, rfl, by have := Nat.mod_lt (x * 256 + y) (show n > 0 by omega); omega, c2, k1.trans k2, by omega⟩
    · have h2' : ¬ (200 : Int) < n := by omega
      have w3 : ((x : Int)).tmod n = (x % n : Nat) := by rw [Int.tmod_eq_emod_of_nonneg (by omega)]; rfl
      simp [g91, h1', e1, h2', h0, w3, -Int.natCast_emod]
      exact hR _ _ ⟨x % n, rfl, by have := Nat.mod_lt x (show n > 0 by omega); omega, c1.mono (by omega), k1, by omega⟩

theorem one_ok {h : Heap} {c N n : Nat} (hc : Cur h c N) (hN : N < 2 ^ 61) (hn : n < 2 ^ 40) :
    ∃ v h', call p 92 [.ptr c 0, vi n] h = some (v, h') ∧ ∃ b : Bool, v = .bool b ∧ Cur h' c (N + 2) ∧ KeepsBut c h h' ∧ h'.length = h.length := by
  obtain ⟨_, h2, e1, x, rfl, hx, c1, k1, l1⟩ := pick_ok hc hN hn
  refine go (fn := g92) rfl rfl fun R hR => ?_
  simp [g92, e1]
  exact hR _ _ ⟨_, rfl, c1, k1, l1⟩

theorem among_ok {h : Heap} {c N : Nat} {v : V} {xs : List Int} (hc : Cur h c N) (hN : N < 2 ^ 61) (hs : Sl h v xs) (hb : bOf v ≠ c) (h0 : 0 < xs.length) (hn : xs.length < 2 ^ 40) :
    ∃ r h', call p 93 [.ptr c 0, v] h = some (r, h') ∧ ∃ x ∈ xs, r = vi x ∧ Cur h' c (N + 2) ∧ KeepsBut c h h' ∧ h'.length = h.length := by
  obtain ⟨_, h2, e1, i, rfl, hi, c1, k1, l1⟩ := pick_ok hc hN hn
  have hs2 := hs.but (.inr hb) k1
  have hi' : i < xs.length := by omega
  refine go (fn := g93) rfl rfl fun R hR => ?_
  simp [g93, hs.len, e1, hs2.idx, hi', hs2.loadI]
  exact hR _ _ ⟨xs[i], by simp, rfl, c1, k1, l1⟩
end GL

namespace GL
open Go

theorem drawTwo {h : Heap} {v : V} {bs : List Byte} (hs : Sl h v bs) : Cur (h ++ [⟨.own, [v, vi 0, .int .u64 0]⟩]) h.length 0 := by
  refine ⟨v, bs, 0, 0, by simp, hs.keeps (Keeps.append h _), ?_, Nat.le_refl _⟩
  rcases hs.2 with ⟨_, h1⟩ | ⟨b, off, cap, rfl, h1 | ⟨blk, h1, _⟩⟩
  · exact .inl h1
  · exact .inl h1
  · exact .inr (get_lt h1)

end GL

namespace GL
open Go

end GL

namespace GL
open Go

theorem KeepsBut.out {c lo : Nat} {h h' : Heap} {α : Type} [Flat α] {v : V} {xs : List α} (hk : KeepsBut c h h') (ho : Out lo h v xs) (hc : c < lo) (hl : h.length ≤ h'.length) : Out lo h' v xs :=
  ho.keeps (P := fun i => i ≠ c) (fun b blk hb h1 h2 => hk b blk hb h1 h2) (fun i hi => by have := (ho.ge hi).1; omega) hl

theorem Keeps.out {lo : Nat} {h h' : Heap} {α : Type} [Flat α] {v : V} {xs : List α} (hk : Keeps h h') (ho : Out lo h v xs) (hl : h.length ≤ h'.length) : Out lo h' v xs :=
  ho.keeps (P := fun _ => True) (fun b blk _ h1 h2 => hk b blk h1 h2) (fun _ _ => trivial) hl

/-- nothing that stood at first is touched -/
theorem Keeps.far {n : Nat} {h0 h h' : Heap} {P : Nat → Prop} (h1 : Keeps h0 h) (hk : KeepsP P h h') (hn : h0.length ≤ n) (hp : ∀ i, i < n → P i) : Keeps h0 h' := fun i blk hi hl =>
  hk i blk (hp i (by have := get_lt hi; omega)) (h1 i blk hi hl) hl
theorem KeepsBut.P {c : Nat} {h h' : Heap} (hk : KeepsBut c h h') : KeepsP (fun i => i ≠ c) h h' := fun b blk hb h1 h2 => hk b blk hb h1 h2

theorem Sl.lit {h : Heap} {α : Type} [Flat α] (l : List α) (n : Nat) (hn : n = l.length) (cs : List V) (hc : cs = flats l) (cap : Cap) (hb : l.length < 2 ^ 63) : Sl (h ++ [⟨.own, cs⟩]) (.slice h.length 0 n cap) l := by
  subst hn; subst hc
  exact Sl.whole _ (get_last _ _) (by simp) rfl hb

def DI (h0 : Heap) (k : Nat) (s : S) : Prop :=
  k ≤ 30 ∧ s.σ 5 = .v (vi k) ∧ s.σ 3 = .v (.ptr h0.length 0) ∧ ∃ v xs, s.σ 4 = .v v ∧ Out (h0.length + 1) s.h v (xs : List Int) ∧ xs.length ≤ 30 - k ∧ Cur s.h h0.length (1000 - 2 * k) ∧ Keeps h0 s.h

theorem DI.start {h0 h : Heap} {σ : Nat → T} {L : Nat → Nat × List V} {wt : Nat → Option (ROp × List T × V)} {fl : Nat → Bool} {b N n : Nat} (hn : n ≤ 30) (h5 : σ 5 = .v (vi n)) (h3 : σ 3 = .v (.ptr h0.length 0)) (h4 : σ 4 = .v .nils)
    (hc : Cur h h0.length N) (hN : N ≤ 900) (hk : Keeps h0 h) : DI h0 n ⟨σ, L, h, wt, fl, b⟩ :=
  ⟨hn, h5, h3, .nils, [], h4, Out.nil (by have := hc.lt; show h0.length + 1 ≤ h.length; omega), by simp, hc.mono (by omega), hk⟩

end GL

namespace GL
open Go

end GL

/-! values -/
namespace GL
open Go

structure Val where
  null : Bool
  n : Int
instance : Flat Val := ⟨2, fun x => [.bool x.null, vi x.n], fun _ => rfl, fun _ => rfl, by decide⟩
/-- a value of its own -/
abbrev vv (x : Val) : V := .agg [.bool x.null, vi x.n]

@[simp] theorem isSmall_eq (n : Int) (h : Heap) : call p 100 [vi n] h = some (.bool (decide (-1000 ≤ n ∧ n ≤ 1000)), h) := by
  refine go_eq (fn := g100) rfl rfl fun R hR => ?_
  simp [g100]
  simpa using hR

def okV (x : Val) : Bool := if x.null then decide (x.n = 0) else decide (-1000 ≤ x.n ∧ x.n ≤ 1000)

@[simp] theorem GoodValue_eq (x : Val) (h : Heap) : call p 25 [vv x] h = some (.bool (okV x), h) := by
  refine go_eq (fn := g25) rfl rfl fun R hR => ?_
  obtain ⟨b, n⟩ := x
  cases b
  · simp [okV] at hR
    simp [g25]
    exact hR
  · simp [okV] at hR
    by_cases h1 : n = 0
    · simp [g25, h1]; simpa [h1] using hR
    · simp [g25, h1]; simpa [h1] using hR

@[simp] theorem GoodValueS_eq (x : Val) (h : Heap) : call p 26 [vv x] h = some (.bool (okV x), h) := by
  refine go_eq (fn := g26) rfl rfl fun R hR => ?_
  obtain ⟨b, n⟩ := x
  by_cases h1 : -1000 ≤ n ∧ n ≤ 1000
  · cases b
    · simp [okV, h1] at hR
      simp [g26, h1, -Bool.decide_and]
      exact hR
    · simp [okV] at hR
      simp [g26, h1, -Bool.decide_and]
      exact hR
  · have h2 : ¬ n = 0 := by omega
    cases b
    · simp [okV, h1, -Bool.decide_and] at hR
      simp [g26, h1, -Bool.decide_and]
      exact hR
    · simp [okV, h2] at hR
      simp [g26, h1, -Bool.decide_and]
      exact hR

end GL

namespace GL
open Go

theorem KeepsBut.lit {c : Nat} {h : Heap} (l : Heap) : KeepsBut c h (h ++ l) := (Keeps.append h l).but c

theorem value_ok {h : Heap} {c N : Nat} (hc : Cur h c N) (hN : N < 2 ^ 60) :
    ∃ r h', call p 95 [.ptr c 0] h = some (r, h') ∧ ∃ x : Val, r = vv x ∧ Cur h' c (N + 20) ∧ KeepsBut c h h' ∧ h.length ≤ h'.length := by
  have hlt := hc.lt
  obtain ⟨_, h1, e1, b1, rfl, c1, k1, l1⟩ := one_ok (n := 4) hc (by omega) (by decide)
  obtain ⟨_, h2, e2, b2, rfl, c2, k2, l2⟩ := one_ok (n := 30) c1 (by omega) (by decide)
  obtain ⟨_, h3, e3, b3, rfl, c3, k3, l3⟩ := one_ok (n := 2) c2 (by omega) (by decide)
  obtain ⟨_, h4, e4, x, hx, rfl, c4, k4, l4⟩ := among_ok (v := .slice h3.length 0 4 (.k 4)) (c3.keeps (Keeps.append h3 _)) (by omega) (Sl.lit [-1001, -1000, 1000, 1001] 4 rfl [vi (-1001), vi (-1000), vi 1000, vi 1001] rfl _ (by decide)) (by simp [bOf]; omega) (by decide) (by decide)
  obtain ⟨_, h5, e5, y, rfl, hy, c5, k5, l5⟩ := pick_ok (n := 6) c2 (by omega) (by decide)
  have e1' : call p 92 [.ptr c 0, vi 4] h = some (.bool b1, h1) := e1
  have e2' : call p 92 [.ptr c 0, vi 30] h1 = some (.bool b2, h2) := e2
  have e3' : call p 92 [.ptr c 0, vi 2] h2 = some (.bool b3, h3) := e3
  have e5' : call p 91 [.ptr c 0, vi 6] h2 = some (vi y, h5) := e5
  refine go (fn := g95) rfl rfl fun R hR => ?_
  cases b1
  · cases b2
    · simp [g95, e1', e2', e5', fillL, resV, mkV]
      exact hR _ _ ⟨⟨_, _⟩, rfl, c5.mono (by omega), (k1.trans k2).trans k5, by omega⟩
    · simp [g95, e1', e2', e3', e4, fillL, resV, mkV]
      exact hR _ _ ⟨⟨_, _⟩, rfl, c4.mono (by omega), ((k1.trans k2).trans k3).trans (KeepsBut.trans (KeepsBut.lit _) k4), by simp at l4; omega⟩
  · simp [g95, e1', fillL, resV, mkV]
    exact hR _ _ ⟨⟨_, _⟩, rfl, c1.mono (by omega), k1, by omega⟩

end GL

namespace GL
open Go

theorem Out.one {lo : Nat} {h : Heap} {v : V} {xs : List Int} (ho : Out lo h v xs) (x : Int) (hx : xs.length ≤ 2 ^ 20) :
    ∃ v' h', appH 1 8 v 1 [vi x] (h ++ [⟨.own, [vi x]⟩]) = some (v', h') ∧ Out lo h' v' (xs ++ [x]) ∧ KeepsP (fun i => ¬ vB v i) h h' ∧ h.length < h'.length := by
  have o3 : Out lo (h ++ [⟨.own, [vi x]⟩]) v xs := (Keeps.append h _).out ho (by simp)
  obtain ⟨v', h', e4, o4, k4, l4, b4⟩ := o3.app [x] (by simp) (bytes := 8) (by decide) (by simp; omega) (k := 1) rfl (n := 1) rfl (ys := [vi x]) rfl
  exact ⟨v', h', e4, o4, fun i blk hi h1 h2 => k4 i blk hi (Keeps.append h _ i blk h1 h2) h2, by simp at l4; omega⟩

theorem Out.far {lo : Nat} {h0 h h' : Heap} {α : Type} [Flat α] {v : V} {xs : List α} (ho : Out lo h v xs) (hk : Keeps h0 h) (hp : KeepsP (fun i => ¬ vB v i) h h') (hl : h0.length ≤ lo) : Keeps h0 h' :=
  Keeps.far hk hp hl fun i hi hv => by have := (ho.ge hv).1; omega

end GL

namespace GL
open Go

end GL

namespace GL
open Go

end GL

namespace GL
open Go

end GL

namespace GL
open Go

end GL

/-! sums -/
namespace GL
open Go

theorem Sl.loadV {h : Heap} {v : V} {xs : List Val} (hs : Sl h v xs) (i : Nat) (hi : i < xs.length) : rdH h (bOf v) (oOf v + i * 2) 2 = some [.bool xs[i].null, vi xs[i].n] := hs.load i hi

end GL

/-! GL: what code does not touch. -/
namespace GL
open Go

def xmods : List AOper → List Nat
  | [] => []
  | o :: r => (match o.dst with | some t => [t] | none => []) ++ xmods r

/-- the slots that code may set -/
def mods : Code → List Nat
  | .reg _ ops => xmods ops
  | .seq a b => mods a ++ mods b
  | .cond _ a b => mods a ++ mods b
  | .block _ c => mods c
  | .loop c => mods c
  | _ => []

theorem put_mods (s : S) (d : Option Nat) (x : T) {k : Nat} (hk : k ∉ (match d with | some t => [t] | none => [])) : (s.put d x).σ k = s.σ k := by
  cases d with
  | none => rfl
  | some t =>
    have : k ≠ t := by simpa using hk
    simp [S.put, upd, this]

theorem xop_mods {c : CallF} {o : AOper} {s s' : S} (h : xop c o s = some s') {k : Nat} (hk : k ∉ (match o.dst with | some t => [t] | none => [])) : s'.σ k = s.σ k := by
  unfold xop at h
  obtain ⟨b, _, h⟩ := Option.bind_eq_some_iff.1 h
  split at h
  · unfold aop at h
    split at h
    · obtain ⟨x, _, h⟩ := Option.bind_eq_some_iff.1 h
      cases h; exact put_mods _ _ _ hk
    · obtain ⟨r, _, h⟩ := Option.bind_eq_some_iff.1 h
      cases h; exact put_mods { s with L := r.2 } _ _ hk
    · obtain ⟨r, _, h⟩ := Option.bind_eq_some_iff.1 h
      split at h
      · split at h
        · cases h; exact put_mods { s with wt := _ } _ _ hk
        · cases h
      · cases h; exact put_mods _ _ _ hk
    · obtain ⟨r, _, h⟩ := Option.bind_eq_some_iff.1 h
      split at h
      · cases h; exact put_mods { s with h := _ } _ _ hk
      · cases h
    · obtain ⟨r, _, h⟩ := Option.bind_eq_some_iff.1 h
      split at h
      · cases h; exact put_mods { s with h := _, fl := _ } _ _ hk
      · cases h
  · cases h; exact put_mods _ _ _ hk

theorem xops_mods {c : CallF} : ∀ {l : List AOper} {s s' : S}, xops c l s = some s' → ∀ {k : Nat}, k ∉ xmods l → s'.σ k = s.σ k
  | [], s, s', h, k, _ => by simp [xops] at h; rw [h]
  | o :: r, s, s', h, k, hk => by
    simp only [xops] at h
    obtain ⟨s1, h1, h⟩ := Option.bind_eq_some_iff.1 h
    rw [xops_mods h fun hm => hk (List.mem_append_right _ hm), xop_mods h1 fun hm => hk (List.mem_append_left _ hm)]

theorem den_mods {p : Prog} : ∀ {c : Code} {s : S} {e : Ex} {s' : S}, den p c s = some (e, s') → ∀ {k : Nat}, k ∉ mods c → s'.σ k = s.σ k := by
  intro c
  induction c with
  | skip => intro s e s' h k _; simp [den] at h; rw [h.2]
  | exit i => intro s e s' h k _; simp [den] at h; rw [h.2]
  | ret => intro s e s' h k _; simp [den] at h; rw [h.2]
  | bad => intro s e s' h k _; simp [den] at h
  | reg n l =>
    intro s e s' h k hk
    simp only [den] at h
    obtain ⟨s1, h1, h⟩ := Option.bind_eq_some_iff.1 h
    cases h
    exact (xops_mods h1 hk).trans rfl
  | seq a b iha ihb =>
    intro s e s' h k hk
    simp only [den] at h
    obtain ⟨⟨e1, s1⟩, h1, h⟩ := Option.bind_eq_some_iff.1 h
    have ha := iha h1 (k := k) fun hm => hk (List.mem_append_left _ hm)
    cases e1 with
    | norm => rw [ihb h fun hm => hk (List.mem_append_right _ hm), ha]
    | exit i => cases h; exact ha
    | ret => cases h; exact ha
  | cond c a b iha ihb =>
    intro s e s' h k hk
    simp only [den] at h
    split at h
    · exact iha h fun hm => hk (List.mem_append_left _ hm)
    · exact ihb h fun hm => hk (List.mem_append_right _ hm)
    · cases h
  | block i c ih =>
    intro s e s' h k hk
    simp only [den] at h
    obtain ⟨⟨e1, s1⟩, h1, h⟩ := Option.bind_eq_some_iff.1 h
    have ha := ih h1 (k := k) hk
    cases e1 with
    | norm => cases h; exact ha
    | ret => cases h; exact ha
    | exit j =>
      simp only at h
      split at h <;> (cases h; exact ha)
  | loop c ih =>
    intro s e s' h k hk
    obtain ⟨n, h0⟩ := den_loop.1 h
    clear h
    revert h0
    induction n generalizing s with
    | zero => intro h; simp [loopN] at h
    | succ n ihn =>
      intro h
      simp only [loopN] at h
      obtain ⟨⟨e1, s1⟩, h1, h⟩ := Option.bind_eq_some_iff.1 h
      have ha := ih h1 (k := k) hk
      cases e1 with
      | norm => exact (ihn h).trans ha
      | exit i => cases h; exact ha
      | ret => cases h; exact ha

/-- a loop that counts up to n, with what it leaves alone -/
theorem Wc_upM {p : Prog} {c : Code} {s0 : S} {Q : Ex → S → Prop} {M : List Nat} (hm : ((mods c).all fun k => M.contains k) = true) (n : Nat) (I : Nat → S → Prop) (i : Nat) (h0 : I i s0)
    (hb : ∀ i s, I i s → (∀ k, k ∉ M → s.σ k = s0.σ k) → ∀ J : S → Prop, (∀ s', i < n → I (i + 1) s' → J s') → Wc p c s (stepK J Q)) : Wc p (.loop c) s0 Q := by
  have hm' : ∀ k, k ∉ M → k ∉ mods c := fun k hk hc => hk (by simpa using List.all_eq_true.1 hm k hc)
  refine Wc_up n (fun i s => I i s ∧ ∀ k, k ∉ M → s.σ k = s0.σ k) i ⟨h0, fun _ _ => rfl⟩ fun i s ⟨hI, hM⟩ => ?_
  obtain ⟨⟨e, s'⟩, h1, hq⟩ := hb i s hI hM (fun s' => i < n ∧ I (i + 1) s') fun s' h1 h2 => ⟨h1, h2⟩
  refine ⟨(e, s'), h1, ?_⟩
  cases e with
  | norm => exact ⟨hq.1, hq.2, fun k hk => (den_mods h1 (hm' k hk)).trans (hM k hk)⟩
  | exit x => exact hq
  | ret => exact hq

/-- a loop that goes down, with what it leaves alone -/
theorem Wc_dnM {p : Prog} {c : Code} {s0 : S} {Q : Ex → S → Prop} {M : List Nat} (hm : ((mods c).all fun k => M.contains k) = true) (I : Nat → S → Prop) (k0 : Nat) (h0 : I k0 s0)
    (hb : ∀ k s, I k s → (∀ k, k ∉ M → s.σ k = s0.σ k) → ∀ J : S → Prop, (∀ j s', j < k → I j s' → J s') → Wc p c s (stepK J Q)) : Wc p (.loop c) s0 Q := by
  have hm' : ∀ k, k ∉ M → k ∉ mods c := fun k hk hc => hk (by simpa using List.all_eq_true.1 hm k hc)
  refine Wc_loop (fun i s => I i s ∧ ∀ k, k ∉ M → s.σ k = s0.σ k) k0 ⟨h0, fun _ _ => rfl⟩ fun i s ⟨hI, hM⟩ => ?_
  obtain ⟨⟨e, s'⟩, h1, hq⟩ := hb i s hI hM (fun s' => ∃ j, j < i ∧ I j s') fun j s' h1 h2 => ⟨j, h1, h2⟩
  refine ⟨(e, s'), h1, ?_⟩
  cases e with
  | norm => exact let ⟨j, h2, h3⟩ := hq; ⟨j, h2, h3, fun k hk => (den_mods h1 (hm' k hk)).trans (hM k hk)⟩
  | exit x => exact hq
  | ret => exact hq
end GL

namespace GL
open Go

theorem areValues_eq {h : Heap} {v : V} {l : List Val} (hs : Sl h v l) : call p 102 [v] h = some (.bool (l.all okV), h) := by
  refine go_eq (fn := g102) rfl rfl fun R hR => ?_
  simp [g102, hs.len]
  refine Wc_upM (M := [2, 4, 7, 8, 9, 10, 11, 12, 13, 14]) rfl l.length (fun i s => s.σ 7 = .v (vi i) ∧ s.h = h ∧ ∀ x ∈ l.take i, okV x = true) 0 (by simp) fun i s ⟨g7, gh, hall⟩ hM J hJ => ?_
  by_cases hn : i < l.length
  · cases hx : okV l[i] with
    | true =>
      simp [g102_0, hM, g7, gh, hn, hs.idx, hs.loadV, hs.step hn, upd, hx]
      exact hJ _ hn ⟨by simp, rfl, by rw [List.take_succ_eq_append_getElem hn]; intro x hm; rcases List.mem_append.1 hm with hm | hm; exact hall x hm; simp at hm; rw [hm]; exact hx⟩
    | false =>
      simp [g102_0, hM, g7, gh, hn, hs.idx, hs.loadV, upd, hx]
      have : l.all okV = false := by simpa using ⟨l[i], by simp, by simp [hx]⟩
      simpa [this] using hR
  · have : l.all okV = true := by rw [List.take_of_length_le (by omega)] at hall; simpa using hall
    simp [g102_0, hM, g7, gh, hn]
    simpa [this] using hR

end GL

namespace GL
open Go

end GL

/-! GL: data with slices inside. -/
namespace GL
open Go

/-- data in memory: its cells, and the blocks that it lies in -/
class Data (α : Type) where
  sz : Nat
  pos : 0 < sz
  rep : Heap → α → List V → List Nat → Prop
  len : ∀ {h a cs F}, rep h a cs F → cs.length = sz
  ok : ∀ {h a cs F}, rep h a cs F → allCell cs = true
  keeps : ∀ {h h' a cs F}, rep h a cs F → KeepsP (fun b => b ∈ F) h h' → rep h' a cs F
  lt : ∀ {h a cs F b}, rep h a cs F → b ∈ F → ∃ blk, h[b]? = some blk ∧ blk.st ≠ .dead

theorem KeepsP.mono {P Q : Nat → Prop} {h h' : Heap} (hk : KeepsP P h h') (hq : ∀ b, Q b → P b) : KeepsP Q h h' := fun b blk hb => hk b blk (hq b hb)
theorem KeepsP.trans {P : Nat → Prop} {a b c : Heap} (h1 : KeepsP P a b) (h2 : KeepsP P b c) : KeepsP P a c := fun i blk hp h hl => h2 i blk hp (h1 i blk hp h hl) hl
theorem KeepsP.refl (P : Nat → Prop) (h : Heap) : KeepsP P h h := fun _ _ _ h _ => h
theorem Keeps.p {h h' : Heap} (hk : Keeps h h') (P : Nat → Prop) : KeepsP P h h' := fun b blk _ hb hl => hk b blk hb hl

instance flatData {α : Type} [Flat α] : Data α where
  sz := Flat.sz α
  pos := Flat.pos
  rep := fun _ a cs F => cs = Flat.cells a ∧ F = []
  len := by rintro h a cs F ⟨rfl, _⟩; exact Flat.len a
  ok := by rintro h a cs F ⟨rfl, _⟩; exact Flat.ok a
  keeps := fun h _ => h
  lt := by rintro h a cs F b ⟨_, rfl⟩ hb; cases hb

section
variable {α : Type} [Data α]

def Reps (h : Heap) : List α → List V → List Nat → Prop
  | [], cs, F => cs = [] ∧ F = []
  | x :: xs, cs, F => ∃ c r F1 F2, cs = c ++ r ∧ F = F1 ++ F2 ∧ Data.rep h x c F1 ∧ Reps h xs r F2

theorem Reps.nil {h : Heap} : Reps h ([] : List α) [] [] := ⟨rfl, rfl⟩
theorem Reps.one {h : Heap} {x : α} {c : List V} {F : List Nat} (hr : Data.rep h x c F) : Reps h [x] c F := ⟨c, [], F, [], by simp, by simp, hr, .nil⟩
theorem Reps.len {h : Heap} : ∀ {xs : List α} {cs : List V} {F : List Nat}, Reps h xs cs F → cs.length = xs.length * Data.sz α
  | [], cs, F, hr => by simp [hr.1]
  | x :: xs, cs, F, ⟨c, r, F1, F2, e, _, h1, h2⟩ => by
    subst e
    rw [List.length_append, Data.len h1, Reps.len h2, List.length_cons, Nat.add_mul]; omega
theorem Reps.ok {h : Heap} : ∀ {xs : List α} {cs : List V} {F : List Nat}, Reps h xs cs F → allCell cs = true
  | [], cs, F, hr => by rw [hr.1]; rfl
  | x :: xs, cs, F, ⟨c, r, F1, F2, e, _, h1, h2⟩ => by
    subst e
    have a := Data.ok h1
    have b := Reps.ok h2
    simp only [allCell, List.all_append, Bool.and_eq_true] at a b ⊢
    exact ⟨a, b⟩
theorem Reps.keeps {h h' : Heap} : ∀ {xs : List α} {cs : List V} {F : List Nat}, Reps h xs cs F → KeepsP (fun b => b ∈ F) h h' → Reps h' xs cs F
  | [], cs, F, hr, _ => hr
  | x :: xs, cs, F, ⟨c, r, F1, F2, e, f, h1, h2⟩, hk => by
    subst f
    exact ⟨c, r, F1, F2, e, rfl, Data.keeps h1 (hk.mono fun b hb => List.mem_append_left _ hb), Reps.keeps h2 (hk.mono fun b hb => List.mem_append_right _ hb)⟩
theorem Reps.lt {h : Heap} : ∀ {xs : List α} {cs : List V} {F : List Nat} {b : Nat}, Reps h xs cs F → b ∈ F → ∃ blk, h[b]? = some blk ∧ blk.st ≠ .dead
  | [], cs, F, b, hr, hb => by rw [hr.2] at hb; cases hb
  | x :: xs, cs, F, b, ⟨c, r, F1, F2, e, f, h1, h2⟩, hb => by
    subst f
    rcases List.mem_append.1 hb with hb | hb
    · exact Data.lt h1 hb
    · exact Reps.lt h2 hb
theorem Reps.append {h : Heap} : ∀ {xs ys : List α} {cs ds : List V} {F G : List Nat}, Reps h xs cs F → Reps h ys ds G → Reps h (xs ++ ys) (cs ++ ds) (F ++ G)
  | [], ys, cs, ds, F, G, hr, hs => by rw [hr.1, hr.2]; exact hs
  | x :: xs, ys, cs, ds, F, G, ⟨c, r, F1, F2, e, f, h1, h2⟩, hs => ⟨c, r ++ ds, F1, F2 ++ G, by simp [e], by simp [f], h1, Reps.append h2 hs⟩
theorem Reps.split {h : Heap} : ∀ {xs ys : List α} {cs : List V} {F : List Nat}, Reps h (xs ++ ys) cs F → ∃ c1 c2 F1 F2, cs = c1 ++ c2 ∧ F = F1 ++ F2 ∧ Reps h xs c1 F1 ∧ Reps h ys c2 F2
  | [], ys, cs, F, hr => ⟨[], cs, [], F, rfl, rfl, .nil, hr⟩
  | x :: xs, ys, cs, F, ⟨c, r, F1, F2, e, f, h1, h2⟩ => by
    obtain ⟨c1, c2, G1, G2, e2, f2, h3, h4⟩ := Reps.split (xs := xs) h2
    exact ⟨c ++ c1, c2, F1 ++ G1, G2, by simp [e, e2], by simp [f, f2], ⟨c, c1, F1, G1, rfl, rfl, h1, h3⟩, h4⟩
theorem Reps.cut2 {h : Heap} {xs : List α} {cs : List V} {F : List Nat} (hr : Reps h xs cs F) (i : Nat) (hi : i ≤ xs.length) :
    ∃ F1 F2, F = F1 ++ F2 ∧ Reps h (xs.take i) (cs.take (i * Data.sz α)) F1 ∧ Reps h (xs.drop i) (cs.drop (i * Data.sz α)) F2 := by
  rw [← List.take_append_drop i xs] at hr
  obtain ⟨c1, c2, F1, F2, e, f, h1, h2⟩ := hr.split
  have hl := h1.len
  have ht : (xs.take i).length = i := by simp; omega
  rw [ht] at hl
  subst e
  refine ⟨F1, F2, f, ?_, ?_⟩
  · rw [← hl, List.take_left']; exact h1; rfl
  · rw [← hl, List.drop_left']; exact h2; rfl
theorem Reps.get {h : Heap} {xs : List α} {cs : List V} {F : List Nat} (hr : Reps h xs cs F) (i : Nat) (hi : i < xs.length) :
    ∃ F1 F2 F3, F = F1 ++ F2 ++ F3 ∧ Data.rep h xs[i] ((cs.drop (i * Data.sz α)).take (Data.sz α)) F2 ∧ Reps h (xs.take i) (cs.take (i * Data.sz α)) F1 ∧ Reps h (xs.drop (i + 1)) (cs.drop ((i + 1) * Data.sz α)) F3 := by
  obtain ⟨F1, F2, f, h1, h2⟩ := hr.cut2 i (by omega)
  rw [List.drop_eq_getElem_cons hi] at h2
  obtain ⟨c, r, G1, G2, e, g, h3, h4⟩ := h2
  have hl := Data.len h3
  refine ⟨F1, G1, G2, by simp [f, g], ?_, h1, ?_⟩
  · rw [e, ← hl, List.take_left']; exact h3; rfl
  · have : cs.drop ((i + 1) * Data.sz α) = (cs.drop (i * Data.sz α)).drop (Data.sz α) := by rw [List.drop_drop, Nat.add_mul, Nat.one_mul]
    rw [this, e, ← hl, List.drop_left']; exact h4; rfl

/-- a capacity that may be: at least the length, or unknown -/
def capW (k n : Nat) : Cap → Prop
  | .k c => n ≤ c
  | .o k' => k' = k
def capOK (k : Nat) : V → Prop
  | .slice _ _ n cap => capW k n cap
  | _ => True

/-- a slice that holds these, and the blocks that it all lies in -/
def SdF (h : Heap) (v : V) (xs : List α) (F : List Nat) : Prop :=
  xs.length < 2 ^ 63 ∧ ((v = .nils ∧ xs = [] ∧ F = []) ∨ ∃ b off cap, v = .slice b off xs.length cap ∧ capW (Data.sz α) xs.length cap ∧ ((xs = [] ∧ F = []) ∨ ∃ blk cs G, F = b :: G ∧ h[b]? = some blk ∧ blk.st ≠ .dead ∧ cut blk.cells off (xs.length * Data.sz α) = some cs ∧ Reps h xs cs G))

variable {h h' : Heap} {v : V} {xs : List α} {F : List Nat}
theorem SdF.len (hs : SdF h v xs F) : lenV v = some xs.length := by
  rcases hs with ⟨_, ⟨rfl, rfl, _⟩ | ⟨b, off, cap, rfl, _⟩⟩ <;> rfl
theorem SdF.cells (hs : SdF h v xs F) : v.cells = [v] := by
  rcases hs with ⟨_, ⟨rfl, rfl, _⟩ | ⟨b, off, cap, rfl, _⟩⟩ <;> rfl
theorem SdF.cell (hs : SdF h v xs F) : v.cell = true := by
  rcases hs with ⟨_, ⟨rfl, rfl, _⟩ | ⟨b, off, cap, rfl, _⟩⟩ <;> rfl
theorem SdF.bd (hs : SdF h v xs F) : xs.length < 2 ^ 63 := hs.1
theorem SdF.step (hs : SdF h v xs F) {i : Nat} (hi : i < xs.length) : IntKind.i64.wrap ((i : Int) + 1) = i + 1 := by
  have := hs.1
  exact IntWalk.i64_in _ (by omega)
theorem SdF.cap (hs : SdF h v xs F) : capOK (Data.sz α) v := by
  rcases hs with ⟨_, ⟨rfl, _, _⟩ | ⟨b, off, cap, rfl, hc, _⟩⟩
  · trivial
  · exact hc
theorem SdF.nil : SdF h .nils ([] : List α) [] := ⟨by simp, .inl ⟨rfl, rfl, rfl⟩⟩
theorem SdF.idx (hs : SdF h v xs F) (k : Nat) (kd : IntKind) (i : Nat) (hi : i < xs.length) : idxV k v (.int kd i) = some (.ptr (bOf v) (oOf v + i * k)) := by
  rcases hs with ⟨_, ⟨rfl, rfl, _⟩ | ⟨b, off, cap, rfl, _⟩⟩
  · simp at hi
  · simp [idxV, hi, bOf, oOf]
theorem SdF.keeps (hs : SdF h v xs F) (hk : KeepsP (fun b => b ∈ F) h h') : SdF h' v xs F := by
  refine ⟨hs.1, ?_⟩
  rcases hs.2 with hs | ⟨b, off, cap, hv, hc, hs⟩
  · exact .inl hs
  · refine .inr ⟨b, off, cap, hv, hc, ?_⟩
    rcases hs with hs | ⟨blk, cs, G, f, h1, h2, h3, h4⟩
    · exact .inl hs
    · subst f
      exact .inr ⟨blk, cs, G, rfl, hk _ _ (List.mem_cons_self ..) h1 h2, h2, h3, h4.keeps (hk.mono fun b hb => List.mem_cons_of_mem _ hb)⟩
theorem SdF.keep (hs : SdF h v xs F) (hk : Keeps h h') : SdF h' v xs F := hs.keeps (hk.p _)
theorem SdF.lt (hs : SdF h v xs F) {i : Nat} (hi : i ∈ F) : ∃ blk, h[i]? = some blk ∧ blk.st ≠ .dead := by
  rcases hs.2 with ⟨_, _, hs⟩ | ⟨b, off, cap, hv, _, hs⟩
  · rw [hs] at hi; cases hi
  · rcases hs with ⟨_, hs⟩ | ⟨blk, cs, G, f, h1, h2, h3, h4⟩
    · rw [hs] at hi; cases hi
    · subst f
      rcases List.mem_cons.1 hi with rfl | hi
      · exact ⟨blk, h1, h2⟩
      · exact h4.lt hi
/-- an element, where it lies -/
theorem SdF.load (hs : SdF h v xs F) (i : Nat) (hi : i < xs.length) : ∃ cs F1 F2 F3, rdH h (bOf v) (oOf v + i * Data.sz α) (Data.sz α) = some cs ∧ Data.rep h xs[i] cs F2 ∧ F = bOf v :: (F1 ++ F2 ++ F3) := by
  rcases hs with ⟨_, ⟨rfl, rfl, _⟩ | ⟨b, off, cap, rfl, _, hs⟩⟩
  · simp at hi
  · rcases hs with ⟨rfl, _⟩ | ⟨blk, cs, G, f, h1, h2, h3, h4⟩
    · simp at hi
    · obtain ⟨F1, F2, F3, g, h5, _, _⟩ := h4.get i hi
      refine ⟨_, F1, F2, F3, ?_, h5, by rw [f, g]; rfl⟩
      simp only [bOf, oOf, rdH, h1, h2, if_false]
      unfold cut at h3 ⊢
      split at h3
      case isFalse => cases h3
      rename_i hle
      have hb : (i + 1) * Data.sz α ≤ xs.length * Data.sz α := Nat.mul_le_mul_right _ hi
      rw [Nat.add_mul] at hb
      rw [if_pos (by omega)]
      simp only [Option.some.injEq] at h3 ⊢
      rw [← h3, List.drop_take, List.take_take, List.drop_drop]
      congr 1
      omega
theorem rdH_sub {h : Heap} {b off n : Nat} {cs : List V} (e : rdH h b off n = some cs) (o k : Nat) (hk : o + k ≤ n) : rdH h b (off + o) k = some ((cs.drop o).take k) := by
  unfold rdH at e ⊢
  split at e
  · rename_i blk hb
    split at e
    · cases e
    · rename_i hl
      simp only [hl, if_false]
      unfold cut at e ⊢
      split at e
      · rw [if_pos (by omega)]
        simp only [Option.some.injEq] at e ⊢
        rw [← e, List.drop_take, List.take_take, List.drop_drop]
        congr 1
        omega
      · cases e
  · cases e
/-- a part of a slice -/
theorem SdF.sub (hs : SdF h v xs F) {lo hi : Option Nat} {i j : Nat} (hlo : lo.getD 0 = i) (hhi : hi.getD xs.length = j) (hij : i ≤ j) (hj : j ≤ xs.length) {k : Nat} (hk : k = Data.sz α) :
    ∃ v' F', slcV k v lo hi none = some v' ∧ SdF h v' ((xs.take j).drop i) F' ∧ (∀ b ∈ F', b ∈ F) ∧ (∀ b, vB v' b → vB v b) := by
  subst hk
  have hbd := hs.1
  rcases hs with ⟨_, ⟨rfl, rfl, rfl⟩ | ⟨b, off, cap, rfl, hc, hs⟩⟩
  · simp at hj hhi
    subst hj
    have hi0 : i = 0 := by omega
    subst hi0
    refine ⟨.nils, [], ?_, by simpa using SdF.nil, by simp, fun b h => h⟩
    simp only [slcV, Option.getD_none, hlo, hhi, and_self, if_true]
  · have key : ∀ (off' : Nat) (cap' : Cap), (i < j → off' = off + i * Data.sz α) → capW (Data.sz α) (j - i) cap' →
        ∃ F', SdF h (.slice b off' (j - i) cap') ((xs.take j).drop i) F' ∧ ∀ x ∈ F', x ∈ F := by
      intro off' cap' ho hc'
      have hl : ((xs.take j).drop i).length = j - i := by simp; omega
      by_cases h0 : i < j
      · rcases hs with ⟨rfl, _⟩ | ⟨blk, cs, G, f, h1, h2, h3, h4⟩
        · simp at hj; omega
        · obtain ⟨G1, G2, g, h5, _⟩ := h4.cut2 j hj
          obtain ⟨G3, G4, g', _, h6⟩ := h5.cut2 i (by simp; omega)
          refine ⟨b :: G4, ⟨by rw [hl]; omega, .inr ⟨b, off', cap', by rw [hl], by rw [hl]; exact hc', .inr ⟨blk, _, G4, rfl, h1, h2, ?_, h6⟩⟩⟩, fun x hx => ?_⟩
          · rw [hl, ho h0]
            unfold cut at h3 ⊢
            split at h3
            case isFalse => cases h3
            simp only [Option.some.injEq] at h3
            have b1 : j * Data.sz α ≤ xs.length * Data.sz α := Nat.mul_le_mul_right _ hj
            have b2 : i * Data.sz α + (j - i) * Data.sz α = j * Data.sz α := by rw [← Nat.add_mul]; congr 1; omega
            rw [if_pos (by omega)]
            rw [← h3, List.take_take, List.drop_take, List.drop_drop]
            congr 2
            omega
          · rw [f, g, g']
            rcases List.mem_cons.1 hx with rfl | hx
            · exact List.mem_cons_self ..
            · exact List.mem_cons_of_mem _ (List.mem_append_left _ (List.mem_append_right _ hx))
      · have hnil : (xs.take j).drop i = [] := List.length_eq_zero_iff.1 (by rw [hl]; omega)
        exact ⟨[], ⟨by rw [hl]; omega, .inr ⟨b, off', cap', by rw [hl], by rw [hl]; exact hc', .inl ⟨hnil, rfl⟩⟩⟩, by simp⟩
    cases cap with
    | k c =>
      have hc : xs.length ≤ c := hc
      obtain ⟨F', h1, h2⟩ := key (if c = i then off else off + i * Data.sz α) (.k (c - i)) (fun h => by rw [if_neg (by omega)]) (by show j - i ≤ c - i; omega)
      refine ⟨_, F', ?_, h1, h2, ?_⟩
      · simp only [slcV, hlo, hhi, Option.getD_none]
        rw [if_pos ⟨hij, by omega, Nat.le_refl _⟩]
      · rintro b ⟨_, _, _, e⟩; cases e; exact ⟨_, _, _, rfl⟩
    | o k' =>
      have hc : k' = Data.sz α := hc
      obtain ⟨F', h1, h2⟩ := key (off + i * Data.sz α) (.o (Data.sz α)) (fun _ => rfl) rfl
      refine ⟨_, F', ?_, h1, h2, ?_⟩
      · simp only [slcV, hlo, hhi]
        rw [if_pos ⟨hc, hij, hj⟩]
      · rintro b ⟨_, _, _, e⟩; cases e; exact ⟨_, _, _, rfl⟩
/-- the first ones, all at once -/
theorem SdF.rdS (hs : SdF h v xs F) : ∃ cs G, GL.rdS h (Data.sz α) v xs.length = some cs ∧ Reps h xs cs G ∧ ∀ b ∈ G, b ∈ F := by
  rcases hs with ⟨_, ⟨rfl, rfl, _⟩ | ⟨b, off, cap, rfl, _, hs⟩⟩
  · exact ⟨[], [], by simp [GL.rdS], .nil, by simp⟩
  · rcases hs with ⟨rfl, _⟩ | ⟨blk, cs, G, f, h1, h2, h3, h4⟩
    · exact ⟨[], [], by simp [GL.rdS], .nil, by simp⟩
    · refine ⟨cs, G, ?_, h4, fun b hb => by rw [f]; exact List.mem_cons_of_mem _ hb⟩
      simp only [GL.rdS, Nat.le_refl, if_true]
      split
      · rename_i h0
        have := h4.len
        rw [h0] at this
        rw [List.length_eq_zero_iff.1 this]
      · simp only [rdH, h1, h2, if_false, h3]
end

section
variable {α : Type} [Flat α] {h : Heap} {v : V} {xs : List α} {F : List Nat}
theorem Reps.flat : ∀ {xs : List α} {cs : List V} {F : List Nat}, Reps h xs cs F ↔ cs = flats xs ∧ F = []
  | [], cs, F => by simp [Reps, flats]
  | x :: xs, cs, F => by
    constructor
    · rintro ⟨c, r, F1, F2, rfl, rfl, ⟨rfl, rfl⟩, h2⟩
      obtain ⟨rfl, rfl⟩ := Reps.flat.1 h2
      exact ⟨by simp [flats], rfl⟩
    · rintro ⟨rfl, rfl⟩
      exact ⟨Flat.cells x, flats xs, [], [], by simp [flats], rfl, ⟨rfl, rfl⟩, Reps.flat.2 ⟨rfl, rfl⟩⟩
theorem SdF.sl (hs : SdF h v xs F) : Sl h v xs := by
  refine ⟨hs.1, ?_⟩
  rcases hs.2 with hs | ⟨b, off, cap, hv, _, hs⟩
  · exact .inl ⟨hs.1, hs.2.1⟩
  · refine .inr ⟨b, off, cap, hv, ?_⟩
    rcases hs with ⟨hs, _⟩ | ⟨blk, cs, G, f, h1, h2, h3, h4⟩
    · exact .inl hs
    · exact .inr ⟨blk, h1, h2, by rw [(Reps.flat.1 h4).1] at h3; exact h3⟩
theorem Sl.sdF (hs : Sl h v xs) (hc : capOK (Flat.sz α) v) : ∃ F, SdF h v xs F ∧ (∀ b ∈ F, b = bOf v ∧ vB v b) ∧ F.length ≤ 1 := by
  rcases hs with ⟨hb, ⟨rfl, rfl⟩ | ⟨b, off, cap, rfl, hs⟩⟩
  · exact ⟨[], .nil, by simp, by simp⟩
  · rcases hs with rfl | ⟨blk, h1, h2, h3⟩
    · exact ⟨[], ⟨hb, .inr ⟨b, off, cap, rfl, hc, .inl ⟨rfl, rfl⟩⟩⟩, by simp, by simp⟩
    · exact ⟨[b], ⟨hb, .inr ⟨b, off, cap, rfl, hc, .inr ⟨blk, _, [], rfl, h1, h2, h3, Reps.flat.2 ⟨rfl, rfl⟩⟩⟩⟩, by simp [bOf, vB], by simp⟩
end

instance listData {α : Type} [Data α] : Data (List α) where
  sz := 1
  pos := by decide
  rep := fun h xs cs F => ∃ v, cs = [v] ∧ SdF h v xs F
  len := by rintro h a cs F ⟨v, rfl, _⟩; rfl
  ok := by rintro h a cs F ⟨v, rfl, hs⟩; simp [allCell, hs.cell]
  keeps := by rintro h h' a cs F ⟨v, rfl, hs⟩ hk; exact ⟨v, rfl, hs.keeps hk⟩
  lt := by rintro h a cs F b ⟨v, rfl, hs⟩ hb; exact hs.lt hb

section
variable {α : Type} [Data α] {h : Heap} {v : V} {xs : List α} {lo : Nat} {F : List Nat}
/-- a list that this very call has made, and may make longer -/
def Od (lo : Nat) (h : Heap) (v : V) (xs : List α) (F : List Nat) : Prop :=
  xs.length < 2 ^ 40 ∧ lo ≤ h.length ∧ ((v = .nils ∧ xs = [] ∧ F = []) ∨ (∃ b cs, v = .slice b 0 xs.length (.o (Data.sz α)) ∧ h[b]? = some ⟨.own, cs⟩ ∧ lo ≤ b ∧ Reps h xs cs F ∧ b ∉ F) ∨ ∃ b, v = .slice b 0 0 (.k 0) ∧ xs = [] ∧ F = [] ∧ lo ≤ b ∧ b < h.length)

theorem Od.nil (hl : lo ≤ h.length) : Od lo h .nils ([] : List α) [] := ⟨by simp, hl, .inl ⟨rfl, rfl, rfl⟩⟩
theorem Od.empty {b : Nat} (hl : lo ≤ b) (hb : b < h.length) : Od lo h (.slice b 0 0 (.k 0)) ([] : List α) [] := ⟨by simp, by omega, .inr (.inr ⟨b, rfl, rfl, rfl, hl, hb⟩)⟩
theorem Od.sd (ho : Od lo h v xs F) : ∃ F', SdF h v xs F' ∧ (F' = F ∨ (F' = bOf v :: F ∧ vB v (bOf v) ∧ bOf v ∉ F ∧ ∃ cs, h[bOf v]? = some ⟨.own, cs⟩)) := by
  obtain ⟨h1, _, ⟨rfl, rfl, rfl⟩ | ⟨b, cs, rfl, hb, _, hr, hn⟩ | ⟨b, rfl, rfl, rfl, _⟩⟩ := ho
  · exact ⟨[], .nil, .inl rfl⟩
  · refine ⟨b :: F, ⟨by omega, .inr ⟨b, 0, _, rfl, rfl, .inr ⟨_, cs, F, rfl, hb, by simp, ?_, hr⟩⟩⟩, .inr ⟨rfl, ⟨_, _, _, rfl⟩, hn, cs, hb⟩⟩
    simp only [cut, hr.len, Nat.zero_add, Nat.le_refl, if_true, List.drop_zero]
    rw [← hr.len, List.take_length]
  · exact ⟨[], ⟨by simp, .inr ⟨b, 0, _, rfl, Nat.le_refl _, .inl ⟨rfl, rfl⟩⟩⟩, .inl rfl⟩
theorem Od.keeps {h' : Heap} (ho : Od lo h v xs F) {P : Nat → Prop} (hk : KeepsP P h h') (hp : ∀ i, vB v i → P i) (hF : ∀ i ∈ F, P i) (hl : h.length ≤ h'.length) : Od lo h' v xs F := by
  obtain ⟨h1, h2, ⟨rfl, rfl, rfl⟩ | ⟨b, cs, rfl, hb, h3, hr, hn⟩ | ⟨b, rfl, rfl, rfl, h3, h4⟩⟩ := ho
  · exact ⟨h1, by omega, .inl ⟨rfl, rfl, rfl⟩⟩
  · exact ⟨h1, by omega, .inr (.inl ⟨b, cs, rfl, hk _ _ (hp b ⟨_, _, _, rfl⟩) hb (by simp), h3, hr.keeps (hk.mono hF), hn⟩)⟩
  · exact ⟨h1, by omega, .inr (.inr ⟨b, rfl, rfl, rfl, h3, by omega⟩)⟩
theorem Od.ge (ho : Od lo h v xs F) {i : Nat} (hi : vB v i) : lo ≤ i ∧ i < h.length := by
  obtain ⟨h1, h2, ⟨rfl, rfl, rfl⟩ | ⟨b, cs, rfl, hb, h3, hr, hn⟩ | ⟨b, rfl, rfl, rfl, h3, h4⟩⟩ := ho
  · obtain ⟨_, _, _, e⟩ := hi; cases e
  · obtain ⟨_, _, _, e⟩ := hi; cases e; exact ⟨h3, get_lt hb⟩
  · obtain ⟨_, _, _, e⟩ := hi; cases e; exact ⟨h3, h4⟩

theorem Od.app (ho : Od lo h v xs F) {zs : List α} {ys : List V} {G : List Nat} (hz : 0 < zs.length) (hr : Reps h zs ys G) (hG : ∀ b ∈ G, ¬ vB v b) {bytes : Nat} (hb : bytes ≤ 2 ^ 8) (hl : xs.length + zs.length ≤ 2 ^ 30) {k n : Nat} (hk : k = Data.sz α) (hn : n = zs.length) :
    ∃ v' h', appH k bytes v n ys h = some (v', h') ∧ Od lo h' v' (xs ++ zs) (F ++ G) ∧ KeepsP (fun i => ¬ vB v i) h h' ∧ h.length < h'.length ∧ (∀ i, vB v' i → i = h.length) := by
  subst hk; subst hn
  have hk0 := Data.pos (α := α)
  have hbb : (xs.length + zs.length) * bytes ≤ 2 ^ 30 * 2 ^ 8 := Nat.mul_le_mul hl hb
  have hGl : ∀ b ∈ G, b < h.length := fun b hb => by obtain ⟨blk, h1, _⟩ := hr.lt hb; exact get_lt h1
  obtain ⟨h1, h2, ⟨rfl, rfl, rfl⟩ | ⟨b, cs, rfl, hb2, h3, hr0, hn0⟩ | ⟨b, rfl, rfl, rfl, h3, h4⟩⟩ := ho
  · have hk : KeepsP (fun i => ¬ vB .nils i) h (h ++ [⟨.own, ys⟩]) := fun i blk _ hi hl => Keeps.append h _ i blk hi hl
    refine ⟨.slice h.length 0 zs.length (.o (Data.sz α)), h ++ [⟨.own, ys⟩], ?_, ⟨by simp at hl ⊢; omega, by simp; omega, .inr (.inl ⟨h.length, ys, by simp, by simp, h2, ?_, ?_⟩)⟩, hk, by simp, fun i hi => ?_⟩
    · simp only [List.length_nil, Nat.zero_add] at hbb hl
      simp only [appH, Nat.ne_of_gt hz, if_false]
      rw [if_pos ⟨by unfold room; omega, by unfold room; omega⟩]
    · simpa using hr.keeps (hk.mono hG)
    · simp only [List.nil_append]; intro h9; exact absurd (hGl _ h9) (by omega)
    · obtain ⟨_, _, _, e⟩ := hi; cases e; rfl
  · have hlen := hr0.len
    have hF : ∀ i ∈ F, ¬ vB (.slice b 0 xs.length (.o (Data.sz α))) i := fun i hi ⟨_, _, _, e⟩ => by cases e; exact hn0 hi
    have hFl : ∀ i ∈ F, i < h.length := fun i hi => by obtain ⟨blk, h1, _⟩ := hr0.lt hi; exact get_lt h1
    have hk : KeepsP (fun i => ¬ vB (.slice b 0 xs.length (.o (Data.sz α))) i) h (h.set b ⟨.dead, cs⟩ ++ [⟨.own, cs ++ ys⟩]) := fun i blk hi hb3 hl => by
      have hne : i ≠ b := fun e => hi ⟨_, _, _, by rw [e]⟩
      rw [List.getElem?_append_left (by simp; exact get_lt hb3), List.getElem?_set_ne (Ne.symm hne)]
      exact hb3
    refine ⟨.slice h.length 0 (xs.length + zs.length) (.o (Data.sz α)), h.set b ⟨.dead, cs⟩ ++ [⟨.own, cs ++ ys⟩], ?_, ⟨by simp; omega, by simp; omega, .inr (.inl ⟨h.length, cs ++ ys, by simp, by simp, h2, (hr0.keeps (hk.mono hF)).append (hr.keeps (hk.mono hG)), ?_⟩)⟩, hk, by simp, fun i hi => ?_⟩
    · have hgt : ¬ (0 + (xs.length + zs.length) * Data.sz α ≤ cs.length) := by
        rw [hlen, Nat.add_mul]
        have : 0 < zs.length * Data.sz α := Nat.mul_pos hz hk0
        omega
      have hcut : cut cs 0 (xs.length * Data.sz α) = some cs := by
        simp only [cut, hlen, Nat.zero_add, Nat.le_refl, if_true, List.drop_zero]
        rw [← hlen, List.take_length]
      simp only [appH, Nat.ne_of_gt hz, if_false, hb2, hk0, and_self, if_true, hgt, hcut, Option.bind_some]
      rw [if_pos ⟨by unfold room; omega, by unfold room; omega⟩]
    · intro h9
      rcases List.mem_append.1 h9 with h9 | h9
      · exact absurd (hFl _ h9) (by omega)
      · exact absurd (hGl _ h9) (by omega)
    · obtain ⟨_, _, _, e⟩ := hi; cases e; rfl
  · have hk : KeepsP (fun i => ¬ vB (.slice b 0 0 (.k 0)) i) h (h ++ [⟨.own, ys⟩]) := fun i blk _ hi hl => Keeps.append h _ i blk hi hl
    refine ⟨.slice h.length 0 zs.length (.o (Data.sz α)), h ++ [⟨.own, ys⟩], ?_, ⟨by simp at hl ⊢; omega, by simp; omega, .inr (.inl ⟨h.length, ys, by simp, by simp, h2, ?_, ?_⟩)⟩, hk, by simp, fun i hi => ?_⟩
    · simp only [List.length_nil, Nat.zero_add] at hbb hl
      have hgt : ¬ (0 + zs.length ≤ 0) := by omega
      simp only [appH, Nat.ne_of_gt hz, if_false, hgt]
      rw [if_pos ⟨by unfold room; rw [Nat.zero_add]; omega, by unfold room; omega⟩]
      simp [rdS]
    · simpa using hr.keeps (hk.mono hG)
    · simp only [List.nil_append]; intro h9; exact absurd (hGl _ h9) (by omega)
    · obtain ⟨_, _, _, e⟩ := hi; cases e; rfl
end
end GL

namespace GL
open Go

end GL

/-! the draws' frame: a cursor at the first new block, and all older blocks az they were -/
namespace GL
open Go

structure DC (h0 h : Heap) (N : Nat) : Prop where
  cur : Cur h h0.length N
  keep : Keeps h0 h

theorem DC.start {h : Heap} {v : V} {bs : List Byte} (hs : Sl h v bs) : DC h (h ++ [⟨.own, [v, vi 0, .int .u64 0]⟩]) 0 := ⟨drawTwo hs, Keeps.append h _⟩
theorem DC.mono {h0 h : Heap} {N M : Nat} (d : DC h0 h N) (hn : N ≤ M) : DC h0 h M := ⟨d.cur.mono hn, d.keep⟩
theorem DC.lt {h0 h : Heap} {N : Nat} (d : DC h0 h N) : h0.length < h.length := d.cur.lt
theorem DC.lit {h0 h : Heap} {N : Nat} (d : DC h0 h N) (l : Heap) : DC h0 (h ++ l) N := ⟨d.cur.keeps (Keeps.append h l), d.keep.trans (Keeps.append h l)⟩
theorem DC.keeps {h0 h h' : Heap} {N : Nat} (d : DC h0 h N) (hk : Keeps h h') : DC h0 h' N := ⟨d.cur.keeps hk, d.keep.trans hk⟩
/-- whatever is done to newer blocks -/
theorem DC.far {h0 h h' : Heap} {N : Nat} (d : DC h0 h N) {P : Nat → Prop} (hk : KeepsP P h h') (hp : ∀ i, i ≤ h0.length → P i) : DC h0 h' N :=
  ⟨d.cur.keepsP hk hp, Keeps.far (n := h0.length) d.keep hk (Nat.le_refl _) fun i hi => hp i (by omega)⟩
theorem DC.out {h0 h h' : Heap} {N : Nat} {α : Type} [Flat α] {v : V} {xs : List α} (d : DC h0 h N) (ho : Out (h0.length + 1) h v xs) (hk : KeepsP (fun i => ¬ vB v i) h h') : DC h0 h' N :=
  d.far hk fun i hi hv => by have := (ho.ge hv).1; omega
theorem DC.but {h0 h h' : Heap} {N M : Nat} (d : DC h0 h N) (hc : Cur h' h0.length M) (hk : KeepsBut h0.length h h') : DC h0 h' M :=
  ⟨hc, KeepsBut.keeps d.keep (Nat.le_refl _) hk⟩

theorem DC.pick {h0 h : Heap} {N : Nat} (d : DC h0 h N) (hN : N < 2 ^ 61) (n : Int) (hn : 0 ≤ n ∧ n < 2 ^ 40) : ∃ (x : Nat) (h' : Heap), call p 91 [.ptr h0.length 0, vi n] h = some (vi x, h') ∧ (x : Int) < max n 1 ∧ DC h0 h' (N + 2) ∧ KeepsBut h0.length h h' ∧ h'.length = h.length := by
  obtain ⟨m, rfl⟩ := Int.eq_ofNat_of_zero_le hn.1
  obtain ⟨_, h', e, x, rfl, hx, c, k, l⟩ := pick_ok (n := m) d.cur hN (by omega)
  exact ⟨x, h', e, by omega, d.but c k, k, l⟩
theorem DC.one {h0 h : Heap} {N : Nat} (d : DC h0 h N) (hN : N < 2 ^ 61) (n : Int) (hn : 0 ≤ n ∧ n < 2 ^ 40) : ∃ (b : Bool) (h' : Heap), call p 92 [.ptr h0.length 0, vi n] h = some (.bool b, h') ∧ DC h0 h' (N + 2) ∧ KeepsBut h0.length h h' ∧ h'.length = h.length := by
  obtain ⟨m, rfl⟩ := Int.eq_ofNat_of_zero_le hn.1
  obtain ⟨_, h', e, b, rfl, c, k, l⟩ := one_ok (n := m) d.cur hN (by omega)
  exact ⟨b, h', e, d.but c k, k, l⟩
theorem DC.among {h0 h : Heap} {N : Nat} (d : DC h0 h N) (hN : N < 2 ^ 61) {v : V} {xs : List Int} (hs : Sl h v xs) (hb : bOf v ≠ h0.length) (h1 : 0 < xs.length) (hn : xs.length < 2 ^ 40) :
    ∃ (x : Int) (h' : Heap), call p 93 [.ptr h0.length 0, v] h = some (vi x, h') ∧ x ∈ xs ∧ DC h0 h' (N + 2) ∧ KeepsBut h0.length h h' ∧ h'.length = h.length := by
  obtain ⟨_, h', e, x, hx, rfl, c, k, l⟩ := among_ok d.cur hN hs hb h1 hn
  exact ⟨x, h', e, hx, d.but c k, k, l⟩
/-- one of some that stand there -/
theorem DC.amongL {h0 h : Heap} {N : Nat} (d : DC h0 h N) (hN : N < 2 ^ 61) (xs : List Int) (n : Nat) (hn : n = xs.length) (cs : List V) (hc : cs = flats xs) (cap : Cap) (h1 : 0 < xs.length) (h2 : xs.length < 2 ^ 40) :
    ∃ (x : Int) (h' : Heap), call p 93 [.ptr h0.length 0, .slice h.length 0 n cap] (h ++ [⟨.own, cs⟩]) = some (vi x, h') ∧ x ∈ xs ∧ DC h0 h' (N + 2) ∧ KeepsBut h0.length h h' ∧ h.length ≤ h'.length := by
  have := d.lt
  obtain ⟨x, h', e, hx, d', k, l⟩ := (d.lit [⟨.own, cs⟩]).among hN (Sl.lit xs n hn cs hc cap (by omega)) (by simp [bOf]; omega) h1 h2
  exact ⟨x, h', e, hx, d', (KeepsBut.lit _).trans k, by simp at l; omega⟩
theorem DC.value {h0 h : Heap} {N : Nat} (d : DC h0 h N) (hN : N < 2 ^ 60) : ∃ (x : Val) (h' : Heap), call p 95 [.ptr h0.length 0] h = some (vv x, h') ∧ DC h0 h' (N + 20) ∧ KeepsBut h0.length h h' ∧ h.length ≤ h'.length := by
  obtain ⟨_, h', e, x, rfl, c, k, l⟩ := value_ok d.cur hN
  exact ⟨x, h', e, d.but c k, k, l⟩
end GL

namespace GL
open Go

theorem Out.cap {lo : Nat} {h : Heap} {v : V} {α : Type} [Flat α] {xs : List α} (ho : Out lo h v xs) : capOK (Flat.sz α) v := by
  obtain ⟨h1, _, ⟨rfl, rfl⟩ | ⟨b, rfl, hb, _⟩ | ⟨b, rfl, rfl, _⟩⟩ := ho
  · trivial
  · rfl
  · exact Nat.le_refl _

theorem DC.small {h0 h : Heap} {N : Nat} (d : DC h0 h N) (hN : N < 2 ^ 60) : ∃ (x : Val) (h' : Heap), call p 143 [.ptr h0.length 0] h = some (vv x, h') ∧ DC h0 h' (N + 4) ∧ KeepsBut h0.length h h' ∧ h'.length = h.length := by
  obtain ⟨b, h1, e1, d1, k1, l1⟩ := d.one (by omega) 5 (by decide)
  obtain ⟨x, h2, e2, _, d2, k2, l2⟩ := d1.pick (by omega) 4 (by decide)
  have : ∃ v h', call p 143 [.ptr h0.length 0] h = some (v, h') ∧ ∃ x : Val, v = vv x ∧ DC h0 h' (N + 4) ∧ KeepsBut h0.length h h' ∧ h'.length = h.length := by
    refine go (fn := g143) rfl rfl fun R hR => ?_
    cases b
    · simp [g143, e1, e2, fillL, resV, upd]
      exact hR _ _ ⟨⟨false, x⟩, rfl, d2, k1.trans k2, by omega⟩
    · simp [g143, e1, fillL, resV, upd]
      exact hR _ _ ⟨⟨true, 0⟩, rfl, d1.mono (by omega), k1, by omega⟩
  obtain ⟨_, h', e, x, rfl, r⟩ := this
  exact ⟨x, h', e, r⟩

theorem KeepsBut.far {c : Nat} {g h h' : Heap} {P : Nat → Prop} (h1 : KeepsBut c g h) (hk : KeepsP P h h') (hp : ∀ i, i < g.length → i ≠ c → P i) : KeepsBut c g h' := fun i blk hc hi hl =>
  hk i blk (hp i (get_lt hi) hc) (h1 i blk hc hi hl) hl

end GL

/-! GL: lists of one's own, nested ones too, that are written in place. -/
namespace GL
open Go

def OwnB (h : Heap) (b : Nat) : Prop := ∃ cs, h[b]? = some ⟨.own, cs⟩

theorem OwnB.set {h : Heap} {b c : Nat} {cs : List V} (ho : OwnB h c) (hb : b < h.length) : OwnB (h.set b ⟨.own, cs⟩) c := by
  obtain ⟨ds, hd⟩ := ho
  by_cases e : c = b
  · subst e; exact ⟨cs, by simp [hb]⟩
  · exact ⟨ds, by rw [List.getElem?_set_ne (Ne.symm e)]; exact hd⟩
theorem OwnB.keeps {P : Nat → Prop} {h h' : Heap} {b : Nat} (ho : OwnB h b) (hk : KeepsP P h h') (hp : P b) : OwnB h' b := by
  obtain ⟨ds, hd⟩ := ho
  exact ⟨ds, hk b _ hp hd (by simp)⟩

theorem layLen {cs ys cs' : List V} {o : Nat} (h : lay cs o ys = some cs') : cs'.length = cs.length ∧ o + ys.length ≤ cs.length := by
  unfold lay at h
  split at h
  · cases h; refine ⟨?_, by assumption⟩; simp; omega
  · cases h
theorem layMid {a c b ys c' : List V} {o : Nat} (h : lay c o ys = some c') : lay (a ++ c ++ b) (a.length + o) ys = some (a ++ c' ++ b) := by
  unfold lay at h ⊢
  split at h
  · rename_i hl
    cases h
    rw [if_pos (by simp; omega)]
    simp only [Option.some.injEq]
    have e1 : (a ++ c ++ b).take (a.length + o) = a ++ c.take o := by
      rw [List.append_assoc, List.take_append, List.take_of_length_le (by omega), Nat.add_sub_cancel_left, List.take_append]
      rw [show o - c.length = 0 by omega]; simp
    have e2 : (a ++ c ++ b).drop (a.length + o + ys.length) = c.drop (o + ys.length) ++ b := by
      rw [List.append_assoc, Nat.add_assoc, List.drop_append, List.drop_of_length_le (by omega), Nat.add_sub_cancel_left, List.drop_append]
      rw [show o + ys.length - c.length = 0 by omega]; simp
    rw [e1, e2]; simp
  · cases h

section
variable {α : Type} [Data α] {h : Heap} {v : V} {xs : List α} {F : List Nat}
theorem SdF.put (hs : SdF h v xs F) (hn : F.Nodup) (ho : OwnB h (bOf v)) {i : Nat} (hi : i < xs.length) {x' : α} {o : Nat} {ys : List V}
    (hx : ∀ cs G, Data.rep h xs[i] cs G → (∀ c ∈ G, c ∈ F ∧ c ≠ bOf v) → ∃ cs', lay cs o ys = some cs' ∧ ∀ h', KeepsP (fun b => b ∈ G) h h' → Data.rep h' x' cs' G) :
    ∃ h', wrH h (bOf v) (oOf v + i * Data.sz α + o) ys = some h' ∧ SdF h' v (xs.set i x') F ∧ KeepsP (fun b => b ≠ bOf v) h h' ∧ h'.length = h.length ∧ ∀ b, OwnB h b → OwnB h' b := by
  have hlen0 := hs.1
  rcases hs with ⟨_, ⟨rfl, rfl, _⟩ | ⟨b, off, cap, rfl, hcap, hs⟩⟩
  · simp at hi
  · rcases hs with ⟨rfl, _⟩ | ⟨blk, cs, G, rfl, h1, h2, h3, h4⟩
    · simp at hi
    · obtain ⟨ds, hd⟩ := ho
      simp only [bOf, oOf] at hd ⊢
      rw [hd] at h1; cases h1
      have hbG : ∀ c ∈ G, c ≠ b := fun c hc e => by subst e; exact (List.nodup_cons.1 hn).1 hc
      obtain ⟨F1, F2, F3, rfl, r2, r1, r3⟩ := h4.get i hi
      obtain ⟨c', hl, hr⟩ := hx _ F2 r2 fun c hc => ⟨List.mem_cons_of_mem _ (by simp [hc]), by exact hbG c (by simp [hc])⟩
      have hcl := h4.len
      have hle : (i + 1) * Data.sz α ≤ xs.length * Data.sz α := Nat.mul_le_mul_right _ hi
      have hs1 : (i + 1) * Data.sz α = i * Data.sz α + Data.sz α := by rw [Nat.add_mul, Nat.one_mul]
      -- the cells that the slice holds, in three
      have hcs : cs = cs.take (i * Data.sz α) ++ (cs.drop (i * Data.sz α)).take (Data.sz α) ++ cs.drop ((i + 1) * Data.sz α) := by
        rw [hs1, ← List.drop_drop, List.append_assoc, List.take_append_drop, List.take_append_drop]
      unfold cut at h3
      split at h3
      case isFalse => cases h3
      rename_i hle2
      simp only at hle2
      simp only [Option.some.injEq] at h3
      have hds : ds = ds.take off ++ cs ++ ds.drop (off + xs.length * Data.sz α) := by
        rw [← h3, ← List.drop_drop, List.append_assoc, List.take_append_drop, List.take_append_drop]
      have hol : (ds.take off).length = off := by simp; omega
      have htl : (cs.take (i * Data.sz α)).length = i * Data.sz α := by simp; omega
      have hl2 := layMid (a := cs.take (i * Data.sz α)) (b := cs.drop ((i + 1) * Data.sz α)) hl
      rw [← hcs, htl] at hl2
      have hl3 := layMid (a := ds.take off) (b := ds.drop (off + xs.length * Data.sz α)) hl2
      rw [← hds, hol] at hl3
      have hb := get_lt hd
      have hk : KeepsP (fun c => c ≠ b) h (h.set b ⟨.own, ds.take off ++ (cs.take (i * Data.sz α) ++ c' ++ cs.drop ((i + 1) * Data.sz α)) ++ ds.drop (off + xs.length * Data.sz α)⟩) := fun c blk hc hb2 _ => by
        rw [List.getElem?_set_ne (Ne.symm hc)]; exact hb2
      refine ⟨_, by rw [wrH_at hd rfl, Nat.add_assoc, hl3]; rfl, ⟨by simpa using hlen0, .inr ⟨b, off, cap, by simp, by simpa using hcap, .inr ⟨⟨.own, ds.take off ++ (cs.take (i * Data.sz α) ++ c' ++ cs.drop ((i + 1) * Data.sz α)) ++ ds.drop (off + xs.length * Data.sz α)⟩, cs.take (i * Data.sz α) ++ c' ++ cs.drop ((i + 1) * Data.sz α), _, rfl, by simp [hb], by simp, ?_, ?_⟩⟩⟩, hk, by simp, fun c hc => hc.set hb⟩
      · have hll := (layLen hl2).1
        simp only [cut, List.length_set]
        rw [if_pos (by simp only [List.length_append] at hll ⊢; rw [hol, hll]; simp; omega)]
        rw [List.append_assoc, List.drop_append_of_le_length (by omega), List.drop_of_length_le (by omega), List.nil_append, List.take_append_of_le_length (by rw [hll]; omega), List.take_of_length_le (by rw [hll]; omega)]
      · have hset : xs.set i x' = xs.take i ++ [x'] ++ xs.drop (i + 1) := by
          rw [List.set_eq_take_append_cons_drop, if_pos hi]; simp
        rw [hset]
        refine ((r1.keeps (hk.mono fun c hc => ?_)).append (.one (hr _ (hk.mono fun c hc => ?_)))).append (r3.keeps (hk.mono fun c hc => ?_))
        · exact hbG c (by simp [hc])
        · exact hbG c (by simp [hc])
        · exact hbG c (by simp [hc])
end
/-- flat data -/
theorem SdF.putF {α : Type} [Flat α] {h : Heap} {v : V} {xs : List α} {F : List Nat} (hs : SdF h v xs F) (ho : OwnB h (bOf v)) {i : Nat} (hi : i < xs.length) {x' : α} {o : Nat} {ys : List V} (hx : lay (Flat.cells xs[i]) o ys = some (Flat.cells x')) :
    ∃ h', wrH h (bOf v) (oOf v + i * Flat.sz α + o) ys = some h' ∧ SdF h' v (xs.set i x') F ∧ KeepsP (fun b => b ≠ bOf v) h h' ∧ h'.length = h.length ∧ ∀ b, OwnB h b → OwnB h' b := by
  have hn : F.Nodup := by
    rcases hs with ⟨_, ⟨rfl, rfl, rfl⟩ | ⟨b, off, cap, rfl, _, ⟨_, rfl⟩ | ⟨blk, cs, G, rfl, _, _, _, hr⟩⟩⟩
    · exact List.nodup_nil
    · exact List.nodup_nil
    · rw [(Reps.flat.1 hr).2]; simp
  refine hs.put hn ho hi fun cs G hr _ => ?_
  obtain ⟨rfl, rfl⟩ := hr
  exact ⟨_, hx, fun _ _ => ⟨rfl, rfl⟩⟩
/-- where a flat list lies -/
theorem SdF.flatF {α : Type} [Flat α] {h : Heap} {v : V} {xs : List α} {F : List Nat} (hs : SdF h v xs F) : (∀ b ∈ F, b = bOf v) ∧ F.Nodup ∧ (xs ≠ [] → F = [bOf v]) := by
  rcases hs with ⟨_, ⟨rfl, rfl, rfl⟩ | ⟨b, off, cap, rfl, _, ⟨rfl, rfl⟩ | ⟨blk, cs, G, rfl, _, _, _, hr⟩⟩⟩
  · simp
  · simp
  · rw [(Reps.flat.1 hr).2]; simp [bOf]
end GL

/-! GL: what comes in: numbers, structs and slices of them, from the reading of the model. -/
namespace GL
open Go

def AgH (h : Heap) (b0 : Nat) (ss : List (Blk × Option At)) : Prop := ∀ i s, ss[i]? = some s → h[b0 + i]? = some s.1
def AgR (ρ : Rho) (b0 : Nat) (ss : List (Blk × Option At)) : Prop := ∀ i s, ss[i]? = some s → ρ (b0 + i) = s.2

theorem AgH.left {h : Heap} {b0 : Nat} {l r : List (Blk × Option At)} (ha : AgH h b0 (l ++ r)) : AgH h b0 l := fun i s hs =>
  ha i s (by rw [List.getElem?_append_left (by obtain ⟨hl, _⟩ := List.getElem?_eq_some_iff.1 hs; exact hl)]; exact hs)
theorem AgH.right {h : Heap} {b0 : Nat} {l r : List (Blk × Option At)} (ha : AgH h b0 (l ++ r)) : AgH h (b0 + l.length) r := fun i s hs => by
  rw [Nat.add_assoc]
  exact ha (l.length + i) s (by rw [List.getElem?_append_right (by omega), Nat.add_sub_cancel_left]; exact hs)
theorem AgR.left {h : Rho} {b0 : Nat} {l r : List (Blk × Option At)} (ha : AgR h b0 (l ++ r)) : AgR h b0 l := fun i s hs =>
  ha i s (by rw [List.getElem?_append_left (by obtain ⟨hl, _⟩ := List.getElem?_eq_some_iff.1 hs; exact hl)]; exact hs)
theorem AgR.right {h : Rho} {b0 : Nat} {l r : List (Blk × Option At)} (ha : AgR h b0 (l ++ r)) : AgR h (b0 + l.length) r := fun i s hs => by
  rw [Nat.add_assoc]
  exact ha (l.length + i) s (by rw [List.getElem?_append_right (by omega), Nat.add_sub_cancel_left]; exact hs)

/-- a block that is only read, az it lies in memory -/
def SideR (fid : Nat → FuncId) (ρ : Rho) (w : World) (s : Blk × Option At) : Prop :=
  s.1.st ≠ .own ∧ (s.1.st ≠ .dead → allCell s.1.cells = true ∧ ∃ a, s.2 = some a ∧ a.cb < w.heap.size ∧ ∀ (i : Nat) (v : V), s.1.cells[i]? = some v → ∃ x, w.cell? ⟨a.cb, a.co + i, none⟩ = some x ∧ RV fid ρ v x)

/-- cells that came in, az data, with the blocks that they lead to -/
def Opened {α : Type} [Data α] (w : World) (b0 : Nat) (vs : List V) (ss : List (Blk × Option At)) (x : α) (F : List Nat) (cs : List Value) : Prop :=
  (∀ h : Heap, AgH h b0 ss → Data.rep h x vs F) ∧ (∀ b ∈ F, b0 ≤ b ∧ b < b0 + ss.length) ∧
    ∀ (fid : Nat → FuncId) (ρ : Rho), AgR ρ b0 ss → RVs fid ρ vs cs ∧ ∀ s ∈ ss, SideR fid ρ w s

def OpenedL {α : Type} [Data α] (w : World) (b0 : Nat) (vs : List V) (ss : List (Blk × Option At)) (xs : List α) (F : List Nat) (cs : List Value) : Prop :=
  (∀ h : Heap, AgH h b0 ss → Reps h xs vs F) ∧ (∀ b ∈ F, b0 ≤ b ∧ b < b0 + ss.length) ∧
    ∀ (fid : Nat → FuncId) (ρ : Rho), AgR ρ b0 ss → RVs fid ρ vs cs ∧ ∀ s ∈ ss, SideR fid ρ w s

theorem RVs.app {fid : Nat → FuncId} {ρ : Rho} : ∀ {a b : List V} {c d : List Value}, RVs fid ρ a c → RVs fid ρ b d → RVs fid ρ (a ++ b) (c ++ d)
  | [], _, _, _, .nil, h => h
  | _ :: _, _, _, _, .cons h1 h2, h => .cons h1 (RVs.app h2 h)

/-- a type of the program's that is read az such data -/
class ArgT (P : Program) (t : TypeId) (α : Type) [Data α] : Prop where
  opens : ∀ {H : Type} {enc : TypeId × Value → H} {w : World} {fuel : Nat} {cs : List Value} {d : DataW H} {ps : List MemPlace},
    DataW.trod enc P w 0 (fun _ => true) true fuel t cs = some (d, ps) → ∀ b0, ∃ (vs : List V) (ss : List (Blk × Option At)) (x : α) (F : List Nat), Opened w b0 vs ss x F cs

theorem ArgT.int {P : Program} {t : TypeId} (h : P.underlying t = some (.int .i64)) : ArgT P t Int := ⟨fun {H enc w fuel cs d ps} ht b0 => by
  obtain ⟨n, rfl, _⟩ := DataW.trod_int h ht
  exact ⟨[vi n], [], n, [], fun _ _ => ⟨rfl, rfl⟩, by simp, fun fid ρ _ => ⟨.cons (.int _ _) .nil, by simp⟩⟩⟩
theorem ArgT.bool {P : Program} {t : TypeId} (h : P.underlying t = some .bool) : ArgT P t Bool := ⟨fun {H enc w fuel cs d ps} ht b0 => by
  obtain ⟨n, rfl, _⟩ := DataW.trod_bool h ht
  exact ⟨[.bool n], [], n, [], fun _ _ => ⟨rfl, rfl⟩, by simp, fun fid ρ _ => ⟨.cons (.bool _) .nil, by simp⟩⟩⟩

theorem mapM_get {α β : Type} {f : α → Option β} : ∀ {l : List α} {r : List β}, l.mapM f = some r → r.length = l.length ∧ ∀ i (hi : i < l.length) (hr : i < r.length), f l[i] = some r[i]
  | [], r, h => by simp at h; subst h; simp
  | x :: l, r, h => by
    rw [List.mapM_cons] at h
    simp only [bind, pure] at h
    obtain ⟨y, h1, h⟩ := Option.bind_eq_some_iff.1 h
    obtain ⟨ys, h2, h⟩ := Option.bind_eq_some_iff.1 h
    cases h
    obtain ⟨e, k⟩ := mapM_get h2
    refine ⟨by simp [e], fun i hi hr => ?_⟩
    cases i with
    | zero => exact h1
    | succ i => exact k i (by simpa using hi) (by simpa using hr)

theorem cell_spot {w : World} {a : Addr} {v : Value} (h : w.cell? a = some v) : a.spot = none ∧ a.block < w.heap.size := by
  simp only [World.cell?] at h
  split at h
  · rename_i cs T fr hob
    split at h
    · cases h
    · rename_i hsp
      exact ⟨by simpa using hsp, lt_heap hob⟩
  · cases h

/-- these values stand there in a row -/
def Row (w : World) (cb co : Nat) (cs : List Value) : Prop := ∀ i y, cs[i]? = some y → w.cell? ⟨cb, co + i, none⟩ = some y
theorem Row.app {w : World} {cb co : Nat} {a b : List Value} (h1 : Row w cb co a) (h2 : Row w cb (co + a.length) b) : Row w cb co (a ++ b) := fun i y hy => by
  rcases Nat.lt_or_ge i a.length with hi | hi
  · rw [List.getElem?_append_left hi] at hy; exact h1 i y hy
  · rw [List.getElem?_append_right hi] at hy
    have := h2 (i - a.length) y hy
    rwa [show co + a.length + (i - a.length) = co + i by omega] at this

theorem cells_row {w : World} {cb co n : Nat} {cs : List Value} (h : w.cells? 0 ⟨cb, co, none⟩ n = some cs) : cs.length = n ∧ Row w cb co cs := by
  simp only [World.cells?, Nat.zero_le, if_true] at h
  obtain ⟨e, k⟩ := mapM_get h
  simp at e
  refine ⟨e, fun i y hy => ?_⟩
  obtain ⟨hi, rfl⟩ := List.getElem?_eq_some_iff.1 hy
  have := k i (by simpa [e] using hi) hi
  rw [List.getElem_range, add_mk] at this
  exact this

section
variable {P : Program} {e : TypeId} {α : Type} [Data α] [A : ArgT P e α] {H : Type} {enc : TypeId × Value → H} {w : World} {fuel : Nat}

theorem opensL {k : Nat} (cb : Nat) : ∀ (css : List (List Value)) (co b0 : Nat), (∀ i (hi : i < css.length), w.cells? 0 ⟨cb, co + i * k, none⟩ k = some css[i] ∧ ∃ d ps, DataW.trod enc P w 0 (fun _ => true) true fuel e css[i] = some (d, ps)) →
    ∃ (vs : List V) (ss : List (Blk × Option At)) (xs : List α) (F : List Nat), xs.length = css.length ∧ OpenedL w b0 vs ss xs F css.flatten ∧ Row w cb co css.flatten
  | [], co, b0, _ => ⟨[], [], [], [], rfl, ⟨fun _ _ => .nil, by simp, fun _ _ _ => ⟨.nil, by simp⟩⟩, by intro i y h; simp at h⟩
  | c :: css, co, b0, hall => by
    obtain ⟨hc, d, ps, ht⟩ := hall 0 (by simp)
    simp only [Nat.zero_mul, Nat.add_zero, List.getElem_cons_zero] at hc ht
    obtain ⟨vs, ss, x, F, o1, o2, o3⟩ := A.opens ht b0
    obtain ⟨hl, hrow⟩ := cells_row hc
    obtain ⟨vs', ss', xs', F', hx, ⟨q1, q2, q3⟩, hrow'⟩ := opensL cb css (co + k) (b0 + ss.length) fun i hi => by
      have := hall (i + 1) (by simpa using hi)
      rw [show co + (i + 1) * k = co + k + i * k by rw [Nat.add_mul]; omega] at this
      simpa using this
    refine ⟨vs ++ vs', ss ++ ss', x :: xs', F ++ F', by simp [hx], ⟨fun h ha => ⟨vs, vs', F, F', rfl, rfl, o1 h ha.left, q1 h ha.right⟩, fun b hb => ?_, fun fid ρ ha => ?_⟩, ?_⟩
    · rcases List.mem_append.1 hb with hb | hb
      · have := o2 b hb; simp; omega
      · have := q2 b hb; simp; omega
    · obtain ⟨r1, r2⟩ := o3 fid ρ ha.left
      obtain ⟨r3, r4⟩ := q3 fid ρ ha.right
      refine ⟨by rw [List.flatten_cons]; exact r1.app r3, fun s hs => ?_⟩
      rcases List.mem_append.1 hs with hs | hs
      · exact r2 s hs
      · exact r4 s hs
    · rw [List.flatten_cons]
      exact hrow.app (by rw [hl]; exact hrow')

theorem ArgT.list {t : TypeId} (h : P.underlying t = some (.slice e)) (hsz : P.cellsOf e = Data.sz α) : ArgT P t (List α) := ⟨fun {H enc w fuel cs d ps} ht b0 => by
  rcases DataW.trod_slice h ht with ⟨rfl, _⟩ | ⟨a, len, cap, els, rest, f, rfl, rfl, _, _, hlc, hcm, le, ke, kr, _⟩
  · exact ⟨[.nils], [], [], [], fun _ _ => ⟨.nils, rfl, .nil⟩, by simp, fun fid ρ _ => ⟨.cons .nils .nil, by simp⟩⟩
  · have lr := (kr rfl).1
    replace kr := (kr rfl).2
    have hml : cap < 2 ^ 63 := by unfold maxLen at hcm; omega
    have hpos := Data.pos (α := α)
    by_cases h0 : cap = 0
    · subst h0
      have : len = 0 := by omega
      subst this
      refine ⟨[.slice b0 0 0 (.k 0)], [(deadBlk, some ⟨0, 0, 0⟩)], [], [], fun _ _ => ⟨_, rfl, by simp, .inr ⟨b0, 0, _, rfl, Nat.le_refl _, .inl ⟨rfl, rfl⟩⟩⟩, by simp, fun fid ρ hρ => ⟨.cons ?_ .nil, fun s hs => ?_⟩⟩
      · exact .slice (hρ 0 _ rfl) (Nat.le_refl _) (fun c0 h => by cases h; rfl) (fun k h => by cases h) (fun h => absurd rfl h)
      · simp at hs; subst hs
        exact ⟨by simp [deadBlk], fun h => absurd rfl h⟩
    · -- the cells of each element, the spare ones too
      have key : ∀ i, i < cap → ∃ c d ps, w.cells? 0 (a.add (i * P.cellsOf e)) (P.cellsOf e) = some c ∧ DataW.trod enc P w 0 (fun _ => true) true f e c = some (d, ps) := fun i hi => by
        rcases Nat.lt_or_ge i len with hi' | hi'
        · have := ke i hi'
          rw [List.getElem?_eq_getElem (by omega)] at this
          obtain ⟨c, h1, h2⟩ := Option.bind_eq_some_iff.1 this
          exact ⟨c, _, _, h1, h2⟩
        · have := kr (i - len) (by omega)
          rw [List.getElem?_eq_getElem (by omega)] at this
          obtain ⟨c, h1, h2⟩ := Option.bind_eq_some_iff.1 this
          rw [show len + (i - len) = i by omega] at h1
          exact ⟨c, _, _, h1, h2⟩
      obtain ⟨bk, off, spot⟩ := a
      have hspot : spot = none ∧ bk < w.heap.size := by
        obtain ⟨c, _, _, h1, _⟩ := key 0 (by omega)
        simp only [World.cells?, Nat.zero_le, if_true] at h1
        obtain ⟨l1, k1⟩ := mapM_get h1
        have := k1 0 (by simp; omega) (by simp at l1; omega)
        simp only [Nat.zero_mul, List.getElem_range, Addr.add, if_true] at this
        exact cell_spot this
      obtain ⟨rfl, hbk⟩ := hspot
      have hcss : ∃ css : List (List Value), css.length = cap ∧ ∀ i (hi : i < css.length), w.cells? 0 ⟨bk, off + i * Data.sz α, none⟩ (Data.sz α) = some css[i] ∧ ∃ d ps, DataW.trod enc P w 0 (fun _ => true) true f e css[i] = some (d, ps) := by
        rw [hsz] at key
        clear ht ke kr le lr h0 hlc hcm hml
        have : ∀ n, n ≤ cap → ∃ css : List (List Value), css.length = n ∧ ∀ i (hi : i < css.length), w.cells? 0 ⟨bk, off + i * Data.sz α, none⟩ (Data.sz α) = some css[i] ∧ ∃ d ps, DataW.trod enc P w 0 (fun _ => true) true f e css[i] = some (d, ps) := by
          intro n
          induction n with
          | zero => exact fun _ => ⟨[], rfl, fun i hi => by simp at hi⟩
          | succ n ih =>
            intro hn
            obtain ⟨css, hl, hc⟩ := ih (by omega)
            obtain ⟨c, d, ps, h1, h2⟩ := key n (by omega)
            rw [add_mk] at h1
            refine ⟨css ++ [c], by simp [hl], fun i hi => ?_⟩
            simp [hl] at hi
            by_cases hin : i < css.length
            · rw [List.getElem_append_left hin]; exact hc i hin
            · have : i = n := by omega
              subst this
              have e1 : (css ++ [c])[i]'(by simp [hl]) = c := by simp [hl]
              rw [e1]; exact ⟨h1, d, ps, h2⟩
        exact this cap (Nat.le_refl _)
      obtain ⟨css, hcl, hcs⟩ := hcss
      obtain ⟨vs, ss, xs, F, hx, ⟨o1, o2, o3⟩, hrow⟩ := opensL (P := P) (α := α) bk css off (b0 + 1) hcs
      have hxl : xs.length = cap := by omega
      have hsub : (xs.take len).length = len := by simp; omega
      have hF : ∀ h : Heap, AgH h (b0 + 1) ss → ∃ F1, (∀ b ∈ F1, b ∈ F) ∧ Reps h (xs.take len) (vs.take (len * Data.sz α)) F1 := fun h ha => by
        obtain ⟨F1, F2, f, h1, _⟩ := (o1 h ha).cut2 len (by omega)
        exact ⟨F1, fun b hb => by rw [f]; exact List.mem_append_left _ hb, h1⟩
      -- the blocks of the first ones are the same in any memory
      obtain ⟨F1, hF1, hR1⟩ : ∃ F1, (∀ b ∈ F1, b ∈ F) ∧ ∀ h : Heap, AgH h (b0 + 1) ss → Reps h (xs.take len) (vs.take (len * Data.sz α)) F1 := by
        let hh : Heap := List.replicate (b0 + 1) deadBlk ++ ss.map (·.1)
        have ha : AgH hh (b0 + 1) ss := fun i s hs => by
          show (List.replicate (b0 + 1) deadBlk ++ ss.map (·.1))[b0 + 1 + i]? = _
          rw [List.getElem?_append_right (by simp)]
          simp [hs]
        obtain ⟨F1, f1, r1⟩ := hF hh ha
        refine ⟨F1, f1, fun h ha' => r1.keeps fun b blk hb hbk hl => ?_⟩
        obtain ⟨g1, g2⟩ := o2 b (f1 b hb)
        obtain ⟨i, rfl⟩ : ∃ i, b = b0 + 1 + i := ⟨b - (b0 + 1), by omega⟩
        have hi : i < ss.length := by omega
        have e1 := ha i _ (List.getElem?_eq_getElem hi)
        have e2 := ha' i _ (List.getElem?_eq_getElem hi)
        rw [e1] at hbk; cases hbk; exact e2
      refine ⟨[.slice b0 0 len (.k cap)], (⟨.ro, vs⟩, some ⟨bk, off, cap * Data.sz α⟩) :: ss, xs.take len, b0 :: F1, fun h ha => ⟨_, rfl, by rw [hsub]; omega, .inr ⟨b0, 0, .k cap, by rw [hsub], by rw [hsub]; exact hlc, .inr ⟨⟨.ro, vs⟩, _, F1, rfl, ha 0 _ rfl, by simp, ?_, hR1 h ?_⟩⟩⟩, fun b hb => ?_, fun fid ρ ha => ?_⟩
      · rw [hsub]
        have hv : ∀ h : Heap, AgH h (b0 + 1) ss → vs.length = cap * Data.sz α := fun h ha => by rw [(o1 h ha).len, hxl]
        have hvl := hv h fun i s hs => by
          have := ha (i + 1) s (by simpa using hs)
          rwa [show b0 + (i + 1) = b0 + 1 + i by omega] at this
        have : len * Data.sz α ≤ cap * Data.sz α := Nat.mul_le_mul_right _ hlc
        simp only [cut, Nat.zero_add, List.drop_zero]
        rw [if_pos (by omega)]
      · intro i s hs
        have := ha (i + 1) s (by simpa using hs)
        rwa [show b0 + (i + 1) = b0 + 1 + i by omega] at this
      · rcases List.mem_cons.1 hb with rfl | hb
        · simp
        · have := o2 b (hF1 b hb); simp; omega
      · have ha' : AgR ρ (b0 + 1) ss := fun i s hs => by
          have := ha (i + 1) s (by simpa using hs)
          rwa [show b0 + (i + 1) = b0 + 1 + i by omega] at this
        obtain ⟨r1, r2⟩ := o3 fid ρ ha'
        refine ⟨.cons (.slice (ha 0 _ rfl) hlc (fun c0 h => by cases h; rfl) (fun k h => by cases h) fun _ => rfl) .nil, fun s hs => ?_⟩
        rcases List.mem_cons.1 hs with rfl | hs
        · refine ⟨by simp, fun _ => ⟨?_, ⟨bk, off, cap * Data.sz α⟩, rfl, hbk, fun i v hv => ?_⟩⟩
          · have hh : AgH (List.replicate (b0 + 1) deadBlk ++ ss.map (·.1)) (b0 + 1) ss := fun i s hs => by
              rw [List.getElem?_append_right (by simp)]
              simp [hs]
            exact (o1 _ hh).ok
          · obtain ⟨y, hy, hv'⟩ := r1.get hv
            exact ⟨y, hrow i y hy, hv'⟩
        · exact r2 s hs⟩
end
end GL

/-! GL: a law's call, from whatever comes in. -/
namespace GL
open Go

instance pairData {α β : Type} [Data α] [Data β] : Data (α × β) where
  sz := Data.sz α + Data.sz β
  pos := Nat.lt_of_lt_of_le (Data.pos (α := α)) (Nat.le_add_right _ _)
  rep := fun h x cs F => ∃ c d F1 F2, cs = c ++ d ∧ F = F1 ++ F2 ∧ Data.rep h x.1 c F1 ∧ Data.rep h x.2 d F2
  len := by rintro h a cs F ⟨c, d, F1, F2, rfl, rfl, h1, h2⟩; rw [List.length_append, Data.len h1, Data.len h2]
  ok := by
    rintro h a cs F ⟨c, d, F1, F2, rfl, rfl, h1, h2⟩
    have a := Data.ok h1
    have b := Data.ok h2
    simp only [allCell, List.all_append, Bool.and_eq_true] at a b ⊢
    exact ⟨a, b⟩
  keeps := by
    rintro h h' a cs F ⟨c, d, F1, F2, rfl, rfl, h1, h2⟩ hk
    exact ⟨c, d, F1, F2, rfl, rfl, Data.keeps h1 (hk.mono fun b hb => List.mem_append_left _ hb), Data.keeps h2 (hk.mono fun b hb => List.mem_append_right _ hb)⟩
  lt := by
    rintro h a cs F b ⟨c, d, F1, F2, rfl, rfl, h1, h2⟩ hb
    rcases List.mem_append.1 hb with hb | hb
    · exact Data.lt h1 hb
    · exact Data.lt h2 hb

theorem Opened.pair {α β : Type} [Data α] [Data β] {w : World} {b0 : Nat} {vs vs' : List V} {ss ss' : List (Blk × Option At)} {x : α} {y : β} {F F' : List Nat} {cs cs' : List Value}
    (o : Opened w b0 vs ss x F cs) (q : Opened w (b0 + ss.length) vs' ss' y F' cs') : Opened w b0 (vs ++ vs') (ss ++ ss') (x, y) (F ++ F') (cs ++ cs') := by
  obtain ⟨o1, o2, o3⟩ := o
  obtain ⟨q1, q2, q3⟩ := q
  refine ⟨fun h ha => ⟨vs, vs', F, F', rfl, rfl, o1 h ha.left, q1 h ha.right⟩, fun b hb => ?_, fun fid ρ ha => ?_⟩
  · rcases List.mem_append.1 hb with hb | hb
    · have := o2 b hb; simp; omega
    · have := q2 b hb; simp; omega
  · obtain ⟨r1, r2⟩ := o3 fid ρ ha.left
    obtain ⟨r3, r4⟩ := q3 fid ρ ha.right
    refine ⟨r1.app r3, fun s hs => ?_⟩
    rcases List.mem_append.1 hs with hs | hs
    · exact r2 s hs
    · exact r4 s hs
theorem Opened.map {α β : Type} [Data α] [Data β] {w : World} {b0 : Nat} {vs : List V} {ss : List (Blk × Option At)} {x : α} {F : List Nat} {cs : List Value} (f : α → β) (hf : ∀ h a cs F, Data.rep h a cs F → Data.rep h (f a) cs F)
    (o : Opened w b0 vs ss x F cs) : Opened w b0 vs ss (f x) F cs := ⟨fun h ha => hf _ _ _ _ (o.1 h ha), o.2⟩

/-- the fields from here on -/
def OpensF (P : Program) (fs : List Field) (off tot : Nat) (α : Type) [Data α] : Prop :=
  ∀ {H : Type} {enc : TypeId × Value → H} {w : World} {n : Nat} {cs : List Value}, cs.length = tot → (∀ f ∈ fs, ∃ y, DataW.trod enc P w 0 (fun _ => true) true n f.type ((cs.drop f.offset).take (P.cellsOf f.type)) = some y) →
    ∀ b0, ∃ (vs : List V) (ss : List (Blk × Option At)) (x : α) (F : List Nat), Opened w b0 vs ss x F (cs.drop off)

theorem OpensF.cons {P : Program} {f : Field} {fs : List Field} {off tot : Nat} {α β : Type} [Data α] [Data β] (A : ArgT P f.type α) (h1 : f.offset = off) (hr : OpensF P fs (off + P.cellsOf f.type) tot β) : OpensF P (f :: fs) off tot (α × β) := fun {H enc w n cs} hl hf b0 => by
  obtain ⟨⟨d, ps⟩, hy⟩ := hf f (List.mem_cons_self ..)
  rw [h1] at hy
  obtain ⟨vs, ss, x, F, o⟩ := A.opens hy b0
  obtain ⟨vs', ss', x', F', o'⟩ := hr hl (fun g hg => hf g (List.mem_cons_of_mem _ hg)) (b0 + ss.length)
  refine ⟨vs ++ vs', ss ++ ss', (x, x'), F ++ F', ?_⟩
  have := o.pair o'
  rwa [← List.drop_drop, List.take_append_drop] at this
/-- one argument -/
def ArgIn {α : Type} [Data α] (w : World) (b0 : Nat) (x : V) (ss : List (Blk × Option At)) (a : α) (F : List Nat) (agg : Bool) (v : Value) : Prop :=
  (∀ h : Heap, AgH h b0 ss → ∃ vs, x = (if agg = true then .agg vs else vs.headD .nils) ∧ (agg = false → vs = [x]) ∧ Data.rep h a vs F) ∧ (∀ b ∈ F, b0 ≤ b ∧ b < b0 + ss.length) ∧
    ∀ (fid : Nat → FuncId) (ρ : Rho), AgR ρ b0 ss → RV fid ρ x v ∧ ∀ s ∈ ss, SideR fid ρ w s

/-- all arguments -/
inductive ArgsIn (w : World) : Nat → List V → List (Blk × Option At) → List Value → Prop
  | nil {b0 : Nat} : ArgsIn w b0 [] [] []
  | cons {α : Type} [Data α] {b0 : Nat} {x : V} {ss ss' : List (Blk × Option At)} {a : α} {F : List Nat} {agg : Bool} {v : Value} {xs : List V} {vs : List Value} :
      ArgIn w b0 x ss a F agg v → ArgsIn w (b0 + ss.length) xs ss' vs → ArgsIn w b0 (x :: xs) (ss ++ ss') (v :: vs)

theorem ArgsIn.out {w : World} {b0 : Nat} {xs : List V} {ss : List (Blk × Option At)} {vs : List Value} (h : ArgsIn w b0 xs ss vs) (fid : Nat → FuncId) (ρ : Rho) (ha : AgR ρ b0 ss) : RVs fid ρ xs vs ∧ ∀ s ∈ ss, SideR fid ρ w s := by
  induction h with
  | nil => exact ⟨.nil, by simp⟩
  | cons h1 _ ih =>
    obtain ⟨_, _, h3⟩ := h1
    obtain ⟨r1, r2⟩ := h3 fid ρ ha.left
    obtain ⟨r3, r4⟩ := ih ha.right
    refine ⟨.cons r1 r3, fun s hs => ?_⟩
    rcases List.mem_append.1 hs with hs | hs
    · exact r2 s hs
    · exact r4 s hs

/-- what an argument is, at the start -/
theorem ArgIn.at {α : Type} [Data α] {w : World} {x : V} {l m r : List (Blk × Option At)} {a : α} {F : List Nat} {agg : Bool} {v : Value} (h : ArgIn w l.length x m a F agg v) :
    ∃ vs, x = (if agg = true then .agg vs else vs.headD .nils) ∧ (agg = false → vs = [x]) ∧ Data.rep (sideH (l ++ m ++ r)) a vs F := h.1 _ fun i s hs => by
  show (List.map (·.1) (l ++ m ++ r))[l.length + i]? = _
  have hi := (List.getElem?_eq_some_iff.1 hs).1
  rw [List.getElem?_map, List.append_assoc, List.getElem?_append_right (by omega), Nat.add_sub_cancel_left, List.getElem?_append_left hi, hs]
  rfl
end GL

namespace GL
open Go

theorem mem_take_succ {α : Type} {l : List α} {i : Nat} (hi : i < l.length) {x : α} : x ∈ l.take (i + 1) ↔ x ∈ l.take i ∨ x = l[i] := by
  rw [List.take_succ_eq_append_getElem hi, List.mem_append, List.mem_singleton]
theorem all_take_succ {α : Type} {l : List α} {i : Nat} (hi : i < l.length) {P : α → Prop} : (∀ x ∈ l.take (i + 1), P x) ↔ (∀ x ∈ l.take i, P x) ∧ P l[i] := by
  constructor
  · exact fun h => ⟨fun x hx => h x ((mem_take_succ hi).2 (.inl hx)), h _ ((mem_take_succ hi).2 (.inr rfl))⟩
  · rintro ⟨h1, h2⟩ x hx
    rcases (mem_take_succ hi).1 hx with hx | rfl
    · exact h1 x hx
    · exact h2

/-- blocks of one's own, made just now -/
structure Fresh (lo : Nat) (h : Heap) (F : List Nat) : Prop where
  nodup : F.Nodup
  ge : ∀ b ∈ F, lo ≤ b
  own : ∀ b ∈ F, OwnB h b
theorem Fresh.nil {lo : Nat} {h : Heap} : Fresh lo h [] := ⟨List.nodup_nil, by simp, by simp⟩
theorem Fresh.keeps {lo : Nat} {h h' : Heap} {F : List Nat} (hf : Fresh lo h F) (hk : KeepsP (fun b => b ∈ F) h h') : Fresh lo h' F := ⟨hf.nodup, hf.ge, fun b hb => (hf.own b hb).keeps hk hb⟩
theorem Fresh.mono {lo lo' : Nat} {h : Heap} {F : List Nat} (hf : Fresh lo h F) (hl : lo' ≤ lo) : Fresh lo' h F := ⟨hf.nodup, fun b hb => Nat.le_trans hl (hf.ge b hb), hf.own⟩
theorem OwnB.lt {h : Heap} {b : Nat} (ho : OwnB h b) : b < h.length := by obtain ⟨_, h1⟩ := ho; exact get_lt h1
theorem Fresh.app {lo : Nat} {h h' : Heap} {F G : List Nat} (hf : Fresh lo h F) (hg : Fresh h.length h' G) (hk : Keeps h h') (hl : lo ≤ h.length) : Fresh lo h' (F ++ G) := by
  have hf' := hf.keeps (hk.p _)
  refine ⟨List.nodup_append.2 ⟨hf.nodup, hg.nodup, fun a ha b hb e => ?_⟩, fun b hb => ?_, fun b hb => ?_⟩
  · have := (hf.own a ha).lt
    have := hg.ge b hb
    omega
  · rcases List.mem_append.1 hb with hb | hb
    · exact hf.ge b hb
    · have := hg.ge b hb; omega
  · rcases List.mem_append.1 hb with hb | hb
    · exact hf'.own b hb
    · exact hg.own b hb

end GL

namespace GL
open Go

def okP (w no p h : Int) : Prop :=
  (0 ≤ p ∧ p ≤ 3) ∧ (0 ≤ h ∧ h ≤ 2) ∧ ¬ (h = 1 ∧ p = 0) ∧ ¬ (h = 2 ∧ p ≠ 3) ∧ ¬ (p = 2 ∧ w ≠ 1) ∧ ¬ (w = 1 ∧ h ≠ 1) ∧ ¬ (p = 3 ∧ w ≠ 2 ∧ ¬ (w = 0 ∧ no = 1))
instance (w no p h : Int) : Decidable (okP w no p h) := by unfold okP; infer_instance
end GL

namespace GL
open Go

/-- all of a list, laid anew -/
theorem appNew {α : Type} [Flat α] {h : Heap} {v : V} {xs : List α} (hs : Sl h v xs) (hl : xs.length ≤ 2 ^ 20) {k bytes : Nat} (hk : k = Flat.sz α) (hb : bytes ≤ 2 ^ 8) :
    rdS (h ++ [⟨.own, []⟩]) k v xs.length = some (flats xs) ∧ ∃ r h', appH k bytes (.slice h.length 0 0 (.k 0)) xs.length (flats xs) (h ++ [⟨.own, []⟩]) = some (r, h') ∧ ∃ F, SdF h' r xs F ∧ Fresh h.length h' F ∧ Keeps h h' ∧ h.length ≤ h'.length := by
  have hs' := hs.keeps (Keeps.append h [⟨.own, []⟩])
  have e1 := hs'.rdS xs.length (Nat.le_refl _)
  rw [List.take_length] at e1
  refine ⟨by rw [hk]; exact e1, ?_⟩
  by_cases h0 : xs.length = 0
  · have : xs = [] := List.length_eq_zero_iff.1 h0
    subst this
    exact ⟨.slice h.length 0 0 (.k 0), h ++ [⟨.own, []⟩], by simp [appH, lenV], [], ⟨by simp, .inr ⟨h.length, 0, .k 0, rfl, Nat.le_refl _, .inl ⟨rfl, rfl⟩⟩⟩, Fresh.nil, Keeps.append h _, by simp⟩
  · have ho : Out h.length (h ++ [⟨.own, []⟩]) (.slice h.length 0 0 (.k 0)) ([] : List α) := Out.empty (Nat.le_refl _) (by simp)
    obtain ⟨r, h', e, o', k', l', b'⟩ := ho.app xs (by omega) hb (by simp; omega) hk rfl rfl
    simp only [List.nil_append] at o'
    have hlen : h.length < h'.length := by simp at l'; omega
    obtain ⟨F, hF, hF2, hF3⟩ := o'.sl.sdF o'.cap
    refine ⟨r, h', e, F, hF, ⟨hF.flatF.2.1, fun b hb => ?_, fun b hb => ?_⟩, Keeps.far (n := h.length) (Keeps.append h _) k' (Nat.le_refl _) fun i hi ⟨_, _, _, e⟩ => by cases e; omega, by omega⟩
    · exact (o'.ge (hF2 b hb).2).1
    · obtain ⟨_, _, ⟨rfl, rfl⟩ | ⟨b1, rfl, hb1, _⟩ | ⟨b1, rfl, rfl, _⟩⟩ := o'
      · simp at h0
      · have := (hF2 b hb).1; simp [bOf] at this; subst this; exact ⟨_, hb1⟩
      · simp at h0

end GL

/-! GL: nested lists of one's own: an element is written, or what it leads to. -/
namespace GL
open Go
section
variable {α : Type} [Data α] {h : Heap} {v : V} {xs : List α} {F : List Nat}

/-- an element is laid anew -/
theorem SdF.putN (hs : SdF h v xs F) (hn : F.Nodup) (ho : OwnB h (bOf v)) {i : Nat} (hi : i < xs.length) {x' : α} {cs' : List V} {G' : List Nat} (hr : Data.rep h x' cs' G') (hG : ∀ b ∈ G', b ∉ F) (hGn : G'.Nodup) :
    ∃ h' F', wrH h (bOf v) (oOf v + i * Data.sz α) cs' = some h' ∧ SdF h' v (xs.set i x') F' ∧ F'.Nodup ∧ (∀ b ∈ F', b ∈ F ∨ b ∈ G') ∧ KeepsP (fun b => b ≠ bOf v) h h' ∧ h'.length = h.length ∧ ∀ b, OwnB h b → OwnB h' b := by
  have hlen0 := hs.1
  rcases hs with ⟨_, ⟨rfl, rfl, _⟩ | ⟨b, off, cap, rfl, hcap, hs⟩⟩
  · simp at hi
  · rcases hs with ⟨rfl, _⟩ | ⟨blk, cs, G, rfl, h1, h2, h3, h4⟩
    · simp at hi
    · obtain ⟨ds, hd⟩ := ho
      simp only [bOf, oOf] at hd ⊢
      rw [hd] at h1; cases h1
      have hbG : ∀ c ∈ G, c ≠ b := fun c hc e => by subst e; exact (List.nodup_cons.1 hn).1 hc
      have hGnd := (List.nodup_cons.1 hn).2
      obtain ⟨F1, F2, F3, rfl, r2, r1, r3⟩ := h4.get i hi
      have hcl := h4.len
      have hle : (i + 1) * Data.sz α ≤ xs.length * Data.sz α := Nat.mul_le_mul_right _ hi
      have hs1 : (i + 1) * Data.sz α = i * Data.sz α + Data.sz α := by rw [Nat.add_mul, Nat.one_mul]
      have hcs : cs = cs.take (i * Data.sz α) ++ (cs.drop (i * Data.sz α)).take (Data.sz α) ++ cs.drop ((i + 1) * Data.sz α) := by
        rw [hs1, ← List.drop_drop, List.append_assoc, List.take_append_drop, List.take_append_drop]
      have hmid : ((cs.drop (i * Data.sz α)).take (Data.sz α)).length = Data.sz α := by simp; omega
      have hl : lay ((cs.drop (i * Data.sz α)).take (Data.sz α)) 0 cs' = some cs' := by
        unfold lay
        have hc' := Data.len hr
        rw [if_pos (by omega)]
        simp only [List.take_zero, List.nil_append, Nat.zero_add]
        rw [List.drop_of_length_le (by omega), List.append_nil]
      unfold cut at h3
      split at h3
      case isFalse => cases h3
      rename_i hle2
      simp only at hle2
      simp only [Option.some.injEq] at h3
      have hds : ds = ds.take off ++ cs ++ ds.drop (off + xs.length * Data.sz α) := by
        rw [← h3, ← List.drop_drop, List.append_assoc, List.take_append_drop, List.take_append_drop]
      have hol : (ds.take off).length = off := by simp; omega
      have htl : (cs.take (i * Data.sz α)).length = i * Data.sz α := by simp; omega
      have hl2 := layMid (a := cs.take (i * Data.sz α)) (b := cs.drop ((i + 1) * Data.sz α)) hl
      rw [← hcs, htl, Nat.add_zero] at hl2
      have hl3 := layMid (a := ds.take off) (b := ds.drop (off + xs.length * Data.sz α)) hl2
      rw [← hds, hol] at hl3
      have hb := get_lt hd
      have hk : KeepsP (fun c => c ≠ b) h (h.set b ⟨.own, ds.take off ++ (cs.take (i * Data.sz α) ++ cs' ++ cs.drop ((i + 1) * Data.sz α)) ++ ds.drop (off + xs.length * Data.sz α)⟩) := fun c blk hc hb2 _ => by
        rw [List.getElem?_set_ne (Ne.symm hc)]; exact hb2
      have hG'b : ∀ c ∈ G', c ≠ b := fun c hc e => hG c hc (by rw [e]; exact List.mem_cons_self ..)
      refine ⟨_, b :: (F1 ++ G' ++ F3), by rw [wrH_at hd rfl, hl3]; rfl, ⟨by simpa using hlen0, .inr ⟨b, off, cap, by simp, by simpa using hcap, .inr ⟨⟨.own, ds.take off ++ (cs.take (i * Data.sz α) ++ cs' ++ cs.drop ((i + 1) * Data.sz α)) ++ ds.drop (off + xs.length * Data.sz α)⟩, cs.take (i * Data.sz α) ++ cs' ++ cs.drop ((i + 1) * Data.sz α), _, rfl, by simp [hb], by simp, ?_, ?_⟩⟩⟩, ?_, ?_, hk, by simp, fun c hc => hc.set hb⟩
      · have hll := (layLen hl2).1
        simp only [cut, List.length_set]
        rw [if_pos (by simp only [List.length_append] at hll ⊢; rw [hol, hll]; simp; omega)]
        rw [List.append_assoc, List.drop_append_of_le_length (by omega), List.drop_of_length_le (by omega), List.nil_append, List.take_append_of_le_length (by rw [hll]; omega), List.take_of_length_le (by rw [hll]; omega)]
      · have hset : xs.set i x' = xs.take i ++ [x'] ++ xs.drop (i + 1) := by
          rw [List.set_eq_take_append_cons_drop, if_pos hi]; simp
        rw [hset]
        refine ((r1.keeps (hk.mono fun c hc => ?_)).append (.one (Data.keeps hr (hk.mono fun c hc => hG'b c hc)))).append (r3.keeps (hk.mono fun c hc => ?_))
        · exact hbG c (by simp [hc])
        · exact hbG c (by simp [hc])
      · refine List.nodup_cons.2 ⟨?_, ?_⟩
        · intro hm
          rcases List.mem_append.1 hm with hm | hm
          · rcases List.mem_append.1 hm with hm | hm
            · exact hbG b (by simp [hm]) rfl
            · exact hG'b b hm rfl
          · exact hbG b (by simp [hm]) rfl
        · obtain ⟨n12, n3, d123⟩ := List.nodup_append.1 hGnd
          obtain ⟨n1, n2, d12⟩ := List.nodup_append.1 n12
          refine List.nodup_append.2 ⟨List.nodup_append.2 ⟨n1, hGn, fun a ha c hc e => hG c hc (by rw [← e]; simp [ha])⟩, n3, fun a ha c hc e => ?_⟩
          rcases List.mem_append.1 ha with ha | ha
          · exact d123 a (List.mem_append_left _ ha) c hc e
          · exact hG a ha (by rw [e]; simp [hc])
      · intro c hc
        rcases List.mem_cons.1 hc with rfl | hc
        · exact .inl (List.mem_cons_self ..)
        · rcases List.mem_append.1 hc with hc | hc
          · rcases List.mem_append.1 hc with hc | hc
            · exact .inl (by simp [hc])
            · exact .inr hc
          · exact .inl (by simp [hc])

/-- what an element leads to is changed -/
theorem SdF.inner (hs : SdF h v xs F) (hn : F.Nodup) {i : Nat} (hi : i < xs.length) :
    ∃ cs F2, rdH h (bOf v) (oOf v + i * Data.sz α) (Data.sz α) = some cs ∧ Data.rep h xs[i] cs F2 ∧ (∀ b ∈ F2, b ∈ F ∧ b ≠ bOf v) ∧ F2.Nodup ∧ (bOf v ∈ F) ∧ ∀ h' x', KeepsP (fun b => b ∉ F2) h h' → Data.rep h' x' cs F2 → SdF h' v (xs.set i x') F := by
  obtain ⟨cs0, _, _, _, e0, _, _⟩ := hs.load i hi
  have hlen0 := hs.1
  rcases hs with ⟨_, ⟨rfl, rfl, _⟩ | ⟨b, off, cap, rfl, hcap, hs⟩⟩
  · simp at hi
  · rcases hs with ⟨rfl, _⟩ | ⟨blk, cs, G, rfl, h1, h2, h3, h4⟩
    · simp at hi
    · have hbG : ∀ c ∈ G, c ≠ b := fun c hc e => by subst e; exact (List.nodup_cons.1 hn).1 hc
      have hGnd := (List.nodup_cons.1 hn).2
      obtain ⟨F1, F2, F3, rfl, r2, r1, r3⟩ := h4.get i hi
      obtain ⟨n12, n3, d123⟩ := List.nodup_append.1 hGnd
      obtain ⟨n1, n2, d12⟩ := List.nodup_append.1 n12
      have ecs : cs0 = (cs.drop (i * Data.sz α)).take (Data.sz α) := by
        simp only [bOf, oOf, rdH, h1, h2, if_false] at e0
        unfold cut at h3 e0
        split at h3
        case isFalse => cases h3
        split at e0
        case isFalse => cases e0
        simp only [Option.some.injEq] at h3 e0
        have hb : (i + 1) * Data.sz α ≤ xs.length * Data.sz α := Nat.mul_le_mul_right _ hi
        rw [Nat.add_mul] at hb
        rw [← e0, ← h3, List.drop_take, List.take_take, List.drop_drop]
        congr 1
        omega
      refine ⟨cs0, F2, e0, by rw [ecs]; exact r2, fun c hc => ⟨by simp [hc], hbG c (by simp [hc])⟩, n2, List.mem_cons_self .., fun h' x' hk hx => ?_⟩
      rw [ecs] at hx
      refine ⟨by simpa using hlen0, .inr ⟨b, off, cap, by simp, by simpa using hcap, .inr ⟨blk, cs, _, rfl, hk _ _ (fun hm => hbG b (by simp [hm]) rfl) h1 h2, h2, by simpa using h3, ?_⟩⟩⟩
      have hset : xs.set i x' = xs.take i ++ [x'] ++ xs.drop (i + 1) := by
        rw [List.set_eq_take_append_cons_drop, if_pos hi]; simp
      have hs1 : (i + 1) * Data.sz α = i * Data.sz α + Data.sz α := by rw [Nat.add_mul, Nat.one_mul]
      have hcs : cs = cs.take (i * Data.sz α) ++ (cs.drop (i * Data.sz α)).take (Data.sz α) ++ cs.drop ((i + 1) * Data.sz α) := by
        rw [hs1, ← List.drop_drop, List.append_assoc, List.take_append_drop, List.take_append_drop]
      rw [hset, hcs]
      exact ((r1.keeps (hk.mono fun c hc hm => d12 c hc c hm rfl)).append (.one hx)).append (r3.keeps (hk.mono fun c hc hm => d123 c (List.mem_append_right _ hm) c hc rfl))
end
end GL

namespace GL
open Go

structure Rw where
  key : Int
  cols : List Val
instance rwData : Data Rw where
  sz := 2
  pos := by decide
  rep := fun h r cs F => ∃ x, cs = [vi r.key, x] ∧ SdF h x r.cols F
  len := by rintro h a cs F ⟨x, rfl, _⟩; rfl
  ok := by rintro h a cs F ⟨x, rfl, h1⟩; simp [allCell, h1.cell, cell_int]
  keeps := by rintro h h' a cs F ⟨x, rfl, h1⟩ hk; exact ⟨x, rfl, h1.keeps hk⟩
  lt := by rintro h a cs F b ⟨x, rfl, h1⟩ hb; exact h1.lt hb
def RwV (h : Heap) (v : V) (r : Rw) (F : List Nat) : Prop := ∃ x, v = .agg [vi r.key, x] ∧ SdF h x r.cols F

section
variable {h : Heap} {v : V} {xs : List Rw} {F : List Nat}
theorem SdF.loadR (hs : SdF h v xs F) (i : Nat) (hi : i < xs.length) : ∃ x F2, rdH h (bOf v) (oOf v + i * 2) 2 = some [vi xs[i].key, x] ∧ SdF h x xs[i].cols F2 ∧ ∀ b ∈ F2, b ∈ F := by
  obtain ⟨cs, F1, F2, F3, e, ⟨x, rfl, hx⟩, hF⟩ := hs.load i hi
  exact ⟨x, F2, e, hx, fun b hb => by rw [hF]; simp [hb]⟩
theorem SdF.loadKey (hs : SdF h v xs F) (i : Nat) (hi : i < xs.length) : rdH h (bOf v) (oOf v + i * 2) 1 = some [vi xs[i].key] := by
  obtain ⟨x, F2, e, _⟩ := hs.loadR i hi
  simpa using rdH_sub e 0 1 (by decide)
end

def zR : Rw := ⟨0, []⟩
theorem Fresh.sub {lo lo' : Nat} {h : Heap} {F G : List Nat} (hn : F.Nodup) (hs : ∀ b ∈ F, lo ≤ b ∧ OwnB h b) : Fresh lo h F := ⟨hn, fun b hb => (hs b hb).1, fun b hb => (hs b hb).2⟩

end GL

namespace GL
open Go

end GL

namespace GL
open Go

end GL

namespace GL
open Go

theorem isKey_eq (n : Int) (h : Heap) : call p 126 [vi n] h = some (.bool (decide (0 ≤ n ∧ n ≤ 999)), h) := by
  refine go_eq (fn := g126) rfl rfl fun R hR => ?_
  simp [g126, -Bool.decide_and]; exact hR
def okR (r : Rw) : Bool := decide (0 ≤ r.key ∧ r.key ≤ 999) && decide (r.cols.length = 3) && r.cols.all okV

theorem isRow_eq {h : Heap} {v : V} {r : Rw} {F : List Nat} (hr : RwV h v r F) : call p 122 [v] h = some (.bool (okR r), h) := by
  obtain ⟨x, rfl, hx⟩ := hr
  have ea := areValues_eq hx.sl
  refine go_eq (fn := g122) rfl rfl fun R hR => ?_
  unfold okR at hR
  by_cases h1 : 0 ≤ r.key ∧ r.key ≤ 999
  · by_cases h2 : r.cols.length = 3
    · have h2' : (r.cols.length : Int) = 3 := by omega
      simp [g122, fillL, upd, hx.cells, hx.cell, isKey_eq, h1, hx.len, h2', ea, -Bool.decide_and]
      simpa [h1, h2] using hR
    · have h2' : ¬ (r.cols.length : Int) = 3 := by omega
      simp [g122, fillL, upd, hx.cells, hx.cell, isKey_eq, h1, hx.len, h2', -Bool.decide_and]
      simpa [h2] using hR
  · simp [g122, fillL, upd, hx.cells, hx.cell, isKey_eq, h1, -Bool.decide_and]
    simpa [h1, -Bool.decide_and] using hR
theorem l2Row_eq {h : Heap} {v : V} {r : Rw} {F : List Nat} (hr : RwV h v r F) : call p 119 [v] h = some (.bool (okR r), h) := by
  obtain ⟨x, rfl, hx⟩ := hr
  refine go_eq (fn := g119) rfl rfl fun R hR => ?_
  simp [g119, fillL, upd, hx.cells, hx.cell, hx.len]
  refine Wc_upM (M := [2, 4, 8, 9, 10, 11, 12, 13, 14, 15]) rfl r.cols.length (fun i s => s.σ 8 = .v (vi i) ∧ s.h = h ∧ s.L 1 = (1, [vi r.key, x]) ∧ ∀ x ∈ r.cols.take i, okV x = true) 0 (by simp [upd]) fun i s ⟨g8, gh, gL, hall⟩ hM J hJ => ?_
  by_cases hn : i < r.cols.length
  · cases hxx : okV r.cols[i] with
    | true =>
      simp [g119_0, hM, g8, gh, hn, hx.idx, hx.sl.loadV, hx.step hn, upd, hxx]
      exact hJ _ hn ⟨by simp, rfl, by simp [upd, gL], (all_take_succ hn).2 ⟨hall, hxx⟩⟩
    | false =>
      simp [g119_0, hM, g8, gh, hn, hx.idx, hx.sl.loadV, upd, hxx]
      have : r.cols.all okV = false := by simpa using ⟨r.cols[i], by simp, by simp [hxx]⟩
      simpa [okR, this] using hR
  · have ha : r.cols.all okV = true := by rw [List.take_of_length_le (by omega)] at hall; simpa using hall
    unfold okR at hR
    rw [ha] at hR
    by_cases h1 : 0 ≤ r.key ∧ r.key ≤ 999
    · by_cases h2 : r.cols.length = 3
      · have h2' : (r.cols.length : Int) = 3 := by omega
        have hn' : ¬ (i : Int) < 3 := by omega
        simp [g119_0, hM, g8, gh, gL, hn, hn', h1, hx.len, h2', upd, -Bool.decide_and]
        simpa [h1, h2] using hR
      · have h2' : ¬ (r.cols.length : Int) = 3 := by omega
        simp [g119_0, hM, g8, gh, gL, hn, h1, hx.len, h2', upd, -Bool.decide_and]
        simpa [h2] using hR
    · simp [g119_0, hM, g8, gh, gL, hn, h1, upd, -Bool.decide_and]
      simpa [h1, -Bool.decide_and] using hR

def upR (a b : Rw) : Prop := a.key < b.key
instance (a b : Rw) : Decidable (upR a b) := by unfold upR; infer_instance
def goodT (xs : List Rw) : Bool := xs.all okR && decide (xs.Pairwise upR) && decide (xs.length ≤ 20)

theorem up_snoc {l : List Rw} {x : Rw} (hp : l.Pairwise upR) (hl : ∀ (h : 0 < l.length), l[l.length - 1].key < x.key) : (l ++ [x]).Pairwise upR := by
  rw [List.pairwise_append]
  refine ⟨hp, by simp, fun a ha b hb => ?_⟩
  simp at hb; subst hb
  obtain ⟨i, hi, rfl⟩ := List.getElem_of_mem ha
  have hl' := hl (by omega)
  by_cases e : i = l.length - 1
  · subst e; exact hl'
  · have := (List.pairwise_iff_getElem.1 hp) i (l.length - 1) hi (by omega) (by omega)
    unfold upR at this ⊢; omega

theorem GoodTable_eq {h : Heap} {v : V} {xs : List Rw} {F : List Nat} (hs : SdF h v xs F) : call p 62 [v] h = some (.bool (goodT xs), h) := by
  refine go_eq (fn := g62) rfl rfl fun R hR => ?_
  simp [g62, hs.len]
  refine Wc_upM (M := [2, 3, 4, 7, 8, 9, 10, 11, 12, 13, 14, 15, 16, 17, 18, 19, 20, 21, 22, 23, 24, 25, 26, 27, 28, 29, 30]) rfl xs.length (fun i s => i ≤ xs.length ∧ s.σ 7 = .v (vi i) ∧ s.h = h ∧ (∀ r ∈ xs.take i, okR r = true) ∧ (xs.take i).Pairwise upR) 0 (by simp) fun i s ⟨gi, g7, gh, hall, hup⟩ hM J hJ => ?_
  by_cases hn : i < xs.length
  · obtain ⟨x, F2, e1, hx, _⟩ := hs.loadR i hn
    have e2 := isRow_eq (r := xs[i]) ⟨x, rfl, hx⟩
    have htl : (xs.take i).length = i := by simp; omega
    cases hok : okR xs[i] with
    | false =>
      rw [hok] at e2
      have hbad : goodT xs = false := by
        have : xs.all okR = false := by simpa using ⟨xs[i], by simp, by simp [hok]⟩
        simp [goodT, this]
      simp [g62_0, hM, g7, gh, hn, hs.idx, e1, e2, upd, hx.cell]
      simpa [hbad] using hR
    | true =>
      rw [hok] at e2
      by_cases hi0 : i = 0
      · subst hi0
        have i0 := hs.idx 2 .i64 0 hn
        simp at i0 e1
        have w01 : IntKind.i64.wrap 1 = 1 := by decide
        simp [g62_0, hM, g7, gh, hn, i0, e1, e2, upd, hx.cell, w01]
        exact hJ _ hn ⟨hn, by simp, rfl, (all_take_succ hn).2 ⟨hall, hok⟩, by rw [List.take_succ_eq_append_getElem hn]; simp⟩
      · have hip : 0 < i := by omega
        have hi1 : i - 1 < xs.length := by omega
        have hbd := hs.bd
        have w1 : IntKind.i64.wrap ((i : Int) - 1) = (i - 1 : Nat) := by rw [IntWalk.i64_in] <;> omega
        have e3 := hs.loadKey (i - 1) hi1
        have i1 := hs.idx 2 .i64 (i - 1) hi1
        by_cases hk : xs[i - 1].key < xs[i].key
        · have hk' : ¬ xs[i].key ≤ xs[i - 1].key := by omega
          simp [g62_0, hM, g7, gh, hn, hs.idx, e1, e2, upd, hx.cell, hip, w1, i1, e3, hk', hs.step hn]
          refine hJ _ hn ⟨hn, by simp, rfl, (all_take_succ hn).2 ⟨hall, hok⟩, ?_⟩
          rw [List.take_succ_eq_append_getElem hn]
          refine up_snoc hup fun h0 => ?_
          have : (xs.take i)[(xs.take i).length - 1] = xs[i - 1] := by simp [htl]
          rw [this]; exact hk
        · have hk' : xs[i].key ≤ xs[i - 1].key := by omega
          have hbad : goodT xs = false := by
            have : ¬ xs.Pairwise upR := fun hp => by
              have := (List.pairwise_iff_getElem.1 hp) (i - 1) i hi1 hn (by omega)
              exact hk this
            simp [goodT, this]
          simp [g62_0, hM, g7, gh, hn, hs.idx, e1, e2, upd, hx.cell, hip, w1, i1, e3, hk']
          simpa [hbad] using hR
  · rw [List.take_of_length_le (by omega)] at hall hup
    have ha : xs.all okR = true := by simpa using hall
    have e : decide ((xs.length : Int) ≤ 20) = goodT xs := by
      simp only [goodT, ha, hup, decide_true, Bool.true_and]; congr 1; simp; omega
    simp [g62_0, hM, g7, gh, hn, hs.len, e]
    exact hR

theorem GoodTableS_eq {h : Heap} {v : V} {xs : List Rw} {F : List Nat} (hs : SdF h v xs F) : call p 63 [v] h = some (.bool (goodT xs), h) := by
  refine go_eq (fn := g63) rfl rfl fun R hR => ?_
  simp [g63, hs.len]
  refine Wc_upM (M := [2, 3, 4, 7, 8, 9, 10, 11, 12, 13, 14, 15, 16, 17, 18, 19, 20, 21, 22, 23, 24, 25, 26, 27, 28, 29, 30]) rfl xs.length (fun i s => i ≤ xs.length ∧ s.σ 7 = .v (vi i) ∧ s.h = h ∧ (∀ r ∈ xs.take i, okR r = true) ∧ (xs.take i).Pairwise upR) 0 (by simp) fun i s ⟨gi, g7, gh, hall, hup⟩ hM J hJ => ?_
  by_cases hn : i < xs.length
  · obtain ⟨x, F2, e1, hx, _⟩ := hs.loadR i hn
    have e2 := l2Row_eq (r := xs[i]) ⟨x, rfl, hx⟩
    have htl : (xs.take i).length = i := by simp; omega
    cases hok : okR xs[i] with
    | false =>
      rw [hok] at e2
      have hbad : goodT xs = false := by
        have : xs.all okR = false := by simpa using ⟨xs[i], by simp, by simp [hok]⟩
        simp [goodT, this]
      simp [g63_0, hM, g7, gh, hn, hs.idx, e1, e2, upd, hx.cell]
      simpa [hbad] using hR
    | true =>
      rw [hok] at e2
      by_cases hi0 : i = 0
      · subst hi0
        have i0 := hs.idx 2 .i64 0 hn
        simp at i0 e1
        have w01 : IntKind.i64.wrap 1 = 1 := by decide
        simp [g63_0, hM, g7, gh, hn, i0, e1, e2, upd, hx.cell, w01]
        exact hJ _ hn ⟨hn, by simp, rfl, (all_take_succ hn).2 ⟨hall, hok⟩, by rw [List.take_succ_eq_append_getElem hn]; simp⟩
      · have hip : 0 < i := by omega
        have hi1 : i - 1 < xs.length := by omega
        have hbd := hs.bd
        have w1 : IntKind.i64.wrap ((i : Int) - 1) = (i - 1 : Nat) := by rw [IntWalk.i64_in] <;> omega
        have e3 := hs.loadKey (i - 1) hi1
        have i1 := hs.idx 2 .i64 (i - 1) hi1
        by_cases hk : xs[i - 1].key < xs[i].key
        · have hk' : ¬ xs[i].key ≤ xs[i - 1].key := by omega
          simp [g63_0, hM, g7, gh, hn, hs.idx, e1, e2, upd, hx.cell, hip, w1, i1, e3, hk', hs.step hn]
          refine hJ _ hn ⟨hn, by simp, rfl, (all_take_succ hn).2 ⟨hall, hok⟩, ?_⟩
          rw [List.take_succ_eq_append_getElem hn]
          refine up_snoc hup fun h0 => ?_
          have : (xs.take i)[(xs.take i).length - 1] = xs[i - 1] := by simp [htl]
          rw [this]; exact hk
        · have hk' : xs[i].key ≤ xs[i - 1].key := by omega
          have hbad : goodT xs = false := by
            have : ¬ xs.Pairwise upR := fun hp => by
              have := (List.pairwise_iff_getElem.1 hp) (i - 1) i hi1 hn (by omega)
              exact hk this
            simp [goodT, this]
          simp [g63_0, hM, g7, gh, hn, hs.idx, e1, e2, upd, hx.cell, hip, w1, i1, e3, hk']
          simpa [hbad] using hR
  · rw [List.take_of_length_le (by omega)] at hall hup
    have ha : xs.all okR = true := by simpa using hall
    have e : decide ((xs.length : Int) ≤ 20) = goodT xs := by
      simp only [goodT, ha, hup, decide_true, Bool.true_and]; congr 1; simp; omega
    simp [g63_0, hM, g7, gh, hn, hs.len, e]
    exact hR
end GL

namespace GL
open Go

theorem place1_eq (r : Rw) (x : V) (hx : x.cells = [x] ∧ x.cell = true) (key : Int) (h : Heap) (hb : 0 ≤ r.key ∧ r.key ≤ 999) (hk : 0 ≤ key ∧ key ≤ 999) : call p 148 [.agg [vi r.key, x], vi key] h = some (vi (r.key - key), h) := by
  refine go_eq (fn := g148) rfl rfl fun R hR => ?_
  have w : IntKind.i64.wrap (r.key - key) = r.key - key := by rw [IntWalk.i64_in] <;> omega
  simp [g148, fillL, upd, hx, w]; exact hR

theorem half_eq (m : Nat) (hm : m < 2 ^ 40) : IntKind.i64.wrap ((IntKind.u64.wrap (m : Int)).fdiv (2 ^ min 1 IntKind.u64.bits)) = (m / 2 : Nat) := by
  have e2 : (2 : Int) ^ min 1 IntKind.u64.bits = 2 := by decide
  rw [e2]
  rw [IntWalk.u64_in _ (by omega)]
  have : ((m : Int)).fdiv 2 = (m / 2 : Nat) := by
    rw [Int.fdiv_eq_ediv_of_nonneg _ (by decide)]; rfl
  rw [this, IntWalk.i64_in _ (by omega)]

theorem up_le {xs : List Rw} (hup : xs.Pairwise upR) {a b : Nat} (ha : a < xs.length) (hb : b < xs.length) (hab : a ≤ b) : xs[a].key ≤ xs[b].key := by
  by_cases e : a = b
  · subst e; exact Int.le_refl _
  · have := (List.pairwise_iff_getElem.1 hup) a b ha hb (by omega)
    unfold upR at this; omega

theorem search_eq {h : Heap} {v : V} {xs : List Rw} {F : List Nat} (hs : SdF h v xs F) {key : Int} (hb : ∀ r ∈ xs, 0 ≤ r.key ∧ r.key ≤ 999) (hk : 0 ≤ key ∧ key ≤ 999) (hup : xs.Pairwise upR) (hl : xs.length ≤ 100) :
    ∃ (i : Nat) (fd : Bool), call p 147 [v, vi key, .fn 148 []] h = some (.tup [vi i, .bool fd], h) ∧ i ≤ xs.length ∧ (∀ t (ht : t < xs.length), t < i → xs[t].key < key) ∧ (∀ t (ht : t < xs.length), i ≤ t → key ≤ xs[t].key) ∧ (fd = true ↔ ∃ ht : i < xs.length, xs[i].key = key) := by
  have : ∃ w h', call p 147 [v, vi key, .fn 148 []] h = some (w, h') ∧ ∃ (i : Nat) (fd : Bool), w = .tup [vi i, .bool fd] ∧ h' = h ∧ i ≤ xs.length ∧ (∀ t (ht : t < xs.length), t < i → xs[t].key < key) ∧ (∀ t (ht : t < xs.length), i ≤ t → key ≤ xs[t].key) ∧ (fd = true ↔ ∃ ht : i < xs.length, xs[i].key = key) := by
    refine go (fn := g147) rfl rfl fun R hR => ?_
    simp [g147, hs.len]
    refine Wc_dnM (M := [9, 10, 11, 15, 16, 17, 18, 19, 20, 21, 22, 23, 24, 25, 26, 27, 28, 29, 30, 31, 32, 33, 34]) rfl (fun d s => ∃ i j : Nat, d = j - i ∧ i ≤ j ∧ j ≤ xs.length ∧ s.σ 9 = .v (vi i) ∧ s.σ 10 = .v (vi j) ∧ s.h = h ∧ (∀ t (ht : t < xs.length), t < i → xs[t].key < key) ∧ (∀ t (ht : t < xs.length), j ≤ t → key ≤ xs[t].key)) (xs.length - 0)
      ⟨0, xs.length, rfl, by omega, by omega, by simp, by simp, by simp, fun t _ h => by omega, fun t ht h => by omega⟩ fun d s ⟨i, j, hd, hij, hj, g9, g10, gh, hlo, hhi⟩ hM J hJ => ?_
    by_cases hlt : i < j
    · obtain ⟨m, hmd⟩ : ∃ m, (i + j) / 2 = m := ⟨_, rfl⟩
      have hm : m < xs.length := by omega
      have w1 : IntKind.i64.wrap ((i : Int) + j) = (i + j : Nat) := by rw [IntWalk.i64_in] <;> omega
      have w2 := half_eq (i + j) (by omega)
      rw [hmd] at w2
      obtain ⟨x, F2, e1, hx, _⟩ := hs.loadR (m) hm
      have e2 := place1_eq xs[m] x ⟨hx.cells, hx.cell⟩ key h (hb _ (by simp)) hk
      have i1 := hs.idx 2 .i64 (m) hm
      have w3 : IntKind.i64.wrap ((m : Int) + 1) = (m + 1 : Nat) := by rw [IntWalk.i64_in] <;> omega
      by_cases hc : xs[m].key - key < 0
      · simp [g147_0, hM, g9, g10, gh, hlt, w1, w2, i1, e1, e2, hc, w3, -Int.natCast_add, -Int.natCast_ediv]
        refine hJ (j - (m + 1)) _ (by omega) ⟨m + 1, j, rfl, by omega, hj, by simp, by simp [g10], rfl, fun t ht hti => ?_, hhi⟩
        have := up_le hup ht hm (by omega)
        omega
      · simp [g147_0, hM, g9, g10, gh, hlt, w1, w2, i1, e1, e2, hc, -Int.natCast_add, -Int.natCast_ediv]
        refine hJ (m - i) _ (by omega) ⟨i, m, rfl, by omega, by omega, by simp [g9], by simp, rfl, hlo, fun t ht hti => ?_⟩
        have := up_le hup hm ht (by omega)
        omega
    · have hij' : i = j := by omega
      subst hij'
      by_cases hin : i < xs.length
      · obtain ⟨x, F2, e1, hx, _⟩ := hs.loadR i hin
        have e2 := place1_eq xs[i] x ⟨hx.cells, hx.cell⟩ key h (hb _ (by simp)) hk
        by_cases hq : xs[i].key - key = 0
        · simp [g147_0, hM, g9, g10, gh, hin, hs.idx, e1, e2, hq]
          exact hR _ _ ⟨i, true, rfl, rfl, by omega, hlo, hhi, by simp; exact ⟨hin, by omega⟩⟩
        · simp [g147_0, hM, g9, g10, gh, hin, hs.idx, e1, e2, hq]
          exact hR _ _ ⟨i, false, rfl, rfl, by omega, hlo, hhi, by simp; intro _; omega⟩
      · simp [g147_0, hM, g9, g10, gh, hin]
        exact hR _ _ ⟨i, false, rfl, rfl, by omega, hlo, hhi, by simp; intro h; omega⟩
  obtain ⟨_, _, e, i, fd, rfl, rfl, hr⟩ := this
  exact ⟨i, fd, e, hr⟩

theorem place_eq {h : Heap} {v : V} {xs : List Rw} {F : List Nat} (hs : SdF h v xs F) {key : Int} (hb : ∀ r ∈ xs, 0 ≤ r.key ∧ r.key ≤ 999) (hk : 0 ≤ key ∧ key ≤ 999) (hup : xs.Pairwise upR) (hl : xs.length ≤ 100) :
    ∃ (i : Nat) (fd : Bool), call p 127 [v, vi key] h = some (.tup [vi i, .bool fd], h) ∧ i ≤ xs.length ∧ (∀ t (ht : t < xs.length), t < i → xs[t].key < key) ∧ (∀ t (ht : t < xs.length), i ≤ t → key ≤ xs[t].key) ∧ (fd = true ↔ ∃ ht : i < xs.length, xs[i].key = key) := by
  obtain ⟨i, fd, e, hr⟩ := search_eq hs hb hk hup hl
  refine ⟨i, fd, go_eq (fn := g127) rfl rfl fun R hR => ?_, hr⟩
  simp [g127, e]; exact hR

theorem cloneV_ok {h : Heap} {v : V} {xs : List Val} (hs : Sl h v xs) (hl : xs.length ≤ 2 ^ 20) : ∃ r h', call p 149 [v] h = some (r, h') ∧ ∃ F, SdF h' r xs F ∧ Fresh h.length h' F ∧ Keeps h h' ∧ h.length ≤ h'.length := by
  refine go (fn := g149) rfl rfl fun R hR => ?_
  obtain ⟨e1, r, h', e2, F, q1, q2, q3, q4⟩ := appNew hs hl (k := 2) (bytes := 16) rfl (by decide)
  rcases hs with ⟨_, ⟨rfl, rfl⟩ | ⟨b, off, cap, rfl, _⟩⟩
  · simp [g149]
    exact hR _ _ ⟨[], SdF.nil, Fresh.nil, Keeps.refl _, Nat.le_refl _⟩
  · simp [g149, fillL, e1, e2]
    exact hR _ _ ⟨F, q1, q2, q3, q4⟩
theorem clonedRow_ok {h : Heap} {v : V} {r : Rw} {F : List Nat} (hr : RwV h v r F) (hl : r.cols.length ≤ 2 ^ 20) : ∃ w h', call p 128 [v] h = some (w, h') ∧ ∃ G, RwV h' w r G ∧ Fresh h.length h' G ∧ Keeps h h' ∧ h.length ≤ h'.length := by
  obtain ⟨x, rfl, hx⟩ := hr
  obtain ⟨a, h1, e1, G, p1, p2, p3, p4⟩ := cloneV_ok hx.sl hl
  refine go (fn := g128) rfl rfl fun R hR => ?_
  simp [g128, fillL, upd, hx.cells, hx.cell, e1, p1.cells, p1.cell, resV, mkV]
  exact hR _ _ ⟨G, ⟨a, rfl, p1⟩, p2, p3, p4⟩
theorem l2Copy_ok {h : Heap} {v : V} {r : Rw} {F : List Nat} (hr : RwV h v r F) (hl : r.cols.length ≤ 2 ^ 20) : ∃ w h', call p 130 [v] h = some (w, h') ∧ ∃ G, RwV h' w r G ∧ Fresh h.length h' G ∧ Keeps h h' ∧ h.length ≤ h'.length := by
  obtain ⟨x, rfl, hx⟩ := hr
  obtain ⟨e0, a, h1, e1, G, p1, p2, p3, p4⟩ := appNew hx.sl hl (k := 2) (bytes := 16) rfl (by decide)
  refine go (fn := g130) rfl rfl fun R hR => ?_
  simp [g130, fillL, upd, hx.cells, hx.cell, hx.len, e0, e1, p1.cells, p1.cell, resV, mkV]
  exact hR _ _ ⟨G, ⟨a, rfl, p1⟩, p2, p3, p4⟩

theorem goodT_facts {xs : List Rw} (hg : goodT xs = true) : (∀ r ∈ xs, okR r = true) ∧ xs.Pairwise upR ∧ xs.length ≤ 20 := by
  simp only [goodT, Bool.and_eq_true, List.all_eq_true, decide_eq_true_eq] at hg
  exact ⟨hg.1.1, hg.1.2, hg.2⟩
theorem okR_facts {r : Rw} (h : okR r = true) : (0 ≤ r.key ∧ r.key ≤ 999) ∧ r.cols.length = 3 ∧ r.cols.all okV = true := by
  simp only [okR, Bool.and_eq_true, decide_eq_true_eq] at h
  exact ⟨h.1.1, h.1.2, h.2⟩

/-- is a key there? -/
def keyIn (xs : List Rw) (key : Int) : Bool := xs.any fun r => decide (r.key = key)

theorem FindRow_ok {h : Heap} {v : V} {xs : List Rw} {F : List Nat} (hs : SdF h v xs F) (key : Int) :
    ∃ w h', call p 64 [v, vi key] h = some (w, h') ∧ ∃ (x : V) (n : Int), w = .tup [.agg [vi n, x], .bool (goodT xs && keyIn xs key)] ∧ (x.cells = [x] ∧ x.cell = true) ∧ Keeps h h' ∧ h.length ≤ h'.length ∧
      (goodT xs = true → keyIn xs key = true → ∃ (i : Nat) (hi : i < xs.length) (G : List Nat), xs[i].key = key ∧ n = key ∧ SdF h' x xs[i].cols G ∧ Fresh h.length h' G) := by
  refine go (fn := g64) rfl rfl fun R hR => ?_
  have e0 := GoodTable_eq hs
  have bad : (goodT xs && keyIn xs key) = false → R (.tup [.agg [vi 0, .nils], .bool false]) h := fun hb => by
    refine hR _ _ ⟨.nils, 0, by rw [hb], ⟨rfl, rfl⟩, Keeps.refl _, Nat.le_refl _, fun a b => ?_⟩
    rw [a, b] at hb; cases hb
  cases hg : goodT xs with
  | false =>
    rw [hg] at e0
    simp [g64, fillL, upd, resV, mkV, e0]
    exact bad (by simp [hg])
  | true =>
    rw [hg] at e0
    obtain ⟨g1, g2, g3⟩ := goodT_facts hg
    have hb : ∀ r ∈ xs, 0 ≤ r.key ∧ r.key ≤ 999 := fun r hr => (okR_facts (g1 r hr)).1
    by_cases hk : 0 ≤ key ∧ key ≤ 999
    · obtain ⟨i, fd, e1, hi, hlo, hhi, hfd⟩ := place_eq hs hb hk g2 (by omega)
      cases fd with
      | false =>
        have hno : keyIn xs key = false := by
          simp only [keyIn, List.any_eq_false, decide_eq_true_eq]
          intro r hr e
          obtain ⟨t, ht, rfl⟩ := List.getElem_of_mem hr
          by_cases hti : t < i
          · have := hlo t ht hti; omega
          · by_cases hti2 : t = i
            · subst hti2
              have := hfd.2 ⟨ht, e⟩; cases this
            · have hil : i < xs.length := by omega
              have h1 := hhi i hil (Nat.le_refl _)
              have h2 := (List.pairwise_iff_getElem.1 g2) i t hil ht (by omega)
              unfold upR at h2; omega
        simp [g64, fillL, upd, resV, mkV, e0, isKey_eq, hk, e1, -Bool.decide_and]
        exact bad (by simp [hno])
      | true =>
        obtain ⟨hil, hke⟩ := hfd.1 rfl
        have hyes : keyIn xs key = true := by
          simp only [keyIn, List.any_eq_true, decide_eq_true_eq]
          exact ⟨xs[i], by simp, hke⟩
        obtain ⟨x, F2, e2, hx, _⟩ := hs.loadR i hil
        obtain ⟨w, h1, e3, G, hw, fr, k1, l1⟩ := clonedRow_ok (r := xs[i]) ⟨x, rfl, hx⟩ (by have := (okR_facts (g1 _ (List.getElem_mem hil))).2.1; omega)
        obtain ⟨y, rfl, hy⟩ := hw
        simp [g64, fillL, upd, resV, mkV, e0, isKey_eq, hk, e1, hs.idx, hil, e2, e3, hy.cells, hy.cell, -Bool.decide_and]
        exact hR _ _ ⟨y, xs[i].key, by rw [hg, hyes]; rfl, ⟨hy.cells, hy.cell⟩, k1, l1, fun _ _ => ⟨i, hil, G, hke, hke, hy, fr⟩⟩
    · have hno : keyIn xs key = false := by
        simp only [keyIn, List.any_eq_false, decide_eq_true_eq]
        intro r hr e
        have := hb r hr; omega
      simp [g64, fillL, upd, resV, mkV, e0, isKey_eq, hk, -Bool.decide_and]
      exact bad (by simp [hno])
end GL

namespace GL
open Go

/-- a list of one's own that grows, with all that it leads to -/
def OdF {α : Type} [Data α] (lo : Nat) (h : Heap) (v : V) (xs : List α) (G : List Nat) : Prop := Od lo h v xs G ∧ Fresh lo h G

section
variable {α : Type} [Data α] {lo : Nat} {h h1 : Heap} {v : V} {xs : List α} {G G' : List Nat}
theorem OdF.one (o : OdF lo h v xs G) (k1 : Keeps h h1) (l1 : h.length ≤ h1.length) (fr : Fresh h.length h1 G') {x : α} {cs : List V} (hr : Data.rep h1 x cs G') (hx : xs.length ≤ 2 ^ 20) {k bytes : Nat} (hk : k = Data.sz α) (hb : bytes ≤ 2 ^ 8) :
    ∃ v' h2, appH k bytes v 1 cs (h1 ++ [⟨.own, cs⟩]) = some (v', h2) ∧ OdF lo h2 v' (xs ++ [x]) (G ++ G') ∧ (∀ h0 : Heap, Keeps h0 h → h0.length ≤ lo → Keeps h0 h2) ∧ h1.length < h2.length := by
  obtain ⟨od, fg⟩ := o
  have hge := fun i (hi : vB v i) => od.ge hi
  have kl : Keeps h1 (h1 ++ [⟨.own, cs⟩]) := Keeps.append h1 _
  have od1 : Od lo (h1 ++ [⟨.own, cs⟩]) v xs G := od.keeps ((k1.trans kl).p fun _ => True) (fun _ _ => trivial) (fun _ _ => trivial) (by simp; omega)
  have hnv : ∀ b ∈ G', ¬ vB v b := fun b hb hv => by have := (hge b hv).2; have := fr.ge b hb; omega
  have hnvG : ∀ b ∈ G, ¬ vB v b := fun b hb hv => by
    obtain ⟨_, _, ⟨rfl, _⟩ | ⟨b1, cs1, rfl, _, _, _, hn⟩ | ⟨b1, rfl, _, hG, _⟩⟩ := od
    · obtain ⟨_, _, _, e⟩ := hv; cases e
    · obtain ⟨_, _, _, e⟩ := hv; cases e; exact hn hb
    · rw [hG] at hb; cases hb
  obtain ⟨v', h2, e, o2, kp, l2, b2⟩ := od1.app (zs := [x]) (G := G') (by simp) (.one (Data.keeps hr (kl.p _))) hnv hb (by simp; omega) hk rfl
  have k2 : KeepsP (fun i => ¬ vB v i) h1 h2 := fun i blk hi h3 h4 => kp i blk hi (kl i blk h3 h4) h4
  refine ⟨v', h2, e, ⟨o2, ?_⟩, fun h0 hk0 hl0 => Keeps.far (n := lo) (hk0.trans k1) k2 hl0 fun i hi hv => by have := (hge i hv).1; omega, by simp at l2; omega⟩
  have f1 := (fg.keeps (k1.p _)).keeps (k2.mono hnvG)
  have f2 := fr.keeps (k2.mono hnv)
  refine ⟨List.nodup_append.2 ⟨fg.nodup, fr.nodup, fun a ha b hb e => ?_⟩, fun b hb => ?_, fun b hb => ?_⟩
  · have := (fg.own a ha).lt; have := fr.ge b hb; omega
  · rcases List.mem_append.1 hb with hb | hb
    · exact fg.ge b hb
    · have := fr.ge b hb; have := od.2.1; omega
  · rcases List.mem_append.1 hb with hb | hb
    · exact f1.own b hb
    · exact f2.own b hb
theorem OdF.fresh (o : OdF lo h v xs G) : ∃ F, SdF h v xs F ∧ Fresh lo h F := by
  obtain ⟨od, fg⟩ := o
  have hge := fun i (hi : vB v i) => od.ge hi
  obtain ⟨F', hs, rfl | ⟨rfl, hv, hn, cs, hcs⟩⟩ := od.sd
  · exact ⟨_, hs, fg⟩
  · refine ⟨_, hs, List.nodup_cons.2 ⟨hn, fg.nodup⟩, fun b hb => ?_, fun b hb => ?_⟩
    · rcases List.mem_cons.1 hb with rfl | hb
      · exact (hge _ hv).1
      · exact fg.ge b hb
    · rcases List.mem_cons.1 hb with rfl | hb
      · exact ⟨cs, hcs⟩
      · exact fg.own b hb
theorem OdF.nil (hl : lo ≤ h.length) : OdF lo h .nils ([] : List α) [] := ⟨Od.nil hl, Fresh.nil⟩
theorem OdF.empty {b : Nat} (hl : lo ≤ b) (hb : b < h.length) : OdF lo h (.slice b 0 0 (.k 0)) ([] : List α) [] := ⟨Od.empty hl hb, Fresh.nil⟩
end

theorem clonedRows_ok {h : Heap} {v : V} {xs : List Rw} {F : List Nat} (hs : SdF h v xs F) (hl : xs.length ≤ 2 ^ 20) (hc : ∀ r ∈ xs, r.cols.length ≤ 2 ^ 20) : ∃ r h', call p 131 [v] h = some (r, h') ∧ ∃ G, SdF h' r xs G ∧ Fresh h.length h' G ∧ Keeps h h' ∧ h.length ≤ h'.length := by
  refine go (fn := g131) rfl rfl fun R hR => ?_
  simp [g131, hs.len, fillL]
  refine Wc_upM (M := [3, 5, 9, 10, 11, 12, 13, 14, 15, 16, 17, 18]) rfl xs.length (fun i s => i ≤ xs.length ∧ s.σ 9 = .v (vi i) ∧ (∃ w G, s.σ 3 = .v w ∧ OdF h.length s.h w (xs.take i) G) ∧ Keeps h s.h ∧ h.length ≤ s.h.length) 0
    ⟨by omega, by simp, ⟨.slice h.length 0 0 (.k 0), [], by simp, by simpa using OdF.empty (Nat.le_refl _) (by simp)⟩, Keeps.append h _, by simp⟩ fun i s ⟨gi, g9, ⟨w, G, g3, ho⟩, hk, hlen⟩ hM J hJ => ?_
  by_cases hn : i < xs.length
  · have hs' := hs.keep hk
    obtain ⟨x, F2, e1, hx, _⟩ := hs'.loadR i hn
    obtain ⟨y, h1, e2, G', hw, fr, k1, l1⟩ := clonedRow_ok (r := xs[i]) ⟨x, rfl, hx⟩ (hc _ (by simp))
    obtain ⟨z, rfl, hz⟩ := hw
    obtain ⟨w', h2, e3, o', k2, l2⟩ := ho.one (k := 2) (bytes := 32) k1 l1 fr (x := xs[i]) (cs := [vi xs[i].key, z]) ⟨z, rfl, hz⟩ (by simp; omega) rfl (by decide)
    simp [g131_0, hM, g9, g3, hn, hs'.idx, e1, hs.step hn, e2, hx.cell, hz.cell, fillL, upd, rdS_last, e3]
    exact hJ _ hn ⟨hn, by simp, ⟨w', _, by simp, by rw [List.take_succ_eq_append_getElem hn]; exact o'⟩, k2 h hk (Nat.le_refl _), by show h.length ≤ h2.length; omega⟩
  · rw [List.take_of_length_le (by omega)] at ho
    obtain ⟨G', q1, q2⟩ := ho.fresh
    simp [g131_0, hM, g9, g3, hn]
    exact hR _ _ ⟨G', q1, q2, hk, hlen⟩
theorem l2Own_ok {h : Heap} {v : V} {xs : List Rw} {F : List Nat} (hs : SdF h v xs F) (hl : xs.length ≤ 2 ^ 20) (hc : ∀ r ∈ xs, r.cols.length ≤ 2 ^ 20) : ∃ r h', call p 116 [v] h = some (r, h') ∧ ∃ G, SdF h' r xs G ∧ Fresh h.length h' G ∧ Keeps h h' ∧ h.length ≤ h'.length := by
  refine go (fn := g116) rfl rfl fun R hR => ?_
  simp [g116, hs.len]
  refine Wc_upM (M := [3, 5, 8, 9, 10, 11, 12, 13, 14, 15, 16, 17]) rfl xs.length (fun i s => i ≤ xs.length ∧ s.σ 8 = .v (vi i) ∧ (∃ w G, s.σ 3 = .v w ∧ OdF h.length s.h w (xs.take i) G) ∧ Keeps h s.h ∧ h.length ≤ s.h.length) 0
    ⟨by omega, by simp, ⟨.nils, [], by simp, by simpa using OdF.nil (Nat.le_refl _)⟩, Keeps.refl h, by simp⟩ fun i s ⟨gi, g8, ⟨w, G, g3, ho⟩, hk, hlen⟩ hM J hJ => ?_
  by_cases hn : i < xs.length
  · have hs' := hs.keep hk
    obtain ⟨x, F2, e1, hx, _⟩ := hs'.loadR i hn
    obtain ⟨y, h1, e2, G', hw, fr, k1, l1⟩ := l2Copy_ok (r := xs[i]) ⟨x, rfl, hx⟩ (hc _ (by simp))
    obtain ⟨z, rfl, hz⟩ := hw
    obtain ⟨w', h2, e3, o', k2, l2⟩ := ho.one (k := 2) (bytes := 32) k1 l1 fr (x := xs[i]) (cs := [vi xs[i].key, z]) ⟨z, rfl, hz⟩ (by simp; omega) rfl (by decide)
    simp [g116_0, hM, g8, g3, hn, hs'.idx, e1, hs.step hn, e2, hx.cell, hz.cell, fillL, upd, rdS_last, e3]
    exact hJ _ hn ⟨hn, by simp, ⟨w', _, by simp, by rw [List.take_succ_eq_append_getElem hn]; exact o'⟩, k2 h hk (Nat.le_refl _), by show h.length ≤ h2.length; omega⟩
  · rw [List.take_of_length_le (by omega)] at ho
    obtain ⟨G', q1, q2⟩ := ho.fresh
    simp [g116_0, hM, g8, g3, hn]
    exact hR _ _ ⟨G', q1, q2, hk, hlen⟩

theorem l2Find_eq {h : Heap} {v : V} {xs : List Rw} {F : List Nat} (hs : SdF h v xs F) (key : Int) : ∃ k : Int, call p 110 [v, vi key] h = some (vi k, h) ∧ decide (k < 0) = !keyIn xs key := by
  have : ∃ w h', call p 110 [v, vi key] h = some (w, h') ∧ ∃ k : Int, w = vi k ∧ h' = h ∧ decide (k < 0) = !keyIn xs key := by
    refine go (fn := g110) rfl rfl fun R hR => ?_
    simp [g110, hs.len]
    refine Wc_upM (M := [4, 5, 6, 9, 10, 11, 12, 13, 14, 15, 16, 17, 18, 19]) rfl xs.length (fun i s => s.σ 9 = .v (vi i) ∧ s.h = h ∧ ∀ r ∈ xs.take i, r.key ≠ key) 0 (by simp) fun i s ⟨g9, gh, hall⟩ hM J hJ => ?_
    by_cases hn : i < xs.length
    · obtain ⟨x, F2, e1, hx, _⟩ := hs.loadR i hn
      by_cases he : xs[i].key = key
      · have hy : keyIn xs key = true := by simp only [keyIn, List.any_eq_true, decide_eq_true_eq]; exact ⟨xs[i], by simp, he⟩
        simp [g110_0, hM, g9, gh, hn, hs.idx, e1, upd, hx.cell, he]
        exact hR _ _ ⟨i, rfl, rfl, by simp [hy]⟩
      · simp [g110_0, hM, g9, gh, hn, hs.idx, e1, upd, hx.cell, he, hs.step hn]
        exact hJ _ hn ⟨by simp, rfl, (all_take_succ hn).2 ⟨hall, he⟩⟩
    · rw [List.take_of_length_le (by omega)] at hall
      have hno : keyIn xs key = false := by simp only [keyIn, List.any_eq_false, decide_eq_true_eq]; exact hall
      simp [g110_0, hM, g9, gh, hn]
      exact hR _ _ ⟨-1, rfl, rfl, by simp [hno]⟩
  obtain ⟨_, _, e, k, rfl, rfl, hk⟩ := this
  exact ⟨k, e, hk⟩

theorem l2Drop_ok {h : Heap} {v : V} {xs : List Rw} {F : List Nat} (hs : SdF h v xs F) (hl : xs.length ≤ 2 ^ 20) (key : Int) : ∃ r h', call p 111 [v, vi key] h = some (r, h') ∧ ∃ G, SdF h' r (xs.filter fun r => decide (r.key ≠ key)) G ∧ Keeps h h' ∧ h.length ≤ h'.length := by
  refine go (fn := g111) rfl rfl fun R hR => ?_
  simp only [g111]
  simp [hs.len]
  refine Wc_upM (M := [5, 7, 10, 11, 12, 13, 14, 15, 16, 17, 18, 19, 20, 21, 22]) rfl xs.length (fun i s => i ≤ xs.length ∧ s.σ 10 = .v (vi i) ∧ (∃ w G, s.σ 5 = .v w ∧ Od h.length s.h w ((xs.take i).filter fun r => decide (r.key ≠ key)) G ∧ ∀ b ∈ G, b ∈ F) ∧ Keeps h s.h ∧ h.length ≤ s.h.length) 0
    ⟨by omega, by simp, ⟨.nils, [], by simp, by simpa using Od.nil (Nat.le_refl _), by simp⟩, Keeps.refl h, by simp⟩ fun i s ⟨gi, g10, ⟨w, G, g5, ho, hG⟩, hk, hlen⟩ hM J hJ => ?_
  by_cases hn : i < xs.length
  · have hs' := hs.keep hk
    obtain ⟨x, F2, e1, hx, hF2⟩ := hs'.loadR i hn
    have ht := List.take_succ_eq_append_getElem hn
    have hlt : ∀ b ∈ F, b < h.length := fun b hb => by obtain ⟨_, h1, _⟩ := hs.lt hb; exact get_lt h1
    by_cases he : xs[i].key = key
    · simp [g111_0, hM, g10, g5, hn, hs'.idx, e1, hs.step hn, upd, hx.cell, he]
      refine hJ _ hn ⟨hn, by simp, ⟨w, G, by simp [g5], ?_, hG⟩, hk, hlen⟩
      rw [ht, List.filter_append]; simpa [he] using ho
    · have kl : Keeps s.h (s.h ++ [⟨.own, [vi xs[i].key, x]⟩]) := Keeps.append s.h _
      have ho1 : Od h.length (s.h ++ [⟨.own, [vi xs[i].key, x]⟩]) w _ G := ho.keeps (kl.p fun _ => True) (fun _ _ => trivial) (fun _ _ => trivial) (by simp)
      have hcnt : ((xs.take i).filter fun r => decide (r.key ≠ key)).length ≤ 2 ^ 20 := Nat.le_trans (List.length_filter_le ..) (by simp; omega)
      obtain ⟨w', h2, e3, o', k2, l2, _⟩ := ho1.app (zs := [xs[i]]) (ys := [vi xs[i].key, x]) (G := F2) (by simp) (.one ⟨x, rfl, hx.keep kl⟩) (fun b hb hv => by have := (ho.ge hv).1; have := hlt b (hF2 b hb); omega) (bytes := 32) (by decide) (by simp only [List.length_singleton]; omega) (k := 2) rfl (n := 1) rfl
      have k2' : KeepsP (fun i => ¬ vB w i) s.h h2 := fun i blk hi h3 h4 => k2 i blk hi (kl i blk h3 h4) h4
      simp [g111_0, hM, g10, g5, hn, hs'.idx, e1, hs.step hn, upd, hx.cell, he, fillL, rdS_last, e3]
      refine hJ _ hn ⟨hn, by simp, ⟨w', G ++ F2, by simp, ?_, fun b hb => ?_⟩, Keeps.far (n := h.length) hk k2' (Nat.le_refl _) fun i hi hv => by have := (ho.ge hv).1; omega, by simp at l2; show h.length ≤ h2.length; omega⟩
      · rw [ht, List.filter_append]; simpa [he] using o'
      · rcases List.mem_append.1 hb with hb | hb
        · exact hG b hb
        · exact hF2 b hb
  · rw [List.take_of_length_le (by omega)] at ho
    obtain ⟨F', q1, _⟩ := ho.sd
    simp [g111_0, hM, g10, g5, hn]
    exact hR _ _ ⟨F', by simpa using q1, hk, hlen⟩

theorem goodT_filter {xs : List Rw} (hg : goodT xs = true) (q : Rw → Bool) : goodT (xs.filter q) = true := by
  obtain ⟨g1, g2, g3⟩ := goodT_facts hg
  simp only [goodT, Bool.and_eq_true, List.all_eq_true, decide_eq_true_eq]
  exact ⟨⟨fun r hr => g1 r (List.mem_filter.1 hr).1, g2.filter q⟩, Nat.le_trans (List.length_filter_le ..) g3⟩
theorem l2Tell_ok {h : Heap} {v : V} {xs : List Rw} {F : List Nat} (hs : SdF h v xs F) : ∃ r h', call p 112 [v] h = some (r, h') ∧ ∃ w G, r = .tup [w, .bool (goodT xs)] ∧ SdF h' w (if goodT xs = true then xs else []) G ∧ Fresh h.length h' G ∧ Keeps h h' ∧ h.length ≤ h'.length := by
  refine go (fn := g112) rfl rfl fun R hR => ?_
  have e0 := GoodTableS_eq hs
  cases hg : goodT xs with
  | false =>
    rw [hg] at e0
    simp [g112, e0]
    exact hR _ _ ⟨.nils, [], by rw [hg], by simpa [hg] using SdF.nil, Fresh.nil, Keeps.refl _, Nat.le_refl _⟩
  | true =>
    rw [hg] at e0
    obtain ⟨g1, g2, g3⟩ := goodT_facts hg
    obtain ⟨r, h1, e1, G, q1, q2, q3, q4⟩ := l2Own_ok hs (by omega) fun r hr => by have := (okR_facts (g1 r hr)).2.1; omega
    simp [g112, e0, e1]
    exact hR _ _ ⟨r, G, by rw [hg], by simpa [hg] using q1, q2, q3, q4⟩

def dropT (xs : List Rw) (key : Int) : List Rw := if (goodT xs && keyIn xs key) = true then xs.filter fun r => decide (r.key ≠ key) else []
theorem DropRowS_ok {h : Heap} {v : V} {xs : List Rw} {F : List Nat} (hs : SdF h v xs F) (key : Int) : ∃ r h', call p 43 [v, vi key] h = some (r, h') ∧ ∃ w G, r = .tup [w, .bool (goodT xs && keyIn xs key)] ∧ SdF h' w (dropT xs key) G ∧ Keeps h h' ∧ h.length ≤ h'.length := by
  refine go (fn := g43) rfl rfl fun R hR => ?_
  have e0 := GoodTableS_eq hs
  obtain ⟨k, e1, hk⟩ := l2Find_eq hs key
  cases hg : goodT xs with
  | false =>
    rw [hg] at e0
    simp [g43, e0]
    exact hR _ _ ⟨.nils, [], by rw [hg]; rfl, by simpa [dropT, hg] using SdF.nil, Keeps.refl _, Nat.le_refl _⟩
  | true =>
    rw [hg] at e0
    obtain ⟨g1, g2, g3⟩ := goodT_facts hg
    cases hy : keyIn xs key with
    | false =>
      have hk' : k < 0 := by simpa [hy] using hk
      simp [g43, e0, e1, hk']
      exact hR _ _ ⟨.nils, [], by rw [hg, hy]; rfl, by simpa [dropT, hy] using SdF.nil, Keeps.refl _, Nat.le_refl _⟩
    | true =>
      have hk' : ¬ k < 0 := by simpa [hy] using hk
      obtain ⟨a, h1, e2, G1, q1, q3, q4⟩ := l2Drop_ok hs (by omega) key
      obtain ⟨_, h2, e3, w, G2, rfl, p1, p2, p3, p4⟩ := l2Tell_ok q1
      rw [goodT_filter hg] at e3 p1
      simp [g43, e0, e1, hk', e2, e3]
      exact hR _ _ ⟨w, G2, by rw [hg, hy]; rfl, by simpa [dropT, hg, hy] using p1, q3.trans p3, by omega⟩
end GL

/-! GL: lists of one's own whose elements may share. -/
namespace GL
open Go
section
variable {α : Type} [Data α] {h : Heap} {v : V} {xs : List α} {F : List Nat}
/-- an element is laid anew, whatever it leads to -/
theorem SdF.putW (hs : SdF h v xs F) (hn : ∀ G, F = bOf v :: G → bOf v ∉ G) (ho : OwnB h (bOf v)) {i : Nat} (hi : i < xs.length) {x' : α} {cs' : List V} {G' : List Nat} (hr : Data.rep h x' cs' G') (hG : bOf v ∉ G') :
    ∃ h' F', wrH h (bOf v) (oOf v + i * Data.sz α) cs' = some h' ∧ SdF h' v (xs.set i x') F' ∧ KeepsP (fun b => b ≠ bOf v) h h' ∧ h'.length = h.length ∧ ∀ b, OwnB h b → OwnB h' b := by
  have hlen0 := hs.1
  rcases hs with ⟨_, ⟨rfl, rfl, _⟩ | ⟨b, off, cap, rfl, hcap, hs⟩⟩
  · simp at hi
  · rcases hs with ⟨rfl, _⟩ | ⟨blk, cs, G, rfl, h1, h2, h3, h4⟩
    · simp at hi
    · obtain ⟨ds, hd⟩ := ho
      simp only [bOf, oOf] at hd ⊢
      rw [hd] at h1; cases h1
      have hbG : ∀ c ∈ G, c ≠ b := fun c hc e => by subst e; exact hn G rfl hc
      obtain ⟨F1, F2, F3, rfl, r2, r1, r3⟩ := h4.get i hi
      have hcl := h4.len
      have hle : (i + 1) * Data.sz α ≤ xs.length * Data.sz α := Nat.mul_le_mul_right _ hi
      have hs1 : (i + 1) * Data.sz α = i * Data.sz α + Data.sz α := by rw [Nat.add_mul, Nat.one_mul]
      have hcs : cs = cs.take (i * Data.sz α) ++ (cs.drop (i * Data.sz α)).take (Data.sz α) ++ cs.drop ((i + 1) * Data.sz α) := by
        rw [hs1, ← List.drop_drop, List.append_assoc, List.take_append_drop, List.take_append_drop]
      have hmid : ((cs.drop (i * Data.sz α)).take (Data.sz α)).length = Data.sz α := by simp; omega
      have hl : lay ((cs.drop (i * Data.sz α)).take (Data.sz α)) 0 cs' = some cs' := by
        unfold lay
        have hc' := Data.len hr
        rw [if_pos (by omega)]
        simp only [List.take_zero, List.nil_append, Nat.zero_add]
        rw [List.drop_of_length_le (by omega), List.append_nil]
      unfold cut at h3
      split at h3
      case isFalse => cases h3
      rename_i hle2
      simp only at hle2
      simp only [Option.some.injEq] at h3
      have hds : ds = ds.take off ++ cs ++ ds.drop (off + xs.length * Data.sz α) := by
        rw [← h3, ← List.drop_drop, List.append_assoc, List.take_append_drop, List.take_append_drop]
      have hol : (ds.take off).length = off := by simp; omega
      have htl : (cs.take (i * Data.sz α)).length = i * Data.sz α := by simp; omega
      have hl2 := layMid (a := cs.take (i * Data.sz α)) (b := cs.drop ((i + 1) * Data.sz α)) hl
      rw [← hcs, htl, Nat.add_zero] at hl2
      have hl3 := layMid (a := ds.take off) (b := ds.drop (off + xs.length * Data.sz α)) hl2
      rw [← hds, hol] at hl3
      have hb := get_lt hd
      have hk : KeepsP (fun c => c ≠ b) h (h.set b ⟨.own, ds.take off ++ (cs.take (i * Data.sz α) ++ cs' ++ cs.drop ((i + 1) * Data.sz α)) ++ ds.drop (off + xs.length * Data.sz α)⟩) := fun c blk hc hb2 _ => by
        rw [List.getElem?_set_ne (Ne.symm hc)]; exact hb2
      have hG'b : ∀ c ∈ G', c ≠ b := fun c hc e => hG (by simp only [bOf]; rw [← e]; exact hc)
      refine ⟨_, b :: (F1 ++ G' ++ F3), by rw [wrH_at hd rfl, hl3]; rfl, ⟨by simpa using hlen0, .inr ⟨b, off, cap, by simp, by simpa using hcap, .inr ⟨⟨.own, ds.take off ++ (cs.take (i * Data.sz α) ++ cs' ++ cs.drop ((i + 1) * Data.sz α)) ++ ds.drop (off + xs.length * Data.sz α)⟩, cs.take (i * Data.sz α) ++ cs' ++ cs.drop ((i + 1) * Data.sz α), _, rfl, by simp [hb], by simp, ?_, ?_⟩⟩⟩, hk, by simp, fun c hc => hc.set hb⟩
      · have hll := (layLen hl2).1
        simp only [cut, List.length_set]
        rw [if_pos (by simp only [List.length_append] at hll ⊢; rw [hol, hll]; simp; omega)]
        rw [List.append_assoc, List.drop_append_of_le_length (by omega), List.drop_of_length_le (by omega), List.nil_append, List.take_append_of_le_length (by rw [hll]; omega), List.take_of_length_le (by rw [hll]; omega)]
      · have hset : xs.set i x' = xs.take i ++ [x'] ++ xs.drop (i + 1) := by
          rw [List.set_eq_take_append_cons_drop, if_pos hi]; simp
        rw [hset]
        refine ((r1.keeps (hk.mono fun c hc => ?_)).append (.one (Data.keeps hr (hk.mono fun c hc => hG'b c hc)))).append (r3.keeps (hk.mono fun c hc => ?_))
        · exact hbG c (by simp [hc])
        · exact hbG c (by simp [hc])


/-- what is written behind a slice's end does not touch it -/
theorem SdF.past (hs : SdF h v xs F) (hn : ∀ G, F = bOf v :: G → bOf v ∉ G) {o : Nat} {ys : List V} {h' : Heap} (hw : wrH h (bOf v) o ys = some h') (ho : oOf v + xs.length * Data.sz α ≤ o) : SdF h' v xs F := by
  unfold wrH at hw
  split at hw
  case h_2 => cases hw
  rename_i blk0 hb0
  split at hw
  case isFalse => cases hw
  rename_i hst
  obtain ⟨cs', hl, hw⟩ := Option.bind_eq_some_iff.1 hw
  injection hw with hw; subst hw
  refine ⟨hs.1, ?_⟩
  rcases hs.2 with hs | ⟨b, off, cap, rfl, hcap, hs⟩
  · exact .inl hs
  · refine .inr ⟨b, off, cap, rfl, hcap, ?_⟩
    rcases hs with hs | ⟨blk, cs, G, rfl, h1, h2, h3, h4⟩
    · exact .inl hs
    · simp only [bOf, oOf] at hb0 ho hn ⊢
      rw [hb0] at h1; cases h1
      have hlt := get_lt hb0
      refine .inr ⟨{ blk0 with cells := cs' }, cs, G, rfl, by simp [hlt], h2, ?_, h4.keeps fun c blk hc hb2 _ => by rw [List.getElem?_set_ne (fun e => hn G rfl (by rw [e]; exact hc))]; exact hb2⟩
      unfold lay at hl
      split at hl
      case isFalse => cases hl
      rename_i hle
      injection hl with hl; subst hl
      unfold cut at h3 ⊢
      split at h3
      case isFalse => cases h3
      rename_i hle2
      simp only [Option.some.injEq] at h3
      rw [if_pos (by simp; omega)]
      simp only [Option.some.injEq]
      rw [← h3, List.append_assoc, List.drop_append_of_le_length (by simp; omega), List.take_append_of_le_length (by simp; omega), List.drop_take, List.take_take]
      congr 2; omega
end
end GL

namespace GL
open Go

/-- a row, and where it lies -/
structure An where
  r : Rw
  g : List Nat
instance anData : Data An where
  sz := 2
  pos := by decide
  rep := fun h a cs F => F = a.g ∧ Data.rep h a.r cs a.g
  len := by rintro h a cs F ⟨rfl, h1⟩; exact Data.len (α := Rw) h1
  ok := by rintro h a cs F ⟨rfl, h1⟩; exact Data.ok h1
  keeps := by rintro h h' a cs F ⟨rfl, h1⟩ hk; exact ⟨rfl, Data.keeps h1 hk⟩
  lt := by rintro h a cs F b ⟨rfl, h1⟩ hb; exact Data.lt h1 hb

theorem Reps.ann {h : Heap} : ∀ {xs : List Rw} {cs : List V} {F : List Nat}, Reps h xs cs F → ∃ ys : List An, ys.map (·.r) = xs ∧ ys.flatMap (·.g) = F ∧ Reps h ys cs F
  | [], cs, F, hr => ⟨[], rfl, by rw [hr.2]; rfl, hr⟩
  | x :: xs, cs, F, ⟨c, r, F1, F2, e, f, h1, h2⟩ => by
    obtain ⟨ys, a, b, d⟩ := Reps.ann h2
    exact ⟨⟨x, F1⟩ :: ys, by simp [a], by simp [b, f], ⟨c, r, F1, F2, e, f, ⟨rfl, h1⟩, d⟩⟩
theorem Reps.unann {h : Heap} : ∀ {ys : List An} {cs : List V} {F : List Nat}, Reps h ys cs F → Reps h (ys.map (·.r)) cs F ∧ F = ys.flatMap (·.g)
  | [], cs, F, hr => ⟨hr, hr.2⟩
  | y :: ys, cs, F, ⟨c, r, F1, F2, e, f, ⟨g1, h1⟩, h2⟩ => by
    obtain ⟨a, b⟩ := Reps.unann h2
    subst g1
    exact ⟨⟨c, r, y.g, F2, e, f, h1, a⟩, by rw [f, b]; simp⟩

section
variable {h : Heap} {v : V} {F : List Nat}
theorem SdF.ann {xs : List Rw} (hs : SdF h v xs F) : ∃ ys : List An, ys.map (·.r) = xs ∧ SdF h v ys F ∧ (xs = [] ∨ F = bOf v :: ys.flatMap (·.g)) := by
  rcases hs with ⟨hb, ⟨rfl, rfl, rfl⟩ | ⟨b, off, cap, rfl, hc, ⟨rfl, rfl⟩ | ⟨blk, cs, G, rfl, h1, h2, h3, h4⟩⟩⟩
  · exact ⟨[], rfl, SdF.nil, .inl rfl⟩
  · exact ⟨[], rfl, ⟨hb, .inr ⟨b, off, cap, rfl, hc, .inl ⟨rfl, rfl⟩⟩⟩, .inl rfl⟩
  · obtain ⟨ys, a, e, d⟩ := h4.ann
    have hl : ys.length = xs.length := by rw [← a]; simp
    exact ⟨ys, a, ⟨by rw [hl]; exact hb, .inr ⟨b, off, cap, by rw [hl], by rw [hl]; exact hc, .inr ⟨blk, cs, G, rfl, h1, h2, by rw [hl]; exact h3, d⟩⟩⟩, .inr (by rw [← e]; rfl)⟩
theorem SdF.unann {ys : List An} (hs : SdF h v ys F) : SdF h v (ys.map (·.r)) F ∧ (F = [] ∨ F = bOf v :: ys.flatMap (·.g)) := by
  have hl : (ys.map (·.r)).length = ys.length := by simp
  rcases hs with ⟨hb, ⟨rfl, rfl, rfl⟩ | ⟨b, off, cap, rfl, hc, ⟨rfl, rfl⟩ | ⟨blk, cs, G, rfl, h1, h2, h3, h4⟩⟩⟩
  · exact ⟨SdF.nil, .inl rfl⟩
  · exact ⟨⟨hb, .inr ⟨b, off, cap, rfl, hc, .inl ⟨rfl, rfl⟩⟩⟩, .inl rfl⟩
  · obtain ⟨a, e⟩ := h4.unann
    exact ⟨⟨by rw [hl]; exact hb, .inr ⟨b, off, cap, by rw [hl], by rw [hl]; exact hc, .inr ⟨blk, cs, G, rfl, h1, h2, by rw [hl]; exact h3, a⟩⟩⟩, .inr (by rw [e]; rfl)⟩
theorem SdF.loadA {ys : List An} (hs : SdF h v ys F) (i : Nat) (hi : i < ys.length) : ∃ x, rdH h (bOf v) (oOf v + i * 2) 2 = some [vi ys[i].r.key, x] ∧ SdF h x ys[i].r.cols ys[i].g := by
  obtain ⟨cs, F1, F2, F3, e, ⟨hg, x, rfl, hx⟩, hF⟩ := hs.load i hi
  exact ⟨x, e, hx⟩
end

/-- a question to a row, by a function value -/
def AskR (f : Nat) (capt : List V) (q : Rw → Bool) (h : Heap) : Prop := ∀ (r : Rw) (x : V), x.cells = [x] ∧ x.cell = true → call p f (.agg [vi r.key, x] :: capt) h = some (.bool (q r), h)

theorem indexR_eq {h : Heap} {v : V} {xs : List Rw} {F : List Nat} (hs : SdF h v xs F) {f : Nat} {capt : List V} {q : Rw → Bool} (ha : AskR f capt q h) :
    ∃ k : Int, call p 150 [v, .fn f capt] h = some (vi k, h) ∧ ((k = -1 ∧ ∀ r ∈ xs, q r = false) ∨ ∃ (i : Nat) (hi : i < xs.length), k = i ∧ q xs[i] = true ∧ ∀ r ∈ xs.take i, q r = false) := by
  have : ∃ w h', call p 150 [v, .fn f capt] h = some (w, h') ∧ ∃ k : Int, w = vi k ∧ h' = h ∧ ((k = -1 ∧ ∀ r ∈ xs, q r = false) ∨ ∃ (i : Nat) (hi : i < xs.length), k = i ∧ q xs[i] = true ∧ ∀ r ∈ xs.take i, q r = false) := by
    refine go (fn := g150) rfl rfl fun R hR => ?_
    simp [g150, hs.len]
    refine Wc_upM (M := [4, 5, 8, 9, 10, 11, 12, 13, 14, 15, 16, 17, 18]) rfl xs.length (fun i s => s.σ 8 = .v (vi i) ∧ s.h = h ∧ ∀ r ∈ xs.take i, q r = false) 0 (by simp) fun i s ⟨g8, gh, hall⟩ hM J hJ => ?_
    by_cases hn : i < xs.length
    · obtain ⟨x, F2, e1, hx, _⟩ := hs.loadR i hn
      have e2 := ha xs[i] x ⟨hx.cells, hx.cell⟩
      cases he : q xs[i] with
      | true =>
        rw [he] at e2
        simp [g150_0, hM, g8, gh, hn, hs.idx, e1, e2]
        exact hR _ _ ⟨i, rfl, rfl, .inr ⟨i, hn, rfl, he, hall⟩⟩
      | false =>
        rw [he] at e2
        simp [g150_0, hM, g8, gh, hn, hs.idx, e1, e2, hs.step hn]
        exact hJ _ hn ⟨by simp, rfl, (all_take_succ hn).2 ⟨hall, he⟩⟩
    · rw [List.take_of_length_le (by omega)] at hall
      simp [g150_0, hM, g8, gh, hn]
      exact hR _ _ ⟨-1, rfl, rfl, .inl ⟨rfl, hall⟩⟩
  obtain ⟨_, _, e, k, rfl, rfl, hk⟩ := this
  exact ⟨k, e, hk⟩

theorem eop_clear (c : CallF) (k : Nat) (z : List V) (b off n : Nat) (cap : Cap) (h : Heap) : eop c (.clear k z) [.v (.slice b off n cap)] h = if n = 0 then some (.tup [], h) else (wrH h b off (List.replicate n z).flatten).bind fun h' => some (.tup [], h') := rfl

/-- a slice of one's own is cleared behind i, and cut there -/
theorem clearA {h : Heap} {v : V} {zs : List An} {F : List Nat} (hs : SdF h v zs F) (ho : OwnB h (bOf v)) (hn : ∀ a ∈ zs, bOf v ∉ a.g) {i : Nat} (hi : i < zs.length) :
    ∃ v1 h' v2 F', slcV 2 v (some i) none none = some v1 ∧ eop (call p) (.clear 2 [vi 0, .nils]) [.v v1] h = some (.tup [], h') ∧ slcV 2 v none (some i) none = some v2 ∧ SdF h' v2 (zs.take i) F' ∧ (∀ x ∈ F', x = bOf v ∨ x ∈ (zs.take i).flatMap (·.g)) ∧ (F' = [] ∨ F' = bOf v :: (zs.take i).flatMap (·.g)) ∧ KeepsP (fun b => b ≠ bOf v) h h' ∧ h'.length = h.length ∧ OwnB h' (bOf v) := by
  have hs0 := hs
  rcases hs with ⟨hb, ⟨rfl, rfl, rfl⟩ | ⟨b, off, cap, rfl, hc, hs⟩⟩
  · simp at hi
  · rcases hs with ⟨rfl, _⟩ | ⟨blk, cs, G, rfl, h1, h2, h3, h4⟩
    · simp at hi
    · obtain ⟨ds, hd⟩ := ho
      simp only [bOf] at hd hn ⊢
      rw [hd] at h1; cases h1
      -- the two parts
      have s1 : ∃ cap1, slcV 2 (.slice b off zs.length cap) (some i) none none = some (.slice b (off + i * 2) (zs.length - i) cap1) := by
        cases cap with
        | k c =>
          have hc : zs.length ≤ c := hc
          exact ⟨_, by simp only [slcV, Option.getD_some, Option.getD_none]; rw [if_pos ⟨by omega, by omega, Nat.le_refl _⟩, if_neg (by omega)]⟩
        | o k' =>
          have hc : k' = 2 := hc
          exact ⟨_, by simp only [slcV, Option.getD_some, Option.getD_none]; rw [if_pos ⟨hc, by omega, Nat.le_refl _⟩]⟩
      have s2 : ∃ cap2, slcV 2 (.slice b off zs.length cap) none (some i) none = some (.slice b off i cap2) := by
        cases cap with
        | k c =>
          have hc : zs.length ≤ c := hc
          refine ⟨.k c, ?_⟩
          simp only [slcV, Option.getD_some, Option.getD_none]
          rw [if_pos ⟨by omega, by omega, Nat.le_refl _⟩]
          simp
        | o k' =>
          have hc : k' = 2 := hc
          refine ⟨.o 2, ?_⟩
          simp only [slcV, Option.getD_some, Option.getD_none]
          rw [if_pos ⟨hc, by omega, by omega⟩]
          simp
      obtain ⟨cap1, s1⟩ := s1
      obtain ⟨cap2, s2⟩ := s2
      obtain ⟨v2, F2, t2, q2, qF, _⟩ := hs0.sub (lo := none) (hi := some i) (i := 0) (j := i) rfl rfl (by omega) (by omega) (k := 2) rfl
      rw [s2] at t2; injection t2 with t2; subst t2
      rw [List.drop_zero] at q2
      have hlen : (List.replicate (zs.length - i) [vi 0, V.nils]).flatten.length = (zs.length - i) * 2 := by simp
      unfold cut at h3
      split at h3
      case isFalse => cases h3
      rename_i hle
      have hsz : zs.length * Data.sz An = zs.length * 2 := rfl
      rw [hsz] at hle
      simp only at hle
      have hw : ∃ h', wrH h b (off + i * 2) (List.replicate (zs.length - i) [vi 0, V.nils]).flatten = some h' ∧ h'.length = h.length ∧ OwnB h' b ∧ KeepsP (fun c => c ≠ b) h h' := by
        rw [wrH_at hd rfl]
        refine ⟨_, by unfold lay; rw [if_pos (by show off + i * 2 + _ ≤ ds.length; rw [hlen]; omega)]; rfl, by simp, ⟨_, by simp [get_lt hd]; rfl⟩, fun c blk hc hb2 _ => by rw [List.getElem?_set_ne (Ne.symm hc)]; exact hb2⟩
      obtain ⟨h', hw, hl', ho', hk'⟩ := hw
      have hn0 : ¬ zs.length - i = 0 := by omega
      have q3 := q2.past (fun G' e => by
        have hu := q2.unann.2
        rcases hu with hu | hu
        · rw [hu] at e; cases e
        · rw [hu] at e; injection e with _ e
          rw [← e]
          intro hm
          obtain ⟨a, ha, hm⟩ := List.mem_flatMap.1 hm
          exact hn a (List.mem_of_mem_take ha) hm) (o := off + i * 2) hw (by simp [oOf]; exact Nat.mul_le_mul_right _ (by omega))
      have hu := q3.unann.2
      refine ⟨_, h', _, F2, s1, by rw [eop_clear, if_neg hn0, hw]; rfl, s2, q3, fun x hx => ?_, hu, hk', hl', ho'⟩
      rcases hu with hu | hu
      · rw [hu] at hx; cases hx
      · rw [hu] at hx
        rcases List.mem_cons.1 hx with rfl | hx
        · exact .inl rfl
        · exact .inr hx

theorem sub_flatMap {α β : Type} (f : α → List β) {l l' : List α} (h : l.Sublist l') : (l.flatMap f).Sublist (l'.flatMap f) := by
  induction h with
  | slnil => exact List.Sublist.refl _
  | cons a _ ih => rw [List.flatMap_cons]; exact ih.trans (List.sublist_append_right _ _)
  | cons_cons a _ ih => rw [List.flatMap_cons, List.flatMap_cons]; exact (List.Sublist.refl _).append ih

theorem DeleteR_ok {h : Heap} {v : V} {xs : List Rw} {F : List Nat} {lo : Nat} (hs : SdF h v xs F) (fr : Fresh lo h F) {f : Nat} {capt : List V} {q : Rw → Bool} (ha : ∀ h', KeepsP (fun b => b ∉ F) h h' → AskR f capt q h') :
    ∃ r h', call p 133 [v, .fn f capt] h = some (r, h') ∧ ∃ G, SdF h' r (xs.filter fun r => !q r) G ∧ Fresh lo h' G ∧ KeepsP (fun b => b ∉ F) h h' ∧ h'.length = h.length := by
  refine go (fn := g133) rfl rfl fun R hR => ?_
  obtain ⟨k, e1, hk | ⟨i0, hi0, rfl, hq0, hall0⟩⟩ := indexR_eq hs (ha h (KeepsP.refl _ _))
  · obtain ⟨rfl, hall⟩ := hk
    have hf : xs.filter (fun r => !q r) = xs := List.filter_eq_self.2 fun r hr => by simp [hall r hr]
    simp [g133, e1]
    exact hR _ _ ⟨F, by rw [hf]; exact hs, fr, KeepsP.refl _ _, rfl⟩
  · obtain ⟨ys, hym, hy, hF⟩ := hs.ann
    have hyl : ys.length = xs.length := by rw [← hym]; simp
    have hF : F = bOf v :: ys.flatMap (·.g) := by rcases hF with rfl | h; simp at hi0; exact h
    have hbF : bOf v ∈ F := by rw [hF]; simp
    have hnd : (bOf v :: ys.flatMap (·.g)).Nodup := by rw [← hF]; exact fr.nodup
    have hnb : ∀ a ∈ ys, bOf v ∉ a.g := fun a ha hm => (List.nodup_cons.1 hnd).1 (List.mem_flatMap.2 ⟨a, ha, hm⟩)
    have hbd := hs.bd
    have w0 : IntKind.i64.wrap ((i0 : Int) + 1) = (i0 + 1 : Nat) := by rw [IntWalk.i64_in] <;> omega
    have hyi : ∀ t (ht : t < ys.length), ys[t].r = xs[t]'(by omega) := fun t ht => by simp only [← hym, List.getElem_map]
    have hn1 : ¬ (i0 : Int) = -1 := by omega
    simp [g133, e1, hn1, w0, -Int.natCast_add]
    refine Wc_upM (M := [5, 6, 7, 16, 17, 18, 19, 20, 21, 22, 23, 24, 25, 26, 27, 28, 29, 30, 31, 32, 33, 34, 35]) rfl xs.length (fun j s => j ≤ xs.length ∧ s.σ 6 = .v (vi j) ∧ KeepsP (fun b => b ≠ bOf v) h s.h ∧ s.h.length = h.length ∧ OwnB s.h (bOf v) ∧ ∃ (i : Nat) (zs : List An) (F' : List Nat), i < j ∧ s.σ 5 = .v (vi i) ∧ SdF s.h v zs F' ∧ zs.length = ys.length ∧ zs.take i = (ys.take j).filter (fun a => !q a.r) ∧ zs.drop j = ys.drop j ∧ (∀ a ∈ zs, a ∈ ys)) (i0 + 1)
      ⟨by omega, by simp, KeepsP.refl _ _, rfl, fr.own _ hbF, i0, ys, F, by omega, by simp, hy, rfl, ?_, rfl, fun a h => h⟩ fun j s ⟨gj, g6, hk, hl, ho, i, zs, F', hij, g5, hz, hzl, htk, hdr, hsub⟩ hM J hJ => ?_
    · -- the first ones
      have hiy : i0 < ys.length := by omega
      rw [List.take_succ_eq_append_getElem hiy, List.filter_append]
      have hx0 : q ys[i0].r = true := by rw [hyi i0 hiy]; exact hq0
      have hf1 : (ys.take i0).filter (fun a => !q a.r) = ys.take i0 := List.filter_eq_self.2 fun a ha => by
        have hma : a.r ∈ xs.take i0 := by rw [← hym, ← List.map_take]; exact List.mem_map.2 ⟨a, ha, rfl⟩
        simp [hall0 _ hma]
      rw [hf1]; simp [hx0]
    · have hzn : ∀ a ∈ zs, bOf v ∉ a.g := fun a ha => hnb a (hsub a ha)
      have hkF : KeepsP (fun b => b ∉ F) h s.h := hk.mono fun b hb e => hb (by rw [e]; exact hbF)
      by_cases hj : j < xs.length
      · have hjz : j < zs.length := by omega
        have hjy : j < ys.length := by omega
        have hzj : zs[j] = ys[j] := by
          have := congrArg (fun l => l[0]?) hdr
          simp only [List.getElem?_drop, Nat.add_zero, List.getElem?_eq_getElem hjz, List.getElem?_eq_getElem hjy, Option.some.injEq] at this
          exact this
        obtain ⟨x, e2, hx⟩ := hz.loadA j hjz
        have e3 := ha s.h hkF zs[j].r x ⟨hx.cells, hx.cell⟩
        have ix := hz.idx 2 .i64 j hjz
        have iw := hz.idx 2 .i64 i (by omega)
        have wj : IntKind.i64.wrap ((j : Int) + 1) = (j + 1 : Nat) := by rw [IntWalk.i64_in] <;> omega
        have wi : IntKind.i64.wrap ((i : Int) + 1) = (i + 1 : Nat) := by rw [IntWalk.i64_in] <;> omega
        have hdr' : zs.drop (j + 1) = ys.drop (j + 1) := by
          rw [← List.drop_drop, ← List.drop_drop, hdr]
        cases hq : q zs[j].r with
        | true =>
          rw [hq] at e3
          simp [g133_0, hM, g6, g5, hs.len, hj, ix, e2, e3, hx.cell, upd, wj, -Int.natCast_add]
          refine hJ _ hj ⟨hj, by simp, hk, hl, ho, i, zs, F', by omega, by simp [g5], hz, hzl, ?_, hdr', hsub⟩
          rw [List.take_succ_eq_append_getElem hjy, List.filter_append, ← htk]
          simp [← hzj, hq]
        | false =>
          rw [hq] at e3
          obtain ⟨h', F2, e4, hz2, hk2, hl2, ho2⟩ := hz.putW (fun G e => by
            rcases hz.unann.2 with hu | hu
            · rw [hu] at e; cases e
            · rw [hu] at e; injection e with _ e
              rw [← e]; intro hm
              obtain ⟨a, ha, hm⟩ := List.mem_flatMap.1 hm
              exact hzn a ha hm) ho (i := i) (by omega) (x' := zs[j]) (cs' := [vi zs[j].r.key, x]) (G' := zs[j].g) ⟨rfl, x, rfl, hx⟩ (hzn _ (List.getElem_mem hjz))
          have e4' : wrH s.h (bOf v) (oOf v + i * 2) [vi zs[j].r.key, x] = some h' := e4
          simp [g133_0, hM, g6, g5, hs.len, hj, ix, iw, e2, e3, hx.cell, upd, wj, wi, e4', -Int.natCast_add]
          refine hJ _ hj ⟨hj, by simp, hk.trans hk2, by simp; omega, ho2 _ ho, i + 1, zs.set i zs[j], F2, by omega, by simp, hz2, by simp [hzl], ?_, ?_, fun a ha => ?_⟩
          · rw [List.take_succ_eq_append_getElem hjy, List.filter_append, ← htk, List.take_succ_eq_append_getElem (by simp; omega), List.take_set_of_le (Nat.le_refl _)]
            simp [← hzj, hq]
          · rw [List.drop_set_of_lt (by omega)]; exact hdr'
          · rcases List.mem_or_eq_of_mem_set ha with ha | rfl
            · exact hsub a ha
            · exact hsub _ (List.getElem_mem hjz)
      · have : j = xs.length := by omega
        subst this
        have htk' : zs.take i = ys.filter fun a => !q a.r := by rw [htk, List.take_of_length_le (by omega)]
        obtain ⟨v1, h', v2, F2, s1, s2, s3, q1, q2, q3, k', l', o'⟩ := clearA hz ho hzn (i := i) (by omega)
        have c0 : (0 : Int) ≤ i := by omega
        simp [g133_0, hM, g6, g5, hs.len, bounds, takeB, s1, s2, s3]
        have hres : (zs.take i).map (·.r) = xs.filter fun r => !q r := by
          rw [htk', ← hym, List.filter_map]; rfl
        have hfin := q1.unann.1
        rw [hres] at hfin
        have hsubl : ((zs.take i).flatMap (·.g)).Sublist (ys.flatMap (·.g)) := by
          rw [htk']
          exact sub_flatMap _ List.filter_sublist
        refine hR _ _ ⟨F2, hfin, ?_, hkF.trans (k'.mono fun b hb e => hb (by rw [e]; exact hbF)), by omega⟩
        rcases q3 with rfl | rfl
        · exact Fresh.nil
        · have hndf : (bOf v :: (zs.take i).flatMap (·.g)).Nodup := hnd.sublist (hsubl.cons_cons _)
          have hinF : ∀ x ∈ bOf v :: (zs.take i).flatMap (·.g), x ∈ F := fun x hx => by
            rw [hF]
            exact (hsubl.cons_cons _).mem hx
          refine ⟨hndf, fun b hb => fr.ge b (hinF b hb), fun b hb => ?_⟩
          by_cases e : b = bOf v
          · rw [e]; exact o'
          · exact ((fr.own b (hinF b hb)).keeps hk e).keeps k' e
end GL

/-! GL: laws of one to four arguments, whatever they are. -/
namespace GL
open Go

/-- an argument, in memory -/
def RepA {α : Type} [Data α] (h : Heap) (x : V) (a : α) (F : List Nat) (agg : Bool) : Prop := ∃ vs, x = (if agg = true then .agg vs else vs.headD .nils) ∧ (agg = false → vs = [x]) ∧ Data.rep h a vs F

section
variable {P : Program} {fid : Nat → FuncId} {w : World} {eqs : List (TypeId × List (Option IntKind))} {p : Prog} (hp : ProgOK P fid eqs p) {f : Nat}
variable {α0 α1 α2 α3 : Type} [Data α0] [Data α1] [Data α2] [Data α3] {x0 x1 x2 x3 : V} {s0 s1 s2 s3 : List (Blk × Option At)} {a0 : α0} {a1 : α1} {a2 : α2} {a3 : α3} {F0 F1 F2 F3 : List Nat} {g0 g1 g2 g3 : Bool} {v0 v1 v2 v3 : Value}

theorem ArgIn.rep {α : Type} [Data α] {x : V} {l m r t : List (Blk × Option At)} {a : α} {F : List Nat} {g : Bool} {v : Value} {n : Nat} (h : ArgIn w n x m a F g v) (hn : n = l.length) (ht : t = l ++ m ++ r) : RepA (sideH t) x a F g := by
  subst hn; subst ht; exact h.at

include hp
end
end GL

namespace GL
open Go

theorem drop1_eq {h : Heap} {b : Nat} {key : Int} (hb : h[b]? = some ⟨.own, [vi key]⟩) : AskR 144 [.ptr b 0] (fun r => decide (r.key = key)) h := fun r x hx => by
  refine go_eq (fn := g144) rfl rfl fun R hR => ?_
  simp [g144, fillL, upd, hx, rdH_at hb]; simpa using hR

theorem dropI_ok {h : Heap} {v : V} {xs : List Rw} {F : List Nat} (hs : SdF h v xs F) (hl : xs.length ≤ 2 ^ 20) (hc : ∀ r ∈ xs, r.cols.length ≤ 2 ^ 20) (key : Int) :
    ∃ r h', call p 113 [v, vi key] h = some (r, h') ∧ ∃ G, SdF h' r (xs.filter fun r => decide (r.key ≠ key)) G ∧ Fresh h.length h' G ∧ Keeps h h' ∧ h.length ≤ h'.length := by
  refine go (fn := g113) rfl rfl fun R hR => ?_
  have k0 : Keeps h (h ++ [⟨.own, [vi key]⟩]) := Keeps.append h _
  obtain ⟨w, h1, e1, G, q1, q2, q3, q4⟩ := clonedRows_ok (hs.keep k0) hl hc
  have hb0 : (h ++ [⟨.own, [vi key]⟩])[h.length]? = some ⟨.own, [vi key]⟩ := get_last _ _
  have hb1 := q3 _ _ hb0 (by simp)
  have hG : ∀ b ∈ G, b ≠ h.length := fun b hb e => by have := q2.ge b hb; simp at this; omega
  obtain ⟨r, h2, e2, G2, p1, p2, p3, p4⟩ := DeleteR_ok q1 q2 (f := 144) (capt := [.ptr h.length 0]) (q := fun r => decide (r.key = key)) fun h' hk => drop1_eq (hk _ _ (fun hm => hG _ hm rfl) hb1 (by simp))
  have hflt : (xs.filter fun r => !decide (r.key = key)) = xs.filter fun r => decide (r.key ≠ key) := by congr 1; funext r; simp
  rw [hflt] at p1
  simp at q4
  simp [g113, e1, e2]
  exact hR _ _ ⟨G2, p1, p2.mono (by simp), Keeps.far (n := h.length) (k0.trans q3) p3 (Nat.le_refl _) fun i hi hm => by have := q2.ge i hm; simp at this; omega, by omega⟩

theorem DropRowI_ok {h : Heap} {v : V} {xs : List Rw} {F : List Nat} (hs : SdF h v xs F) (key : Int) : ∃ r h', call p 44 [v, vi key] h = some (r, h') ∧ ∃ w G, r = .tup [w, .bool (goodT xs && keyIn xs key)] ∧ SdF h' w (dropT xs key) G ∧ Fresh h.length h' G ∧ Keeps h h' ∧ h.length ≤ h'.length := by
  refine go (fn := g44) rfl rfl fun R hR => ?_
  obtain ⟨_, h1, e1, x, n, rfl, hx, k1, l1, _⟩ := FindRow_ok hs key
  cases hb : (goodT xs && keyIn xs key) with
  | false =>
    rw [hb] at e1
    simp [g44, e1, fillL, upd, hx]
    exact hR _ _ ⟨.nils, [], by rw [hb], by simpa [dropT, hb] using SdF.nil, Fresh.nil, k1, l1⟩
  | true =>
    rw [hb] at e1
    have hg : goodT xs = true := by cases h : goodT xs; rw [h] at hb; cases hb; rfl
    obtain ⟨g1, g2, g3⟩ := goodT_facts hg
    obtain ⟨w, h2, e2, G, q1, q2, q3, q4⟩ := dropI_ok (hs.keep k1) (by omega) (fun r hr => by have := (okR_facts (g1 r hr)).2.1; omega) key
    simp [g44, e1, fillL, upd, hx, e2]
    refine hR _ _ ⟨w, G, by rw [hb], ?_, q2.mono l1, k1.trans q3, by omega⟩
    rw [dropT, if_pos hb]; exact q1

def Rw.of (p : Int × List Val) : Rw := ⟨p.1, p.2⟩
def Val.of (p : Bool × Int) : Val := ⟨p.1, p.2⟩
end GL

namespace GL
open Go

theorem key_inj {xs : List Rw} (hup : xs.Pairwise upR) {i j : Nat} (hi : i < xs.length) (hj : j < xs.length) (he : xs[i].key = xs[j].key) : i = j := by
  rcases Nat.lt_trichotomy i j with h | h | h
  · have := (List.pairwise_iff_getElem.1 hup) i j hi hj h
    unfold upR at this; omega
  · exact h
  · have := (List.pairwise_iff_getElem.1 hup) j i hj hi h
    unfold upR at this; omega
def setR (xs : List Rw) (key : Int) (f : Rw → Rw) : List Rw := xs.map fun r => if r.key = key then f r else r
theorem set_eq_map {xs : List Rw} (hup : xs.Pairwise upR) {i : Nat} (hi : i < xs.length) {key : Int} (he : xs[i].key = key) (f : Rw → Rw) : xs.set i (f xs[i]) = setR xs key f := by
  refine List.ext_getElem (by simp [setR]) fun j h1 h2 => ?_
  simp only [setR, List.getElem_map, List.getElem_set]
  have hj : j < xs.length := by simpa using h1
  by_cases e : i = j
  · subst e; simp [he]
  · have : ¬ xs[j].key = key := fun h => e (key_inj hup hi hj (by rw [he, h]))
    simp [e, this]

theorem l2Find_idx {h : Heap} {v : V} {xs : List Rw} {F : List Nat} (hs : SdF h v xs F) (key : Int) : ∃ k : Int, call p 110 [v, vi key] h = some (vi k, h) ∧ ((k < 0 ∧ keyIn xs key = false) ∨ ∃ (i : Nat) (hi : i < xs.length), k = i ∧ xs[i].key = key ∧ keyIn xs key = true) := by
  have : ∃ w h', call p 110 [v, vi key] h = some (w, h') ∧ ∃ k : Int, w = vi k ∧ h' = h ∧ ((k < 0 ∧ keyIn xs key = false) ∨ ∃ (i : Nat) (hi : i < xs.length), k = i ∧ xs[i].key = key ∧ keyIn xs key = true) := by
    refine go (fn := g110) rfl rfl fun R hR => ?_
    simp [g110, hs.len]
    refine Wc_upM (M := [4, 5, 6, 9, 10, 11, 12, 13, 14, 15, 16, 17, 18, 19]) rfl xs.length (fun i s => s.σ 9 = .v (vi i) ∧ s.h = h ∧ ∀ r ∈ xs.take i, r.key ≠ key) 0 (by simp) fun i s ⟨g9, gh, hall⟩ hM J hJ => ?_
    by_cases hn : i < xs.length
    · obtain ⟨x, F2, e1, hx, _⟩ := hs.loadR i hn
      by_cases he : xs[i].key = key
      · have hy : keyIn xs key = true := by simp only [keyIn, List.any_eq_true, decide_eq_true_eq]; exact ⟨xs[i], by simp, he⟩
        simp [g110_0, hM, g9, gh, hn, hs.idx, e1, upd, hx.cell, he]
        exact hR _ _ ⟨i, rfl, rfl, .inr ⟨i, hn, rfl, he, hy⟩⟩
      · simp [g110_0, hM, g9, gh, hn, hs.idx, e1, upd, hx.cell, he, hs.step hn]
        exact hJ _ hn ⟨by simp, rfl, (all_take_succ hn).2 ⟨hall, he⟩⟩
    · rw [List.take_of_length_le (by omega)] at hall
      have hno : keyIn xs key = false := by simp only [keyIn, List.any_eq_false, decide_eq_true_eq]; exact hall
      simp [g110_0, hM, g9, gh, hn]
      exact hR _ _ ⟨-1, rfl, rfl, .inl ⟨by decide, hno⟩⟩
  obtain ⟨_, _, e, k, rfl, rfl, hk⟩ := this
  exact ⟨k, e, hk⟩

/-- a row is put where its key is -/
theorem put_found {h : Heap} {v w : V} {xs : List Rw} {F G : List Nat} (hs : SdF h v xs F) (hg : goodT xs = true) {r : Rw} (hr : RwV h w r G) (hl : r.cols.length ≤ 2 ^ 20) {i : Nat} (hi : i < xs.length) (he : xs[i].key = r.key) :
    ∃ u h', call p 117 [v, w] h = some (u, h') ∧ ∃ z G', u = .tup [z, .bool true] ∧ SdF h' z (setR xs r.key fun _ => r) G' ∧ Fresh h.length h' G' ∧ Keeps h h' ∧ h.length ≤ h'.length := by
  obtain ⟨x, rfl, hx⟩ := hr
  obtain ⟨g1, g2, g3⟩ := goodT_facts hg
  have hb : ∀ r ∈ xs, 0 ≤ r.key ∧ r.key ≤ 999 := fun r hr => (okR_facts (g1 r hr)).1
  obtain ⟨z, h1, e1, G1, q1, q2, q3, q4⟩ := clonedRows_ok hs (by omega) fun r hr => by have := (okR_facts (g1 r hr)).2.1; omega
  obtain ⟨j, fd, e2, hj, hlo, hhi, hfd⟩ := place_eq q1 hb (key := r.key) (by rw [← he]; exact hb _ (List.getElem_mem hi)) g2 (by omega)
  have hji : j = i ∧ fd = true := by
    have hjl : j < xs.length := by
      apply Classical.byContradiction
      intro h
      have := hlo i hi (by omega); omega
    have h1 := hhi j hjl (Nat.le_refl _)
    have hji : j = i := by
      rcases Nat.lt_trichotomy j i with h | h | h
      · have := (List.pairwise_iff_getElem.1 g2) j i hjl hi h
        unfold upR at this; omega
      · exact h
      · have := hlo i hi h; omega
    subst hji
    exact ⟨rfl, hfd.2 ⟨hjl, he⟩⟩
  obtain ⟨rfl, rfl⟩ := hji
  obtain ⟨y, h2, e3, G2, hy, p2, p3, p4⟩ := clonedRow_ok (r := r) ⟨x, rfl, hx.keep q3⟩ hl
  obtain ⟨y, rfl, hy⟩ := hy
  have q1' := q1.keep p3
  have fr1 := q2.keeps (p3.p _)
  have hGG : ∀ b ∈ G2, b ∉ G1 := fun b hb hm => by have := p2.ge b hb; have := (q2.own b hm).lt; omega
  have hbz : bOf z ∈ G1 := by
    obtain ⟨_, _, _, _, _, _, hb, _⟩ := q1.inner q2.nodup hi
    exact hb
  have hoz := (q2.own _ hbz).keeps (p3.p fun _ => True) trivial
  obtain ⟨h3, F', e4, s4, n4, m4, k4, l4, o4⟩ := q1'.putN fr1.nodup hoz (i := j) hi (x' := r) (cs' := [vi r.key, y]) (G' := G2) ⟨y, rfl, hy⟩ hGG p2.nodup
  have e4' : wrH h2 (bOf z) (oOf z + j * 2) [vi r.key, y] = some h3 := e4
  have ix := q1.idx 2 .i64 j hi
  have hset : xs.set j r = setR xs r.key fun _ => r := set_eq_map g2 hi he fun _ => r
  rw [hset] at s4
  have hll : (setR xs r.key fun _ => r).length = xs.length := by simp [setR]
  have hl20 : ¬ (20 : Int) < xs.length := by omega
  have s4l := s4.len
  rw [hll] at s4l
  refine go (fn := g117) rfl rfl fun R hR => ?_
  simp [g117, fillL, upd, hx.cells, hx.cell, e1, e2, e3, ix, e4', hy.cell, s4l, hl20]
  refine hR _ _ ⟨z, F', rfl, s4, ⟨n4, fun b hb => ?_, fun b hb => ?_⟩, Keeps.far (n := h.length) (q3.trans p3) k4 (Nat.le_refl _) fun i hi e => by have := q2.ge _ hbz; omega, by omega⟩
  · rcases m4 b hb with hb | hb
    · exact q2.ge b hb
    · have := p2.ge b hb; omega
  · rcases m4 b hb with hb | hb
    · exact o4 b (fr1.own b hb)
    · exact o4 b (p2.own b hb)

end GL

namespace GL
open Go

end GL

namespace GL
open Go

theorem sameRow_same {h : Heap} {v w : V} {r : Rw} {F G : List Nat} (hr : RwV h v r F) (ht : RwV h w r G) : call p 65 [v, w] h = some (.bool true, h) := by
  obtain ⟨x, rfl, hx⟩ := hr
  obtain ⟨y, rfl, hy⟩ := ht
  refine go_eq (fn := g65) rfl rfl fun R hR => ?_
  simp [g65, fillL, upd, hx.cells, hx.cell, hy.cells, hy.cell, hx.len, hy.len]
  refine Wc_upM (M := [4, 5, 23, 24, 25, 26, 27, 28, 29, 30, 31, 32, 33, 34, 35, 36, 37]) rfl r.cols.length (fun i s => s.σ 23 = .v (vi i) ∧ s.h = h ∧ s.L 2 = (1, [vi r.key, x]) ∧ s.L 3 = (1, [vi r.key, y])) 0 (by simp [upd]) fun i s ⟨g23, gh, c2, c3⟩ hM J hJ => ?_
  by_cases hn : i < r.cols.length
  · simp [g65_0, hM, g23, gh, c2, c3, hn, upd, eqCells, hx.idx, hy.idx, hx.sl.loadV i hn, hy.sl.loadV i hn, hx.step hn]
    exact hJ _ hn ⟨by simp, rfl, c2, c3⟩
  · simp [g65_0, hM, g23, gh, hn]
    exact hR

theorem sameTable_same {h : Heap} {v w : V} {xs : List Rw} {F G : List Nat} (hs : SdF h v xs F) (ht : SdF h w xs G) : call p 61 [v, w] h = some (.bool true, h) := by
  refine go_eq (fn := g61) rfl rfl fun R hR => ?_
  simp [g61, hs.len, ht.len]
  refine Wc_upM (M := [4, 5, 13, 14, 15, 16, 17, 18, 19, 20, 21, 22, 23, 24, 25, 26]) rfl xs.length (fun i s => s.σ 13 = .v (vi i) ∧ s.h = h) 0 (by simp) fun i s ⟨g13, gh⟩ hM J hJ => ?_
  by_cases hn : i < xs.length
  · obtain ⟨x, F2, e1, hx, _⟩ := hs.loadR i hn
    obtain ⟨y, G2, e2, hy, _⟩ := ht.loadR i hn
    have e3 := sameRow_same (r := xs[i]) ⟨x, rfl, hx⟩ ⟨y, rfl, hy⟩
    simp [g61_0, hM, g13, gh, hn, hs.idx, ht.idx, e1, e2, e3, upd, hs.step hn]
    exact hJ _ hn ⟨by simp, rfl⟩
  · simp [g61_0, hM, g13, gh, hn]
    exact hR

end GL

namespace GL
open Go

end GL

namespace GL
open Go

section
variable {α : Type} [Data α] {h : Heap} {v w : V} {xs zs : List α} {lo : Nat} {F G : List Nat}
theorem Od.appS (ho : Od lo h v xs F) (hs : SdF h w zs G) (hG : ∀ b ∈ G, ¬ vB v b) {bytes : Nat} (hb : bytes ≤ 2 ^ 8) (hl : xs.length + zs.length ≤ 2 ^ 30) {k : Nat} (hk : k = Data.sz α) :
    ∃ ys v' h' G', GL.rdS h k w zs.length = some ys ∧ appH k bytes v zs.length ys h = some (v', h') ∧ Od lo h' v' (xs ++ zs) (F ++ G') ∧ (∀ b ∈ G', b ∈ G) ∧ KeepsP (fun i => ¬ vB v i) h h' ∧ h.length ≤ h'.length := by
  obtain ⟨cs, G', e, hr, hm⟩ := hs.rdS
  subst hk
  by_cases h0 : zs.length = 0
  · have hz : zs = [] := List.length_eq_zero_iff.1 h0
    subst hz
    obtain ⟨rfl, rfl⟩ := hr
    obtain ⟨F', hsd, _⟩ := ho.sd
    have := hsd.len
    exact ⟨[], v, h, [], e, by simp [appH, this], by simpa using ho, by simp, KeepsP.refl _ _, Nat.le_refl _⟩
  · obtain ⟨v', h', e1, o', k', l', _⟩ := ho.app (zs := zs) (by omega) hr (fun b hb => hG b (hm b hb)) hb hl rfl rfl
    exact ⟨cs, v', h', G', e, e1, o', hm, k', by omega⟩
end

def insR (xs : List Rw) (r : Rw) : List Rw := (xs.filter fun x => decide (x.key < r.key)) ++ [r] ++ xs.filter fun x => decide (r.key < x.key)
theorem ins_eq {xs : List Rw} {r : Rw} (hup : xs.Pairwise upR) {k : Nat} (h1 : ∀ x ∈ (xs.filter fun x => decide (x.key ≠ r.key)).take k, x.key < r.key)
    (h2 : ∀ (hk : k < (xs.filter fun x => decide (x.key ≠ r.key)).length), ¬ (xs.filter fun x => decide (x.key ≠ r.key))[k].key < r.key) :
    (xs.filter fun x => decide (x.key ≠ r.key)).take k ++ [r] ++ (xs.filter fun x => decide (x.key ≠ r.key)).drop k = insR xs r := by
  have hd : (xs.filter fun x => decide (x.key ≠ r.key)).Pairwise upR := hup.filter _
  have hne : ∀ x ∈ (xs.filter fun x => decide (x.key ≠ r.key)), x.key ≠ r.key := fun x hx => by simpa using (List.mem_filter.1 hx).2
  have f1 : (xs.filter fun x => decide (x.key < r.key)) = (xs.filter fun x => decide (x.key ≠ r.key)).filter fun x => decide (x.key < r.key) := by
    rw [List.filter_filter]; congr 1; funext x; simp; omega
  have f2 : (xs.filter fun x => decide (r.key < x.key)) = (xs.filter fun x => decide (x.key ≠ r.key)).filter fun x => decide (r.key < x.key) := by
    rw [List.filter_filter]; congr 1; funext x; simp; omega
  rw [insR, f1, f2]
  generalize (xs.filter fun x => decide (x.key ≠ r.key)) = ds at *
  have h3 : ∀ x ∈ ds.drop k, r.key < x.key := fun x hx => by
    obtain ⟨i, hi, rfl⟩ := List.getElem_of_mem hx
    rw [List.length_drop] at hi
    rw [List.getElem_drop]
    have hk : k < ds.length := by omega
    have a := h2 hk
    have b := up_le hd (a := k) (b := k + i) hk (by omega) (by omega)
    have c := hne ds[k + i] (List.getElem_mem _)
    omega
  have t1 : ds.filter (fun x => decide (x.key < r.key)) = ds.take k := by
    conv => lhs; rw [← List.take_append_drop k ds]
    rw [List.filter_append, List.filter_eq_self.2 (by simpa using h1), List.filter_eq_nil_iff.2 (fun x hx => by have := h3 x hx; simp; omega), List.append_nil]
  have t2 : ds.filter (fun x => decide (r.key < x.key)) = ds.drop k := by
    conv => lhs; rw [← List.take_append_drop k ds]
    rw [List.filter_append, List.filter_eq_nil_iff.2 (fun x hx => by have := h1 x hx; simp; omega), List.filter_eq_self.2 (fun x hx => by simpa using h3 x hx), List.nil_append]
  rw [t1, t2]

theorem l2Put_ok {h : Heap} {v w : V} {xs : List Rw} {F G : List Nat} (hs : SdF h v xs F) (hup : xs.Pairwise upR) {r : Rw} (hr : RwV h w r G) (hl : xs.length ≤ 2 ^ 20) :
    ∃ u h', call p 120 [v, w] h = some (u, h') ∧ ∃ G', SdF h' u (insR xs r) G' ∧ Keeps h h' ∧ h.length ≤ h'.length := by
  obtain ⟨x, rfl, hx⟩ := hr
  refine go (fn := g120) rfl rfl fun R hR => ?_
  obtain ⟨d, h1, e1, G1, c1, k1, l1⟩ := l2Drop_ok hs hl r.key
  have hx1 := hx.keep k1
  have hlen := c1.len
  have hins := fun k => ins_eq (r := r) hup (k := k)
  have hdl : (xs.filter fun x => decide (x.key ≠ r.key)).length ≤ 2 ^ 20 := Nat.le_trans (List.length_filter_le ..) hl
  generalize hds : (xs.filter fun x => decide (x.key ≠ r.key)) = ds at *
  simp only [g120]
  simp [fillL, upd, hx.cells, hx.cell, e1]
  refine Wc_upM (M := [5, 11, 12, 13, 14, 15, 16, 17, 18, 19, 20, 21, 22, 23, 24, 25, 26]) rfl ds.length (fun i s => i ≤ ds.length ∧ s.σ 5 = .v (vi i) ∧ s.h = h1 ∧ s.L 3 = (1, [vi r.key, x]) ∧ ∀ y ∈ ds.take i, y.key < r.key) 0
    (by simp [upd]) fun i s ⟨gi, g5, gh, gL, hall⟩ hM J hJ => ?_
  by_cases hc : ∃ hn : i < ds.length, ds[i].key < r.key
  · obtain ⟨hn, hlt⟩ := hc
    have e2 := c1.loadKey i hn
    simp [g120_0, hM, g5, gh, gL, hlen, hn, c1.idx, e2, hlt, c1.step hn]
    exact hJ _ hn ⟨hn, by simp, rfl, gL, (all_take_succ hn).2 ⟨hall, hlt⟩⟩
  · have hend := hins i hall fun hk hlt => hc ⟨hk, hlt⟩
    -- the three parts
    obtain ⟨v1, F1, s1, t1, m1, b1⟩ := c1.sub (lo := none) (hi := some i) (i := 0) (j := i) rfl rfl (Nat.zero_le _) gi (k := 2) rfl
    obtain ⟨v2, F2, s2, t2, m2, b2⟩ := c1.sub (lo := some i) (hi := none) (i := i) (j := ds.length) rfl rfl gi (Nat.le_refl _) (k := 2) rfl
    rw [List.drop_zero] at t1
    rw [List.take_length] at t2
    have ltG : ∀ b ∈ G1, b < h1.length := fun b hb => by obtain ⟨_, h1, _⟩ := c1.lt hb; exact get_lt h1
    have ltX : ∀ b ∈ G, b < h1.length := fun b hb => by obtain ⟨_, h1, _⟩ := hx1.lt hb; exact get_lt h1
    have ka : Keeps h1 (h1 ++ [⟨.own, []⟩]) := Keeps.append _ _
    have o0 : Od h1.length (h1 ++ [⟨.own, []⟩]) (.slice h1.length 0 0 (.k 0)) ([] : List Rw) [] := Od.empty (Nat.le_refl _) (by simp)
    have hl1 : (ds.take i).length = i := by simp; omega
    obtain ⟨ys1, w1, h2, H1, e3, e4, o1, n1, k2, l2⟩ := o0.appS (t1.keep ka) (fun b hb hv => by have := (o0.ge hv).1; have := ltG b (m1 b hb); omega) (bytes := 32) (by decide) (by simp; omega) (k := 2) rfl
    rw [hl1] at e3 e4
    have k02 : Keeps h1 h2 := Keeps.far (n := h1.length) ka k2 (Nat.le_refl _) fun i hi hv => by have := (o0.ge hv).1; omega
    have kl : Keeps h2 (h2 ++ [⟨.own, [vi r.key, x]⟩]) := Keeps.append _ _
    have o1' : Od h1.length (h2 ++ [⟨.own, [vi r.key, x]⟩]) w1 _ _ := o1.keeps (kl.p fun _ => True) (fun _ _ => trivial) (fun _ _ => trivial) (by simp)
    obtain ⟨w2, h3, e5, o2, k3, l3, _⟩ := o1'.app (zs := [r]) (ys := [vi r.key, x]) (G := G) (by simp) (.one ⟨x, rfl, hx1.keep (k02.trans kl)⟩) (fun b hb hv => by have := (o1.ge hv).1; have := ltX b hb; omega) (bytes := 32) (by decide) (by simp; omega) (k := 2) rfl (n := 1) rfl
    have k03 : Keeps h1 h3 := Keeps.far (n := h1.length) (k02.trans kl) k3 (Nat.le_refl _) fun i hi hv => by have := (o1.ge hv).1; omega
    have hl2 : (ds.drop i).length = ds.length - i := by simp
    obtain ⟨ys2, w3, h4, H2, e6, e7, o3, n3, k4, l4⟩ := o2.appS (t2.keep k03) (fun b hb hv => by have := (o2.ge hv).1; have := ltG b (m2 b hb); omega) (bytes := 32) (by decide) (by simp; omega) (k := 2) rfl
    rw [hl2] at e6 e7
    have k04 : Keeps h1 h4 := Keeps.far (n := h1.length) k03 k4 (Nat.le_refl _) fun i hi hv => by have := (o2.ge hv).1; omega
    obtain ⟨F', q, _⟩ := o3.sd
    simp only [List.nil_append] at q
    rw [hend] at q
    have len1 := t1.len
    have len2 := t2.len
    rw [hl1] at len1
    rw [hl2] at len2
    have fin : R w3 h4 := hR _ _ ⟨F', q, k1.trans k04, by simp at l2 l3 l4; omega⟩
    have step : ∀ (b : Bool), b = false → True := fun _ _ => trivial
    by_cases hn : i < ds.length
    · have hlt : ¬ ds[i].key < r.key := fun h => hc ⟨hn, h⟩
      have e2 := c1.loadKey i hn
      simp [g120_0, hM, g5, gh, gL, hlen, hn, c1.idx, e2, hlt, fillL, bounds, takeB, s1, s2, len1, len2, e3, e4, rdS_last, e5, e6, e7, hx1.cell]
      exact fin
    · simp [g120_0, hM, g5, gh, gL, hlen, hn, fillL, bounds, takeB, s1, s2, len1, len2, e3, e4, rdS_last, e5, e6, e7, hx1.cell]
      exact fin
end GL

namespace GL
open Go

def putT (xs : List Rw) (r : Rw) : List Rw := if (goodT xs && okR r && goodT (insR xs r)) = true then insR xs r else []
theorem PutRowS_ok {h : Heap} {v w : V} {xs : List Rw} {F G : List Nat} (hs : SdF h v xs F) {r : Rw} (hr : RwV h w r G) :
    ∃ u h', call p 55 [v, w] h = some (u, h') ∧ ∃ z G', u = .tup [z, .bool (goodT xs && okR r && goodT (insR xs r))] ∧ SdF h' z (putT xs r) G' ∧ Fresh h.length h' G' ∧ Keeps h h' ∧ h.length ≤ h'.length := by
  have hr0 := hr
  obtain ⟨x, rfl, hx⟩ := hr
  refine go (fn := g55) rfl rfl fun R hR => ?_
  have e0 := GoodTableS_eq hs
  have e1 := l2Row_eq hr0
  have bad : (goodT xs && okR r && goodT (insR xs r)) = false → R (.tup [.nils, .bool false]) h := fun hb => hR _ _ ⟨.nils, [], by rw [hb], by simpa [putT, hb] using SdF.nil, Fresh.nil, Keeps.refl _, Nat.le_refl _⟩
  cases hg : goodT xs with
  | false =>
    rw [hg] at e0
    simp [g55, fillL, upd, hx.cells, hx.cell, e0]
    exact bad (by simp [hg])
  | true =>
    rw [hg] at e0
    obtain ⟨g1, g2, g3⟩ := goodT_facts hg
    cases ho : okR r with
    | false =>
      rw [ho] at e1
      simp [g55, fillL, upd, hx.cells, hx.cell, e0, e1]
      exact bad (by simp [ho])
    | true =>
      rw [ho] at e1
      obtain ⟨u, h1, e2, G1, c1, k1, l1⟩ := l2Put_ok hs g2 hr0 (by omega)
      obtain ⟨_, h2, e3, z, G2, rfl, c2, f2, k2, l2⟩ := l2Tell_ok c1
      simp [g55, fillL, upd, hx.cells, hx.cell, e0, e1, e2, e3]
      exact hR _ _ ⟨z, G2, by rw [hg, ho]; rfl, by simpa only [putT, hg, ho, Bool.true_and] using c2, f2.mono l1, k1.trans k2, by omega⟩

theorem putT_len (xs : List Rw) (r : Rw) : (putT xs r).length ≤ 20 := by
  unfold putT
  split
  · rename_i hb
    simp only [Bool.and_eq_true] at hb
    exact (goodT_facts hb.2).2.2
  · simp

theorem DC.row {h0 h : Heap} {N : Nat} (d : DC h0 h N) (hN : N < 2 ^ 58) : ∃ v h', call p 125 [.ptr h0.length 0] h = some (v, h') ∧ ∃ (r : Rw) (G : List Nat), RwV h' v r G ∧ (∀ b ∈ G, h.length ≤ b) ∧ DC h0 h' (N + 50) ∧ KeepsBut h0.length h h' ∧ h.length ≤ h'.length := by
  obtain ⟨n, h1, e1, hn, d1, k1, l1⟩ := d.pick (by omega) 8 (by decide)
  obtain ⟨x1, h2, e2, d2, k2, l2⟩ := d1.small (by omega)
  obtain ⟨x2, h3, e3, d3, k3, l3⟩ := d2.small (by omega)
  obtain ⟨x3, h4, e4, d4, k4, l4⟩ := d3.small (by omega)
  have hlt := d.lt
  refine go (fn := g125) rfl rfl fun R hR => ?_
  have kb := ((k1.trans k2).trans k3).trans k4
  let cs : List V := [.bool x1.null, vi x1.n, .bool x2.null, vi x2.n, .bool x3.null, vi x3.n]
  have d5 := d4.lit [⟨.own, cs⟩]
  have kb5 := kb.trans (KeepsBut.lit (c := h0.length) (h := h4) [⟨.own, cs⟩])
  obtain ⟨q, h6, e6, hq, d6, k6, l6⟩ := d5.pick (by omega) 40 (by decide)
  have s5 : Sl (h4 ++ [⟨.own, cs⟩]) (.slice h4.length 0 3 (.k 3)) [x1, x2, x3] := Sl.lit [x1, x2, x3] 3 rfl cs rfl (.k 3) (by simp)
  obtain ⟨F, s5, hF, _⟩ := s5.sdF (Nat.le_refl 3)
  have hF4 : ∀ b ∈ F, b = h4.length := fun b hb => (hF b hb).1
  have s6 := s5.keeps (k6.P.mono fun b hb => by have := hF4 b hb; omega)
  have o6 : OwnB h6 h4.length := ⟨_, k6 _ _ (by omega) (get_last _ _) (by simp)⟩
  have kb6 := kb5.trans k6
  simp at l6
  have hG : ∀ b ∈ F, h.length ≤ b := fun b hb => by have := hF4 b hb; omega
  have base : ∀ key : Int, R (.agg [vi key, .slice h4.length 0 3 (.k 3)]) h6 := fun key => hR _ _ ⟨⟨key, [x1, x2, x3]⟩, F, ⟨_, rfl, s6⟩, hG, d6.mono (by omega), kb6, by omega⟩
  by_cases q0 : q = 0
  · subst q0
    obtain ⟨a, h7, e7, _, d7, k7, l7⟩ := d6.amongL (by omega) [-1, 999, 1000] 3 rfl [vi (-1), vi 999, vi 1000] rfl (.k 3) (by decide) (by decide)
    have s7 := s6.keeps (k7.P.mono fun b hb => by have := hF4 b hb; omega)
    simp [g125, fillL, upd, resV, mkV, e1, e2, e3, e4, e6, e7, takeB, cs]
    exact hR _ _ ⟨⟨a, [x1, x2, x3]⟩, F, ⟨_, rfl, s7⟩, hG, d7.mono (by omega), kb6.trans k7, by omega⟩
  · by_cases q1 : q = 1
    · subst q1
      obtain ⟨y, h7, e7, d7, k7, l7⟩ := d6.value (by omega)
      have s7 := s6.keeps (k7.P.mono fun b hb => by have := hF4 b hb; omega)
      obtain ⟨h8, e8, s8, k8, l8, _⟩ := s7.putF (o6.keeps k7.P (by omega)) (i := 0) (by simp) (x' := y) (o := 0) (ys := [.bool y.null, vi y.n]) (by simp [Flat.cells, lay])
      simp [bOf, oOf] at e8
      simp [g125, fillL, upd, resV, mkV, e1, e2, e3, e4, e6, e7, e8, idxV, cs]
      exact hR _ _ ⟨⟨n, [y, x2, x3]⟩, F, ⟨_, rfl, s8⟩, hG, (d7.far k8 fun i hi e => by simp [bOf] at e; omega).mono (by omega), (kb6.trans k7).far k8 fun i hi _ e => by simp [bOf] at e; omega, by omega⟩
    · by_cases q2 : q = 2
      · subst q2
        obtain ⟨v', F', e7, s7, m7, _⟩ := s6.sub (lo := some 1) (hi := none) (i := 1) (j := 3) rfl rfl (by decide) (by simp) (k := 2) rfl
        have hv := s7.cells
        have hv2 := s7.cell
        simp [g125, fillL, upd, resV, mkV, e1, e2, e3, e4, e6, bounds, takeB, e7, hv, hv2, cs]
        exact hR _ _ ⟨⟨n, [x2, x3]⟩, F', ⟨_, rfl, s7⟩, fun b hb => hG b (m7 b hb), d6.mono (by omega), kb6, by omega⟩
      · have q1' : ¬ (q : Int) = 1 := by omega
        have q2' : ¬ (q : Int) = 2 := by omega
        simp [g125, fillL, upd, resV, mkV, e1, e2, e3, e4, e6, q0, q1', q2', cs]
        exact base n
end GL

namespace GL
open Go

theorem SdF.putKey {h : Heap} {v : V} {xs : List Rw} {F : List Nat} (hs : SdF h v xs F) (hn : F.Nodup) (ho : OwnB h (bOf v)) {i : Nat} (hi : i < xs.length) (k : Int) :
    ∃ h', wrH h (bOf v) (oOf v + i * 2) [vi k] = some h' ∧ SdF h' v (xs.set i ⟨k, xs[i].cols⟩) F ∧ KeepsP (fun b => b ≠ bOf v) h h' ∧ h'.length = h.length := by
  obtain ⟨h1, e1, s1, k1, l1, _⟩ := hs.put hn ho hi (x' := ⟨k, xs[i].cols⟩) (o := 0) (ys := [vi k]) fun cs G hr hG => by
    obtain ⟨x, rfl, hx⟩ := hr
    exact ⟨[vi k, x], by simp [lay], fun h' hk => ⟨x, rfl, hx.keeps hk⟩⟩
  simp only [Nat.add_zero] at e1
  exact ⟨h1, e1, s1, k1, l1⟩
theorem SdF.inF {α : Type} [Data α] {h : Heap} {v : V} {xs : List α} {F : List Nat} (hs : SdF h v xs F) {i : Nat} (hi : i < xs.length) : bOf v ∈ F := by
  obtain ⟨_, _, _, _, _, _, hF⟩ := hs.load i hi
  rw [hF]; simp

theorem DC.table {h0 h : Heap} {N : Nat} (d : DC h0 h N) (hN : N < 2 ^ 57) : ∃ v h', call p 124 [.ptr h0.length 0] h = some (v, h') ∧ ∃ (xs : List Rw) (G : List Nat), SdF h' v xs G ∧ (∀ b ∈ G, h.length ≤ b) ∧ DC h0 h' (N + 2000) ∧ KeepsBut h0.length h h' ∧ h.length ≤ h'.length := by
  obtain ⟨n0, h1, e1, hn0, d1, k1, l1⟩ := d.pick (by omega) 7 (by decide)
  obtain ⟨b, h2, e2, d2, k2, l2⟩ := d1.one (by omega) 20 (by decide)
  have hlt := d.lt
  have kb2 := k1.trans k2
  refine go (fn := g124) rfl rfl fun R hR => ?_
  have loop : ∀ (n : Nat) (s0 : S) (K : Ex → S → Prop), n ≤ 20 → s0.σ 5 = .v (vi 0) → s0.σ 4 = .v (vi n) → s0.σ 3 = .v .nils → s0.σ 0 = .v (.ptr h0.length 0) → s0.h = h2 →
      (∀ s' (xs : List Rw) v F, s'.σ 0 = .v (.ptr h0.length 0) → s'.σ 3 = .v v → SdF s'.h v xs F → Fresh h.length s'.h F → xs.length ≤ 20 → DC h0 s'.h (N + 1500) → KeepsBut h0.length h s'.h → h.length ≤ s'.h.length → K (.exit 0) s') → Wc p (.loop g124_0) s0 K := by
    intro n s0 K hn g5 g4 g3 g0 gh hK
    refine Wc_upM (M := [3, 5, 6, 7, 8, 13, 14, 15, 16, 17, 18, 19, 20, 21, 22, 23, 24, 25, 26, 27, 28, 29, 30, 31]) rfl n (fun i s => i ≤ n ∧ s.σ 5 = .v (vi i) ∧ ∃ (xs : List Rw) (v : V) (F : List Nat), s.σ 3 = .v v ∧ SdF s.h v xs F ∧ Fresh h.length s.h F ∧ xs.length ≤ 20 ∧ DC h0 s.h (N + 4 + i * 50) ∧ KeepsBut h0.length h s.h ∧ h.length ≤ s.h.length) 0
      ⟨Nat.zero_le _, g5, [], .nils, [], g3, SdF.nil, Fresh.nil, by simp, by simpa [gh] using d2, by rw [gh]; exact kb2, by rw [gh]; omega⟩ fun i s ⟨gi, g5, xs, v, F, g3, hs, fr, hx, d, kb, hl⟩ hM J hJ => ?_
    by_cases hi : i < n
    · have w1 : IntKind.i64.wrap ((i : Int) + 1) = (i + 1 : Nat) := by rw [IntWalk.i64_in] <;> omega
      obtain ⟨_, h4, e4, r, G, ⟨x, rfl, hr⟩, hG, d4, k4, l4⟩ := d.row (by omega)
      have hs4 := hs.keeps (k4.P.mono fun b hb => by have := fr.ge b hb; omega)
      have fr4 := fr.keeps (k4.P.mono fun b hb => by have := fr.ge b hb; omega)
      have put : ∀ key : Int, ∃ z h5 G', call p 55 [v, .agg [vi key, x]] h4 = some (.tup [z, .bool (goodT xs && okR ⟨key, r.cols⟩ && goodT (insR xs ⟨key, r.cols⟩))], h5) ∧ SdF h5 z (putT xs ⟨key, r.cols⟩) G' ∧ Fresh h4.length h5 G' ∧ Keeps h4 h5 ∧ h4.length ≤ h5.length := fun key => by
        obtain ⟨_, h5, e5, z, G', rfl, q⟩ := PutRowS_ok hs4 (r := ⟨key, r.cols⟩) (w := .agg [vi key, x]) ⟨x, rfl, hr⟩
        exact ⟨z, h5, G', e5, q⟩
      obtain ⟨key, hkey⟩ : ∃ key : Int, key = if (n : Int) = 20 then (i : Int) else r.key := ⟨_, rfl⟩
      obtain ⟨z, h5, G', e5, s5, f5, k5, l5⟩ := put key
      have dn := (d4.keeps k5).mono (M := N + 4 + (i + 1) * 50) (by omega)
      have kbn := (kb.trans k4).trans (k5.but h0.length)
      have good : ∀ t : S, t.h = h5 → t.σ 5 = .v (vi ((i : Int) + 1)) → (t.σ 3 = .v z ∨ t.σ 3 = .v v) → J t := fun t th t5 t3 => by
        rcases t3 with t3 | t3
        · exact hJ _ hi ⟨hi, t5, putT xs ⟨key, r.cols⟩, z, G', t3, by rw [th]; exact s5, by rw [th]; exact f5.mono (by omega), putT_len _ _, by rw [th]; exact dn, by rw [th]; exact kbn, by rw [th]; omega⟩
        · exact hJ _ hi ⟨hi, t5, xs, v, F, t3, by rw [th]; exact hs4.keep k5, by rw [th]; exact fr4.keeps (k5.p _), hx, by rw [th]; exact dn, by rw [th]; exact kbn, by rw [th]; omega⟩
      cases hok : (goodT xs && okR ⟨key, r.cols⟩ && goodT (insR xs ⟨key, r.cols⟩)) with
      | false =>
        rw [hok] at e5
        by_cases h20 : (n : Int) = 20
        · rw [if_pos h20] at hkey; subst hkey
          have hi20 : (i : Int) < 20 := by omega
          simp [g124_0, hM, g0, g5, g4, g3, hi, e4, e5, h20, hi20, fillL, upd, hr.cell, w1]
          exact good _ rfl (by simp) (.inr (by simp [g3]))
        · rw [if_neg h20] at hkey; subst hkey
          simp [g124_0, hM, g0, g5, g4, g3, hi, e4, e5, h20, fillL, upd, hr.cell, w1]
          exact good _ rfl (by simp) (.inr (by simp [g3]))
      | true =>
        rw [hok] at e5
        by_cases h20 : (n : Int) = 20
        · rw [if_pos h20] at hkey; subst hkey
          have hi20 : (i : Int) < 20 := by omega
          simp [g124_0, hM, g0, g5, g4, g3, hi, e4, e5, h20, hi20, fillL, upd, hr.cell, w1]
          exact good _ rfl (by simp) (.inl (by simp))
        · rw [if_neg h20] at hkey; subst hkey
          simp [g124_0, hM, g0, g5, g4, g3, hi, e4, e5, h20, fillL, upd, hr.cell, w1]
          exact good _ rfl (by simp) (.inl (by simp))
    · simp [g124_0, hM, g5, g4, hi]
      exact hK _ xs v F (by simp [hM, g0]) (by simp [g3]) hs fr hx (d.mono (by omega)) kb hl
  have tail : ∀ (s' : S) (xs : List Rw) v F, s'.σ 0 = .v (.ptr h0.length 0) → s'.σ 3 = .v v → SdF s'.h v xs F → Fresh h.length s'.h F → xs.length ≤ 20 → DC h0 s'.h (N + 1500) → KeepsBut h0.length h s'.h → h.length ≤ s'.h.length →
      (R v s'.h) ∧ (0 < xs.length → ∃ (q : Bool) (h4 : Heap) (a : Int) (h5 : Heap) (h6 : Heap), call p 92 [.ptr h0.length 0, vi 30] s'.h = some (.bool q, h4) ∧ R v h4 ∧ call p 93 [.ptr h0.length 0, .slice h4.length 0 3 (.k 3)] (h4 ++ [⟨.own, [vi 0, vi 999, vi 1000]⟩]) = some (vi a, h5) ∧ wrH h5 (bOf v) (oOf v + (xs.length - 1) * 2) [vi a] = some h6 ∧ R v h6) := by
    intro s' xs v F g0 g3 hs fr hx d kb hl
    have ne : ∀ b ∈ F, b ≠ h0.length := fun b hb => by have := fr.ge b hb; omega
    refine ⟨hR _ _ ⟨xs, F, hs, fr.ge, d.mono (by omega), kb, hl⟩, fun hp => ?_⟩
    obtain ⟨q, h4, e4, d4, k4, l4⟩ := d.one (by omega) 30 (by decide)
    obtain ⟨a, h5, e5, _, d5, k5, l5⟩ := d4.amongL (by omega) [0, 999, 1000] 3 rfl [vi 0, vi 999, vi 1000] rfl (.k 3) (by decide) (by decide)
    have hs4 := hs.keeps (k4.P.mono ne)
    have hs5 := hs4.keeps (k5.P.mono ne)
    have fr5 := (fr.keeps (k4.P.mono ne)).keeps (k5.P.mono ne)
    have hb := hs5.inF (i := xs.length - 1) (by omega)
    obtain ⟨h6, e6, s6, k6, l6⟩ := hs5.putKey fr5.nodup (fr5.own _ hb) (i := xs.length - 1) (by omega) a
    have hge := fr.ge _ hb
    refine ⟨q, h4, a, h5, h6, e4, hR _ _ ⟨xs, F, hs4, fr.ge, d4.mono (by omega), kb.trans k4, by omega⟩, e5, e6, hR _ _ ⟨_, F, s6, fr.ge, (d5.far k6 fun i hi e => by omega).mono (by omega), ((kb.trans k4).trans k5).far k6 fun i hi _ e => by omega, by omega⟩⟩
  have hn7 : n0 ≤ 20 := by omega
  cases b
  · simp [g124, e1, e2]
    refine loop n0 _ _ hn7 (by simp) (by simp) (by simp) (by simp) rfl fun s' xs v F g0 g3 hs fr hx d kb hl => ?_
    obtain ⟨r1, r2⟩ := tail s' xs v F g0 g3 hs fr hx d kb hl
    by_cases hp : 0 < xs.length
    · obtain ⟨q, h4, a, h5, h6, e4, r4, e5, e6, r6⟩ := r2 hp
      have w1 : IntKind.i64.wrap ((xs.length : Int) - 1) = (xs.length - 1 : Nat) := by rw [IntWalk.i64_in] <;> omega
      cases q
      · simp [g0, g3, hs.len, hp, e4]; exact r4
      · simp [g0, g3, hs.len, hp, e4, fillL, e5, w1, hs.idx 2 .i64 (xs.length - 1) (by omega), e6]; exact r6
    · simp [g0, g3, hs.len, hp]; exact r1
  · simp [g124, e1, e2]
    refine loop 20 _ _ (Nat.le_refl _) (by simp) (by simp) (by simp) (by simp) rfl fun s' xs v F g0 g3 hs fr hx d kb hl => ?_
    obtain ⟨r1, r2⟩ := tail s' xs v F g0 g3 hs fr hx d kb hl
    by_cases hp : 0 < xs.length
    · obtain ⟨q, h4, a, h5, h6, e4, r4, e5, e6, r6⟩ := r2 hp
      have w1 : IntKind.i64.wrap ((xs.length : Int) - 1) = (xs.length - 1 : Nat) := by rw [IntWalk.i64_in] <;> omega
      cases q
      · simp [g0, g3, hs.len, hp, e4]; exact r4
      · simp [g0, g3, hs.len, hp, e4, fillL, e5, w1, hs.idx 2 .i64 (xs.length - 1) (by omega), e6]; exact r6
    · simp [g0, g3, hs.len, hp]; exact r1
end GL

namespace GL
open Go

end GL

namespace GL
open Go

end GL

namespace GL
open Go

end GL

namespace GL
open Go

/-- rows cloned: the very block that they lie in -/
theorem clonedRows_spl {h : Heap} {v : V} {xs : List Rw} {F : List Nat} (hs : SdF h v xs F) (hl : xs.length ≤ 2 ^ 20) (hc : ∀ r ∈ xs, r.cols.length ≤ 2 ^ 20) :
    ∃ r h', call p 131 [v] h = some (r, h') ∧ ∃ (b : Nat) (cap : Cap) (cs : List V) (G : List Nat), r = .slice b 0 xs.length cap ∧ capS 2 xs.length cap = true ∧ h'[b]? = some ⟨.own, cs⟩ ∧ Reps h' xs cs G ∧ h.length ≤ b ∧ b ∉ G ∧ Fresh h.length h' G ∧ Keeps h h' ∧ h.length ≤ h'.length := by
  refine go (fn := g131) rfl rfl fun R hR => ?_
  simp [g131, hs.len, fillL]
  refine Wc_upM (M := [3, 5, 9, 10, 11, 12, 13, 14, 15, 16, 17, 18]) rfl xs.length (fun i s => i ≤ xs.length ∧ s.σ 9 = .v (vi i) ∧ (∃ w G, s.σ 3 = .v w ∧ OdF h.length s.h w (xs.take i) G) ∧ (i = 0 → s.σ 3 = .v (.slice h.length 0 0 (.k 0)) ∧ s.h = h ++ [⟨.own, []⟩]) ∧ Keeps h s.h ∧ h.length ≤ s.h.length) 0
    ⟨by omega, by simp, ⟨.slice h.length 0 0 (.k 0), [], by simp, by simpa using OdF.empty (Nat.le_refl _) (by simp)⟩, by simp, Keeps.append h _, by simp⟩ fun i s ⟨gi, g9, ⟨w, G, g3, ho⟩, h00, hk, hlen⟩ hM J hJ => ?_
  by_cases hn : i < xs.length
  · have hs' := hs.keep hk
    obtain ⟨x, F2, e1, hx, _⟩ := hs'.loadR i hn
    obtain ⟨y, h1, e2, G', hw, fr, k1, l1⟩ := clonedRow_ok (r := xs[i]) ⟨x, rfl, hx⟩ (hc _ (by simp))
    obtain ⟨z, rfl, hz⟩ := hw
    obtain ⟨w', h2, e3, o', k2, l2⟩ := ho.one (k := 2) (bytes := 32) k1 l1 fr (x := xs[i]) (cs := [vi xs[i].key, z]) ⟨z, rfl, hz⟩ (by simp; omega) rfl (by decide)
    simp [g131_0, hM, g9, g3, hn, hs'.idx, e1, hs.step hn, e2, hx.cell, hz.cell, fillL, upd, rdS_last, e3]
    exact hJ _ hn ⟨hn, by simp, ⟨w', _, by simp, by rw [List.take_succ_eq_append_getElem hn]; exact o'⟩, by simp, k2 h hk (Nat.le_refl _), by show h.length ≤ h2.length; omega⟩
  · have hie : i = xs.length := by omega
    rw [List.take_of_length_le (by omega)] at ho
    obtain ⟨⟨o1, o2, o3⟩, fg⟩ := ho
    simp [g131_0, hM, g9, g3, hn]
    by_cases h0 : xs.length = 0
    · obtain ⟨q1, q2⟩ := h00 (by omega)
      have hx0 : xs = [] := List.length_eq_zero_iff.1 h0
      subst hx0
      rw [g3] at q1
      injection q1 with q1
      refine hR _ _ ⟨h.length, .k 0, [], [], q1, rfl, by rw [q2]; simp, ⟨rfl, rfl⟩, Nat.le_refl _, by simp, Fresh.nil, hk, hlen⟩
    · rcases o3 with ⟨_, hx, _⟩ | ⟨b, cs, rfl, hb, hlo, hr, hnb⟩ | ⟨b, _, hx, _⟩
      · rw [hx] at h0; simp at h0
      · exact hR _ _ ⟨b, .o 2, cs, G, rfl, by simp [capS], hb, hr, hlo, hnb, fg, hk, hlen⟩
      · rw [hx] at h0; simp at h0

theorem cut_all (cs : List V) : cut cs 0 cs.length = some cs := by simp [cut]
theorem insR_new {xs : List Rw} {r : Rw} (hup : xs.Pairwise upR) {i : Nat} (hi : i ≤ xs.length) (hlo : ∀ t (ht : t < xs.length), t < i → xs[t].key < r.key) (hhi : ∀ t (ht : t < xs.length), i ≤ t → r.key < xs[t].key) : xs.take i ++ [r] ++ xs.drop i = insR xs r := by
  have f1 : (xs.filter fun x => decide (x.key ≠ r.key)) = xs := List.filter_eq_self.2 fun x hx => by
    obtain ⟨t, ht, rfl⟩ := List.getElem_of_mem hx
    by_cases h : t < i
    · have := hlo t ht h; simp; omega
    · have := hhi t ht (by omega); simp; omega
  have := ins_eq (r := r) hup (k := i)
  rw [f1] at this
  refine this (fun x hx => ?_) fun hk => ?_
  · obtain ⟨t, ht, rfl⟩ := List.mem_take_iff_getElem.1 hx
    exact hlo t (by omega) (by omega)
  · have := hhi i hk (Nat.le_refl _); omega
theorem insR_at {xs : List Rw} {r : Rw} (hup : xs.Pairwise upR) {i : Nat} (hi : i < xs.length) (he : xs[i].key = r.key) : setR xs r.key (fun _ => r) = insR xs r := by
  have hs : xs.set i r = setR xs r.key fun _ => r := set_eq_map hup hi he fun _ => r
  have e : xs = xs.take i ++ xs[i] :: xs.drop (i + 1) := by rw [← List.drop_eq_getElem_cons hi, List.take_append_drop]
  have hlo : ∀ x ∈ xs.take i, x.key < r.key := fun x hx => by
    obtain ⟨t, ht, rfl⟩ := List.mem_take_iff_getElem.1 hx
    have := (List.pairwise_iff_getElem.1 hup) t i (by omega) hi (by omega)
    unfold upR at this; omega
  have hhi : ∀ x ∈ xs.drop (i + 1), r.key < x.key := fun x hx => by
    obtain ⟨t, ht, rfl⟩ := List.getElem_of_mem hx
    rw [List.length_drop] at ht
    rw [List.getElem_drop]
    have := (List.pairwise_iff_getElem.1 hup) i (i + 1 + t) hi (by omega) (by omega)
    unfold upR at this; omega
  rw [← hs, List.set_eq_take_append_cons_drop, if_pos hi, insR]
  have t1 : (xs.filter fun x => decide (x.key < r.key)) = xs.take i := by
    conv => lhs; rw [e]
    rw [List.filter_append, List.filter_eq_self.2 (fun x hx => by simpa using hlo x hx), List.filter_cons_of_neg (by simp; omega), List.filter_eq_nil_iff.2 (fun x hx => by have := hhi x hx; simp; omega), List.append_nil]
  have t2 : (xs.filter fun x => decide (r.key < x.key)) = xs.drop (i + 1) := by
    conv => lhs; rw [e]
    rw [List.filter_append, List.filter_eq_nil_iff.2 (fun x hx => by have := hlo x hx; simp; omega), List.filter_cons_of_neg (by simp; omega), List.filter_eq_self.2 (fun x hx => by simpa using hhi x hx), List.nil_append]
  rw [t1, t2]; simp
theorem goodT_ins {xs : List Rw} {r : Rw} (hg : goodT xs = true) (hr : okR r = true) : goodT (insR xs r) = decide ((insR xs r).length ≤ 20) := by
  obtain ⟨g1, g2, g3⟩ := goodT_facts hg
  have h1 : (insR xs r).all okR = true := by
    simp only [List.all_eq_true, insR, List.mem_append, List.mem_filter, List.mem_singleton]
    rintro x ((⟨hx, _⟩ | rfl) | ⟨hx, _⟩)
    · exact g1 x hx
    · exact hr
    · exact g1 x hx
  have h2 : (insR xs r).Pairwise upR := by
    rw [insR, List.append_assoc, List.pairwise_append]
    refine ⟨g2.filter _, ?_, fun a ha b hb => ?_⟩
    · rw [List.singleton_append, List.pairwise_cons]
      exact ⟨fun b hb => by have := (List.mem_filter.1 hb).2; simp only [decide_eq_true_eq] at this; exact this, g2.filter _⟩
    · have a1 := (List.mem_filter.1 ha).2
      simp only [decide_eq_true_eq] at a1
      rw [List.singleton_append, List.mem_cons] at hb
      rcases hb with rfl | hb
      · exact a1
      · have b1 := (List.mem_filter.1 hb).2
        simp only [decide_eq_true_eq] at b1
        show a.key < b.key; omega
  simp only [goodT, h1, decide_eq_true h2, Bool.true_and]

/-- a row is put where its key is not -/
theorem put_new {h : Heap} {v w : V} {xs : List Rw} {F G : List Nat} (hs : SdF h v xs F) (hg : goodT xs = true) {r : Rw} (hr : RwV h w r G) (ho : okR r = true) (hno : keyIn xs r.key = false) :
    ∃ u h', call p 117 [v, w] h = some (u, h') ∧ ∃ z G', u = .tup [z, .bool (goodT (insR xs r))] ∧ SdF h' z (if goodT (insR xs r) = true then insR xs r else []) G' ∧ Fresh h.length h' G' ∧ Keeps h h' ∧ h.length ≤ h'.length := by
  obtain ⟨x, rfl, hx⟩ := hr
  obtain ⟨g1, g2, g3⟩ := goodT_facts hg
  obtain ⟨o1, o2, o3⟩ := okR_facts ho
  have hb : ∀ r ∈ xs, 0 ≤ r.key ∧ r.key ≤ 999 := fun r hr => (okR_facts (g1 r hr)).1
  obtain ⟨_, h1, e1, b, cap, cs, G1, rfl, hcap, hblk, hrep, hlb, hnb, fr1, k1, l1⟩ := clonedRows_spl hs (by omega) fun r hr => by have := (okR_facts (g1 r hr)).2.1; omega
  have hcl := hrep.len
  have hcl : cs.length = xs.length * 2 := hcl
  have q1 : SdF h1 (.slice b 0 xs.length cap) xs (b :: G1) := by
    refine ⟨by omega, .inr ⟨b, 0, cap, rfl, ?_, .inr ⟨_, cs, G1, rfl, hblk, by simp, ?_, hrep⟩⟩⟩
    · cases cap with
      | k c => simp [capS] at hcap; subst hcap; exact Nat.le_refl _
      | o k' => simp [capS] at hcap; subst hcap; rfl
    · show cut cs 0 (xs.length * 2) = some cs
      rw [← hcl]; simp [cut]
  obtain ⟨j, fd, e2, hj, hlo, hhi, hfd⟩ := place_eq q1 hb (key := r.key) o1 g2 (by omega)
  have hkn : ∀ t (ht : t < xs.length), xs[t].key ≠ r.key := fun t ht e => by
    simp only [keyIn, List.any_eq_false, decide_eq_true_eq] at hno
    exact hno _ (List.getElem_mem ht) e
  have hfd' : fd = false := by
    cases fd with
    | false => rfl
    | true => obtain ⟨ht, e⟩ := hfd.1 rfl; exact absurd e (hkn j ht)
  subst hfd'
  have hins := insR_new g2 hj hlo fun t ht hjt => by have a := hhi t ht hjt; have b := hkn t ht; omega
  obtain ⟨_, h2, e3, G2, ⟨y, rfl, hy⟩, fr2, k2, l2⟩ := clonedRow_ok (r := r) ⟨x, rfl, hx.keep k1⟩ (by omega)
  -- the row that is put in lies in a block of its own
  have hb2 : h2[b]? = some ⟨.own, cs⟩ := k2 _ _ hblk (by simp)
  have hblt := get_lt hblk
  have hb3 : (h2 ++ [(⟨.own, [vi r.key, y]⟩ : Blk)])[b]? = some ⟨.own, cs⟩ := by rw [List.getElem?_append_left (by omega)]; exact hb2
  have kn : Keeps h2 (h2 ++ [(⟨.own, [vi r.key, y]⟩ : Blk)]) := Keeps.append _ _
  have ew : (h2 ++ [(⟨.own, [vi r.key, y]⟩ : Blk)])[h2.length]? = some ⟨.own, [vi r.key, y]⟩ := by simp
  have ei : call p 145 [.slice b 0 xs.length cap, vi j, .slice h2.length 0 1 (.k 1)] (h2 ++ [(⟨.own, [vi r.key, y]⟩ : Blk)]) = some (.slice (h2.length + 1) 0 (xs.length + 1) (.o 2), (h2 ++ [(⟨.own, [vi r.key, y]⟩ : Blk)]).set b (⟨.dead, cs⟩ : Blk) ++ [(⟨.own, cs.take (j * 2) ++ [vi r.key, y] ++ cs.drop (j * 2)⟩ : Blk)]) := by
    rw [call_ext (e := insE) rfl]
    show splH 2 1 (.slice b 0 xs.length cap) j j (.slice h2.length 0 1 (.k 1)) _ = _
    have hrd : rdS (h2 ++ [(⟨.own, [vi r.key, y]⟩ : Blk)]) 2 (.slice h2.length 0 1 (.k 1)) 1 = some [vi r.key, y] := rdS_last (by simp)
    simp only [splH, hb3]
    rw [if_pos ⟨⟨trivial, trivial, Nat.le_refl _, hj, by omega, hcl⟩, hcap, rfl, by simp only [blkV]; intro e; injection e with e; omega, by simp [ownV]⟩, hrd]
    simp
  -- what lies there
  obtain ⟨Ga, Gb, hGe, ra, rb⟩ := hrep.cut2 j hj
  have hne : b ≠ h2.length := by omega
  obtain ⟨h4, hh4⟩ : ∃ h4 : Heap, h4 = (h2 ++ [(⟨.own, [vi r.key, y]⟩ : Blk)]).set b (⟨.dead, cs⟩ : Blk) ++ [(⟨.own, cs.take (j * 2) ++ [vi r.key, y] ++ cs.drop (j * 2)⟩ : Blk)] := ⟨_, rfl⟩
  rw [← hh4] at ei
  have kf : KeepsP (fun c => c ≠ b) h2 h4 := fun c blk hc hb' hst => by
    have hlt := get_lt hb'
    rw [hh4]
    rw [List.getElem?_append_left (by simp; omega), List.getElem?_set_ne (Ne.symm hc), List.getElem?_append_left hlt]
    exact hb'
  have hG2 : ∀ c ∈ G2, c ≠ b := fun c hc e => by have := fr2.ge c hc; omega
  have hG1 : ∀ c ∈ G1, c ≠ b := fun c hc e => hnb (e ▸ hc)
  have l4 : h4.length = h2.length + 2 := by simp [hh4]
  have hnew : SdF h4 (.slice (h2.length + 1) 0 (xs.length + 1) (.o 2)) (xs.take j ++ [r] ++ xs.drop j) ((h2.length + 1) :: (Ga ++ G2 ++ Gb)) := by
    have hll : (xs.take j ++ [r] ++ xs.drop j).length = xs.length + 1 := by simp; omega
    have hrn : Reps h4 (xs.take j ++ [r] ++ xs.drop j) (cs.take (j * 2) ++ [vi r.key, y] ++ cs.drop (j * 2)) (Ga ++ G2 ++ Gb) :=
      ((((ra.keeps (k2.p _)).keeps (kf.mono fun c hc => hG1 c (by rw [hGe]; simp [hc])))).append (.one (Data.keeps (α := Rw) ⟨y, rfl, hy⟩ (kf.mono fun c hc => hG2 c hc)))).append ((rb.keeps (k2.p _)).keeps (kf.mono fun c hc => hG1 c (by rw [hGe]; simp [hc])))
    refine ⟨by rw [hll]; omega, .inr ⟨h2.length + 1, 0, .o 2, by rw [hll], rfl, .inr ⟨⟨.own, cs.take (j * 2) ++ [vi r.key, y] ++ cs.drop (j * 2)⟩, _, _, rfl, by simp [hh4], by simp, ?_, hrn⟩⟩⟩
    have hl := hrn.len
    show cut _ 0 (_ * 2) = _
    have hl : (cs.take (j * 2) ++ [vi r.key, y] ++ cs.drop (j * 2)).length = (xs.take j ++ [r] ++ xs.drop j).length * 2 := hl
    rw [← hl]; exact cut_all _
  rw [hins] at hnew
  have fnew : Fresh h.length h4 ((h2.length + 1) :: (Ga ++ G2 ++ Gb)) := by
    have n1 : G1.Nodup := fr1.nodup
    rw [hGe] at n1
    have lt1 : ∀ c ∈ G1, c < h1.length := fun c hc => (fr1.own c hc).lt
    have lt2 : ∀ c ∈ G2, c < h2.length := fun c hc => (fr2.own c hc).lt
    have n2 := List.nodup_append.1 n1
    refine ⟨List.nodup_cons.2 ⟨fun hm => ?_, ?_⟩, fun c hc => ?_, fun c hc => ?_⟩
    · simp only [List.mem_append] at hm
      rcases hm with (hm | hm) | hm
      · have := lt1 (h2.length + 1) (by rw [hGe]; simp [hm]); omega
      · have := lt2 _ hm; omega
      · have := lt1 (h2.length + 1) (by rw [hGe]; simp [hm]); omega
    · rw [List.append_assoc, List.nodup_append]
      refine ⟨n2.1, List.nodup_append.2 ⟨fr2.nodup, n2.2.1, fun a ha b hb e => ?_⟩, fun a ha b hb e => ?_⟩
      · have := fr2.ge a ha; have := lt1 b (by rw [hGe]; simp [hb]); omega
      · rcases List.mem_append.1 hb with hb | hb
        · have := fr2.ge b hb; have := lt1 a (by rw [hGe]; simp [ha]); omega
        · exact n2.2.2 a ha b hb e
    · simp only [List.mem_cons, List.mem_append] at hc
      rcases hc with rfl | (hc | hc) | hc
      · omega
      · exact fr1.ge c (by rw [hGe]; simp [hc])
      · have := fr2.ge c hc; omega
      · exact fr1.ge c (by rw [hGe]; simp [hc])
    · simp only [List.mem_cons, List.mem_append] at hc
      have own1 : ∀ c ∈ G1, OwnB h4 c := fun c hc => ((fr1.own c hc).keeps (k2.p fun _ => True) trivial).keeps kf (hG1 c hc)
      rcases hc with rfl | (hc | hc) | hc
      · exact ⟨_, by simp [hh4]; rfl⟩
      · exact own1 c (by rw [hGe]; simp [hc])
      · exact (fr2.own c hc).keeps kf (hG2 c hc)
      · exact own1 c (by rw [hGe]; simp [hc])
  have kall : Keeps h h4 := Keeps.far (n := h.length) (k1.trans k2) kf (Nat.le_refl _) fun i hi e => by omega
  have hgi := goodT_ins hg ho
  have hil : (insR xs r).length = xs.length + 1 := by rw [← hins]; simp; omega
  refine go (fn := g117) rfl rfl fun R hR => ?_
  have hlen4 := hnew.len
  rw [hil] at hlen4
  rw [hgi, hil] at hR
  by_cases h20 : xs.length + 1 ≤ 20
  · have h20' : ¬ (20 : Int) < (xs.length : Int) + 1 := by omega
    simp [g117, fillL, upd, hx.cells, hx.cell, e1, e2, e3, hy.cell, ei, h20']
    rw [decide_eq_true h20] at hR
    exact hR _ _ ⟨_, _, rfl, by simpa using hnew, fnew, kall, by omega⟩
  · have h20' : (20 : Int) < (xs.length : Int) + 1 := by omega
    simp [g117, fillL, upd, hx.cells, hx.cell, e1, e2, e3, hy.cell, ei, h20']
    rw [decide_eq_false h20] at hR
    exact hR _ _ ⟨.nils, [], rfl, by simpa using SdF.nil, Fresh.nil, kall, by omega⟩

theorem PutRowI_ok {h : Heap} {v w : V} {xs : List Rw} {F G : List Nat} (hs : SdF h v xs F) {r : Rw} (hr : RwV h w r G) :
    ∃ u h', call p 56 [v, w] h = some (u, h') ∧ ∃ z G', u = .tup [z, .bool (goodT xs && okR r && goodT (insR xs r))] ∧ SdF h' z (putT xs r) G' ∧ Fresh h.length h' G' ∧ Keeps h h' ∧ h.length ≤ h'.length := by
  have hr0 := hr
  obtain ⟨x, rfl, hx⟩ := hr
  refine go (fn := g56) rfl rfl fun R hR => ?_
  have e0 := GoodTable_eq hs
  have e1 := isRow_eq hr0
  have bad : (goodT xs && okR r && goodT (insR xs r)) = false → R (.tup [.nils, .bool false]) h := fun hb => hR _ _ ⟨.nils, [], by rw [hb], by simpa [putT, hb] using SdF.nil, Fresh.nil, Keeps.refl _, Nat.le_refl _⟩
  cases hg : goodT xs with
  | false =>
    rw [hg] at e0
    simp [g56, fillL, upd, hx.cells, hx.cell, e0]
    exact bad (by simp [hg])
  | true =>
    rw [hg] at e0
    cases ho : okR r with
    | false =>
      rw [ho] at e1
      simp [g56, fillL, upd, hx.cells, hx.cell, e0, e1]
      exact bad (by simp [ho])
    | true =>
      rw [ho] at e1
      have hfin : ∃ u h', call p 117 [v, .agg [vi r.key, x]] h = some (u, h') ∧ ∃ z G', u = .tup [z, .bool (goodT (insR xs r))] ∧ SdF h' z (if goodT (insR xs r) = true then insR xs r else []) G' ∧ Fresh h.length h' G' ∧ Keeps h h' ∧ h.length ≤ h'.length := by
        cases hk : keyIn xs r.key with
        | false => exact put_new hs hg hr0 ho hk
        | true =>
          simp only [keyIn, List.any_eq_true, decide_eq_true_eq] at hk
          obtain ⟨y, hy, he⟩ := hk
          obtain ⟨i, hi, rfl⟩ := List.getElem_of_mem hy
          obtain ⟨u, h1, e2, z, G1, rfl, c1, f1, k1, l1⟩ := put_found hs hg hr0 (by have := (okR_facts ho).2.1; omega) hi he
          rw [insR_at (goodT_facts hg).2.1 hi he] at c1
          have hll : (insR xs r).length = xs.length := by rw [← insR_at (goodT_facts hg).2.1 hi he]; simp [setR]
          have : goodT (insR xs r) = true := by rw [goodT_ins hg ho, hll]; exact decide_eq_true (goodT_facts hg).2.2
          exact ⟨_, h1, e2, z, G1, by rw [this], by rw [if_pos this]; exact c1, f1, k1, l1⟩
      obtain ⟨u, h1, e2, z, G1, rfl, c1, f1, k1, l1⟩ := hfin
      simp [g56, fillL, upd, hx.cells, hx.cell, e0, e1, e2]
      exact hR _ _ ⟨z, G1, by rw [hg, ho]; rfl, by simpa only [putT, hg, ho, Bool.true_and] using c1, f1, k1, l1⟩
end GL

namespace GL
open Go

end GL

namespace GL
open Go

/-! the row of a key, none: the zero row -/
def fdR (xs : List Rw) (key : Int) : Rw := if (goodT xs && keyIn xs key) = true then (xs.find? fun r => decide (r.key = key)).getD zR else zR
theorem find_at {key : Int} : ∀ {xs : List Rw} {i : Nat} (_ : xs.Pairwise upR) (hi : i < xs.length), xs[i].key = key → xs.find? (fun r => decide (r.key = key)) = some xs[i]
  | x :: xs, 0, _, _, he => by
    rw [List.getElem_cons_zero] at he
    simp [List.find?, he]
  | x :: xs, i + 1, hup, hi, he => by
    rw [List.getElem_cons_succ] at he
    rw [List.pairwise_cons] at hup
    have hi' : i < xs.length := by simpa using hi
    have hlt : x.key < xs[i].key := hup.1 _ (List.getElem_mem hi')
    have hne : ¬ x.key = key := by omega
    rw [List.find?_cons_of_neg (by simpa using hne), List.getElem_cons_succ]
    exact find_at hup.2 hi' he
theorem fdR_at {xs : List Rw} {key : Int} {i : Nat} (hg : goodT xs = true) (hi : i < xs.length) (he : xs[i].key = key) : fdR xs key = xs[i] := by
  have hk : keyIn xs key = true := by simp only [keyIn, List.any_eq_true, decide_eq_true_eq]; exact ⟨_, List.getElem_mem hi, he⟩
  simp only [fdR, hg, hk, Bool.and_self, if_true]
  rw [find_at (goodT_facts hg).2.1 hi he]; rfl
theorem fdR_mem {xs : List Rw} {x : Rw} (hg : goodT xs = true) (hx : x ∈ xs) : keyIn xs x.key = true ∧ fdR xs x.key = x := by
  obtain ⟨i, hi, rfl⟩ := List.getElem_of_mem hx
  exact ⟨by simp only [keyIn, List.any_eq_true, decide_eq_true_eq]; exact ⟨_, List.getElem_mem hi, rfl⟩, fdR_at hg hi rfl⟩

theorem FindRowI_ok {h : Heap} {v : V} {xs : List Rw} {F : List Nat} (hs : SdF h v xs F) (key : Int) :
    ∃ w h', call p 64 [v, vi key] h = some (w, h') ∧ ∃ (x : V) (G : List Nat), w = .tup [.agg [vi (fdR xs key).key, x], .bool (goodT xs && keyIn xs key)] ∧ SdF h' x (fdR xs key).cols G ∧ Keeps h h' ∧ h.length ≤ h'.length := by
  refine go (fn := g64) rfl rfl fun R hR => ?_
  have e0 := GoodTable_eq hs
  have bad : (goodT xs && keyIn xs key) = false → R (.tup [.agg [vi 0, .nils], .bool false]) h := fun hb => by
    have : fdR xs key = zR := by rw [fdR, hb]; rfl
    refine hR _ _ ⟨.nils, [], by rw [hb, this]; rfl, by rw [this]; exact SdF.nil, Keeps.refl _, Nat.le_refl _⟩
  cases hg : goodT xs with
  | false =>
    rw [hg] at e0
    simp [g64, fillL, upd, resV, mkV, e0]
    exact bad (by simp [hg])
  | true =>
    rw [hg] at e0
    obtain ⟨g1, g2, g3⟩ := goodT_facts hg
    have hb : ∀ r ∈ xs, 0 ≤ r.key ∧ r.key ≤ 999 := fun r hr => (okR_facts (g1 r hr)).1
    by_cases hk : 0 ≤ key ∧ key ≤ 999
    · obtain ⟨i, fd, e1, hi, hlo, hhi, hfd⟩ := place_eq hs hb hk g2 (by omega)
      cases fd with
      | false =>
        have hno : keyIn xs key = false := by
          simp only [keyIn, List.any_eq_false, decide_eq_true_eq]
          intro r hr e
          obtain ⟨t, ht, rfl⟩ := List.getElem_of_mem hr
          by_cases hti : t < i
          · have := hlo t ht hti; omega
          · by_cases hti2 : t = i
            · subst hti2
              have := hfd.2 ⟨ht, e⟩; cases this
            · have hil : i < xs.length := by omega
              have h1 := hhi i hil (Nat.le_refl _)
              have h2 := (List.pairwise_iff_getElem.1 g2) i t hil ht (by omega)
              unfold upR at h2; omega
        simp [g64, fillL, upd, resV, mkV, e0, isKey_eq, hk, e1, -Bool.decide_and]
        exact bad (by simp [hno])
      | true =>
        obtain ⟨hil, hke⟩ := hfd.1 rfl
        have hyes : keyIn xs key = true := by
          simp only [keyIn, List.any_eq_true, decide_eq_true_eq]
          exact ⟨xs[i], by simp, hke⟩
        obtain ⟨x, F2, e2, hx, _⟩ := hs.loadR i hil
        obtain ⟨w, h1, e3, G, hw, fr, k1, l1⟩ := clonedRow_ok (r := xs[i]) ⟨x, rfl, hx⟩ (by have := (okR_facts (g1 _ (List.getElem_mem hil))).2.1; omega)
        obtain ⟨y, rfl, hy⟩ := hw
        have hfr := fdR_at hg hil hke
        simp [g64, fillL, upd, resV, mkV, e0, isKey_eq, hk, e1, hs.idx, hil, e2, e3, hy.cells, hy.cell, -Bool.decide_and]
        exact hR _ _ ⟨y, G, by rw [hg, hyes, hfr]; rfl, by rw [hfr]; exact hy, k1, l1⟩
    · have hno : keyIn xs key = false := by
        simp only [keyIn, List.any_eq_false, decide_eq_true_eq]
        intro r hr e
        have := hb r hr; omega
      simp [g64, fillL, upd, resV, mkV, e0, isKey_eq, hk, -Bool.decide_and]
      exact bad (by simp [hno])
theorem FindRowS_ok {h : Heap} {v : V} {xs : List Rw} {F : List Nat} (hs : SdF h v xs F) (key : Int) :
    ∃ w h', call p 67 [v, vi key] h = some (w, h') ∧ ∃ (x : V) (G : List Nat), w = .tup [.agg [vi (fdR xs key).key, x], .bool (goodT xs && keyIn xs key)] ∧ SdF h' x (fdR xs key).cols G ∧ Keeps h h' ∧ h.length ≤ h'.length := by
  refine go (fn := g67) rfl rfl fun R hR => ?_
  have e0 := GoodTableS_eq hs
  obtain ⟨k, e1, hk⟩ := l2Find_idx hs key
  have bad : (goodT xs && keyIn xs key) = false → R (.tup [.agg [vi 0, .nils], .bool false]) h := fun hb => by
    have : fdR xs key = zR := by rw [fdR, hb]; rfl
    refine hR _ _ ⟨.nils, [], by rw [hb, this]; rfl, by rw [this]; exact SdF.nil, Keeps.refl _, Nat.le_refl _⟩
  cases hg : goodT xs with
  | false =>
    rw [hg] at e0
    simp [g67, fillL, upd, resV, mkV, e0, e1]
    exact bad (by simp [hg])
  | true =>
    rw [hg] at e0
    obtain ⟨g1, g2, g3⟩ := goodT_facts hg
    rcases hk with ⟨hk, hno⟩ | ⟨i, hi, rfl, he, hyes⟩
    · simp [g67, fillL, upd, resV, mkV, e0, e1, hk]
      exact bad (by simp [hno])
    · have hk0 : ¬ (i : Int) < 0 := by omega
      obtain ⟨x, F2, e2, hx, _⟩ := hs.loadR i hi
      obtain ⟨_, h1, e3, G, ⟨y, rfl, hy⟩, fr, k1, l1⟩ := l2Copy_ok (r := xs[i]) ⟨x, rfl, hx⟩ (by have := (okR_facts (g1 _ (List.getElem_mem hi))).2.1; omega)
      have hfr := fdR_at hg hi he
      simp [g67, fillL, upd, resV, mkV, e0, e1, hk0, hs.idx, hi, e2, e3, hy.cells, hy.cell]
      exact hR _ _ ⟨y, G, by rw [hg, hyes, hfr]; rfl, by rw [hfr]; exact hy, k1, l1⟩

theorem drawPutRow_ok {h : Heap} {v : V} {bs : List Byte} (hs : Sl h v bs) : ∃ o h', call p 60 [v] h = some (o, h') ∧ ∃ (w x : V) (xs : List Rw) (r : Rw) (G G2 : List Nat), o = .tup [w, .agg [vi r.key, x]] ∧ SdF h' w xs G ∧ SdF h' x r.cols G2 ∧ Keeps h h' ∧ h.length ≤ h'.length := by
  have d0 := DC.start hs
  obtain ⟨w, h1, e1, xs, G, c1, g1, d1, k1, l1⟩ := d0.table (by decide)
  simp at l1 g1
  have ne : ∀ b ∈ G, b ≠ h.length := fun b hb => by have := g1 b hb; omega
  obtain ⟨_, h2, e2, r, G2, ⟨x, rfl, hx⟩, g2, d2, k2, l2⟩ := d1.row (by decide)
  have ne2 : ∀ b ∈ G2, b ≠ h.length := fun b hb => by have := g2 b hb; omega
  obtain ⟨b, h3, e3, d3, k3, l3⟩ := d2.one (by decide) 8 (by decide)
  have cw := (c1.keeps (k2.P.mono ne)).keeps (k3.P.mono ne)
  have cx := hx.keeps (k3.P.mono ne2)
  refine go (fn := g60) rfl rfl fun R hR => ?_
  cases b with
  | true =>
    simp [g60, hs.cells, hs.cell, fillL, upd, e1, e2, e3, hx.cells, hx.cell, resV, mkV]
    exact hR _ _ ⟨w, x, xs, ⟨30, r.cols⟩, G, G2, rfl, cw, cx, d3.keep, by omega⟩
  | false =>
    simp [g60, hs.cells, hs.cell, fillL, upd, e1, e2, e3, hx.cells, hx.cell, resV, mkV]
    exact hR _ _ ⟨w, x, xs, r, G, G2, rfl, cw, cx, d3.keep, by omega⟩
theorem drawFindRow_ok {h : Heap} {v : V} {bs : List Byte} (hs : Sl h v bs) : ∃ o h', call p 129 [v] h = some (o, h') ∧ ∃ (w : V) (xs : List Rw) (k : Int) (G : List Nat), o = .tup [w, vi k] ∧ SdF h' w xs G ∧ Keeps h h' ∧ h.length ≤ h'.length := by
  have d0 := DC.start hs
  obtain ⟨w, h1, e1, xs, G, c1, g1, d1, k1, l1⟩ := d0.table (by decide)
  simp at l1 g1
  have ne : ∀ b ∈ G, b ≠ h.length := fun b hb => by have := g1 b hb; omega
  obtain ⟨a, h2, e2, ha, d2, k2, l2⟩ := d1.pick (by decide) 9 (by decide)
  obtain ⟨b, h3, e3, hb, d3, k3, l3⟩ := d2.pick (by decide) 9 (by decide)
  refine go (fn := g129) rfl rfl fun R hR => ?_
  simp [g129, hs.cells, hs.cell, fillL, upd, e1, e2, e3, resV, mkV]
  exact hR _ _ ⟨w, xs, _, G, rfl, (c1.keeps (k2.P.mono ne)).keeps (k3.P.mono ne), d3.keep, by omega⟩
theorem drawDropRow_ok {h : Heap} {v : V} {bs : List Byte} (hs : Sl h v bs) : ∃ o h', call p 66 [v] h = some (o, h') ∧ ∃ (w : V) (xs : List Rw) (k : Int) (G : List Nat), o = .tup [w, vi k] ∧ SdF h' w xs G ∧ Keeps h h' ∧ h.length ≤ h'.length := by
  obtain ⟨_, h1, e1, w, xs, k, G, rfl, q⟩ := drawFindRow_ok hs
  refine go (fn := g66) rfl rfl fun R hR => ?_
  simp [g66, e1, resV, mkV]
  exact hR _ _ ⟨w, xs, k, G, rfl, q⟩
end GL

namespace GL
open Go

theorem mem_ins {xs : List Rw} {r x : Rw} : x ∈ insR xs r ↔ (x ∈ xs ∧ x.key ≠ r.key) ∨ x = r := by
  simp only [insR, List.mem_append, List.mem_filter, List.mem_singleton, decide_eq_true_eq]
  constructor
  · rintro ((⟨h1, h2⟩ | h) | ⟨h1, h2⟩)
    · exact .inl ⟨h1, by omega⟩
    · exact .inr h
    · exact .inl ⟨h1, by omega⟩
  · rintro (⟨h1, h2⟩ | h)
    · rcases Int.lt_or_lt_of_ne h2 with h | h
      · exact .inl (.inl ⟨h1, h⟩)
      · exact .inr ⟨h1, h⟩
    · exact .inl (.inr h)
/-- the first half, where the row is put -/
theorem rows_loop {vx vp y : V} {H : Heap} {xs : List Rw} {r : Rw} {F G Gy : List Nat} {n : Nat} (hg : goodT (insR xs r) = true) (hs : SdF H vx xs F) (hp : SdF H vp (insR xs r) G) (hy : SdF H y r.cols Gy)
    (s0 : S) (K : Ex → S → Prop) (g7 : s0.σ 7 = .v vp) (g112 : s0.σ 112 = .v vx) (g6 : s0.σ 6 = .lp 6 n 0) (gL : s0.L 6 = (n, [vi r.key, y])) (g113 : s0.σ 113 = .v (vi xs.length)) (g114 : s0.σ 114 = .v (vi 0)) (gh : s0.h = H)
    (hK : ∀ s, Keeps H s.h → H.length ≤ s.h.length → s.σ 1 = s0.σ 1 → K (.exit 0) s) : Wc p (.loop g59_0) s0 K := by
  refine Wc_upM (M := [4, 18, 19, 20, 114, 115, 116, 117, 118, 119, 120, 121, 122, 123, 124, 125, 126, 127, 128, 129, 130, 131, 132, 133, 134, 135, 136, 137, 138, 139, 140]) rfl xs.length (fun i s => s.σ 114 = .v (vi i) ∧ Keeps H s.h ∧ H.length ≤ s.h.length ∧ s.L 6 = (n, [vi r.key, y])) 0
    ⟨g114, by rw [gh]; exact Keeps.refl _, by rw [gh]; exact Nat.le_refl _, gL⟩ fun i s ⟨g114, hk, hl, gL⟩ hM J hJ => ?_
  by_cases hn : i < xs.length
  · have hs' := hs.keep hk
    obtain ⟨x, F2, e1, hx, _⟩ := hs'.loadR i hn
    obtain ⟨_, h2, e2, z, G2, rfl, hz, k2, l2⟩ := FindRowI_ok (hp.keep hk) xs[i].key
    have hx2 := hx.keep k2
    have ix := hs'.idx 2 .i64 i hn
    have st := hs'.step hn
    have hmem : xs[i] ∈ xs := List.getElem_mem hn
    rw [hg, Bool.true_and] at e2
    by_cases hke : xs[i].key = r.key
    · have hin : keyIn (insR xs r) xs[i].key = true := by
        have := (fdR_mem hg (mem_ins.2 (.inr rfl))).1
        rw [hke]; exact this
      rw [hin] at e2
      have hkf : (fdR (insR xs r) xs[i].key).key = r.key := by rw [hke, (fdR_mem hg (mem_ins.2 (.inr rfl))).2]
      rw [hkf] at e2
      rw [hke] at e1 e2
      simp [g59_0, hM, g7, g112, g113, g114, g6, gL, hn, ix, e1, e2, upd, fillL, hx.cell, hx.cells, hz.cell, hz.cells, st]
      exact hJ _ hn ⟨by simp, hk.trans k2, by show H.length ≤ h2.length; omega, by simp [upd, gL]⟩
    · have hmi := mem_ins.2 (.inl ⟨hmem, hke⟩)
      obtain ⟨q1, q2⟩ := fdR_mem hg hmi
      rw [q1, q2] at e2
      rw [q2] at hz
      have e3 := sameRow_same (r := xs[i]) ⟨x, rfl, hx2⟩ ⟨z, rfl, hz⟩
      simp [g59_0, hM, g7, g112, g113, g114, g6, gL, hn, ix, e1, e2, e3, hke, upd, fillL, hx.cell, hx.cells, hz.cell, hz.cells, st]
      exact hJ _ hn ⟨by simp, hk.trans k2, by show H.length ≤ h2.length; omega, by simp [upd, gL]⟩
  · simp [g59_0, hM, g113, g114, hn]
    exact hK _ hk hl (by simp [hM])
/-- the law's second half -/
theorem rows_tail {H : Heap} {vb : V} {bs : List Byte} (hb : Sl H vb bs) : ∃ (u : V) (k : Int) (h1 : Heap) (w1 : V) (ok : Bool) (h2 : Heap) (w2 : V) (h3 : Heap) (n : Int) (x1 : V) (h4 : Heap) (x2 : V) (h5 : Heap),
    call p 66 [vb] H = some (.tup [u, vi k], h1) ∧ call p 44 [u, vi k] h1 = some (.tup [w1, .bool ok], h2) ∧ call p 43 [u, vi k] h2 = some (.tup [w2, .bool ok], h3) ∧ call p 64 [u, vi k] h3 = some (.tup [.agg [vi n, x1], .bool ok], h4) ∧ call p 67 [u, vi k] h4 = some (.tup [.agg [vi n, x2], .bool ok], h5) ∧
    call p 61 [w1, w2] h5 = some (.bool true, h5) ∧ call p 65 [.agg [vi n, x1], .agg [vi n, x2]] h5 = some (.bool true, h5) ∧ (x1.cells = [x1] ∧ x1.cell = true) ∧ (x2.cells = [x2] ∧ x2.cell = true) := by
  obtain ⟨_, h1, e1, u, xs, k, F, rfl, c1, k1, l1⟩ := drawDropRow_ok hb
  obtain ⟨_, h2, e2, w1, G1, rfl, c2, f2, k2, l2⟩ := DropRowI_ok c1 k
  obtain ⟨_, h3, e3, w2, G2, rfl, c3, k3, l3⟩ := DropRowS_ok (c1.keep k2) k
  obtain ⟨_, h4, e4, x1, G3, rfl, c4, k4, l4⟩ := FindRowI_ok (c1.keep (k2.trans k3)) k
  obtain ⟨_, h5, e5, x2, G4, rfl, c5, k5, l5⟩ := FindRowS_ok (c1.keep ((k2.trans k3).trans k4)) k
  have c4' := c4.keep k5
  exact ⟨u, k, h1, w1, _, h2, w2, h3, _, x1, h4, x2, h5, e1, e2, e3, e4, e5, sameTable_same (c2.keep ((k3.trans k4).trans k5)) (c3.keep (k4.trans k5)), sameRow_same (r := fdR xs k) ⟨x1, rfl, c4'⟩ ⟨x2, rfl, c5⟩, ⟨c4.cells, c4.cell⟩, ⟨c5.cells, c5.cell⟩⟩

set_option maxRecDepth 20000 in
theorem FnRows_ok {h : Heap} {va vb : V} {az bs : List Byte} (ha : Sl h va az) (hb : Sl h vb bs) : ∃ r h', call p 59 [va, vb] h = some (r, h') ∧ r = .bool true := by
  refine go (fn := g59) rfl rfl fun R hR => ?_
  by_cases hbig : (1048576 : Int) < IntKind.i64.wrap ((az.length : Int) + bs.length)
  · simp [g59, ha.len, hb.len, hbig]
    exact hR _ _ rfl
  · obtain ⟨_, h1, e1, w, x, xs, r, F, Gx, rfl, c1, cx, k1, l1⟩ := drawPutRow_ok ha
    obtain ⟨_, h2, e2, w1, G1, rfl, c2, f2, k2, l2⟩ := PutRowI_ok c1 (r := r) ⟨x, rfl, cx⟩
    obtain ⟨_, h3, e3, w2, G2, rfl, c3, f3, k3, l3⟩ := PutRowS_ok (c1.keep k2) (r := r) ⟨x, rfl, cx.keep k2⟩
    have e4 := sameTable_same (c2.keep k3) c3
    have c1' := c1.keep (k2.trans k3)
    have e5 := GoodTable_eq c1'
    have e6 := GoodTableS_eq c1'
    have k13 := (k1.trans k2).trans k3
    cases hok : (goodT xs && okR r && goodT (insR xs r)) with
    | false =>
      rw [hok] at e2 e3
      obtain ⟨u, k, g1, s1, ok, g2, s2, g3, n, x1, g4, x2, g5, t1, t2, t3, t4, t5, t6, t7, hx1, hx2⟩ := rows_tail (hb.keeps k13)
      simp [g59, ha.len, hb.len, hbig, fillL, upd, resV, mkV, cx.cells, cx.cell, e1, e2, e3, e4, e5, e6, t1, t2, t3, t4, t5, t6, t7, hx1, hx2]
      exact hR _ _ rfl
    | true =>
      have hp : putT xs r = insR xs r := by rw [putT, if_pos hok]
      rw [hok] at e2 e3
      simp only [Bool.and_eq_true] at hok
      obtain ⟨⟨hg, hr⟩, hgi⟩ := hok
      rw [hp] at c2
      have c2' := c2.keep k3
      have hri : r ∈ insR xs r := mem_ins.2 (.inr rfl)
      obtain ⟨q1, q2⟩ := fdR_mem hgi hri
      obtain ⟨_, h4, e7, x4, G4, rfl, c4, k4, l4⟩ := FindRowI_ok c2' r.key
      rw [hgi, q1, q2] at e7
      rw [q2] at c4
      obtain ⟨_, h5, e8, w5, G5, rfl, c5, f5, k5, l5⟩ := DropRowI_ok (c2'.keep k4) r.key
      rw [hgi, q1] at e8
      obtain ⟨_, h6, e9, x6, G6, rfl, c6, k6, l6⟩ := FindRowI_ok c5 r.key
      have hno : keyIn (dropT (insR xs r) r.key) r.key = false := by
        simp only [keyIn, List.any_eq_false, decide_eq_true_eq]
        intro y hy
        unfold dropT at hy
        split at hy
        · simpa using (List.mem_filter.1 hy).2
        · cases hy
      rw [hno, Bool.and_false] at e9
      have k46 := (k4.trans k5).trans k6
      have e10 := GoodTable_eq (c2'.keep k46)
      rw [hgi] at e10
      have cx' := cx.keep (k2.trans (k3.trans k46))
      have e11 := sameRow_same (r := r) ⟨x4, rfl, c4.keep (k5.trans k6)⟩ ⟨x, rfl, cx'⟩
      have lxs := c1.len
      simp [g59, ha.len, hb.len, hbig, fillL, upd, resV, mkV, cx.cells, cx.cell, e1, e2, e3, e4, e5, e6, e7, e8, e9, e10, e11, c4.cells, c4.cell, c6.cells, c6.cell, lxs]
      refine rows_loop (n := 1) hgi (c1'.keep k46) (c2'.keep k46) cx' _ _ (by simp) (by simp) (by simp) (by simp [upd]) (by simp) (by simp) rfl fun s hk hl g1' => ?_
      obtain ⟨u, k, g1, s1, ok, g2, s2, g3, n, x1, g4, x2, g5, t1, t2, t3, t4, t5, t6, t7, hx1, hx2⟩ := rows_tail (hb.keeps ((k13.trans k46).trans hk))
      simp at g1'
      simp [g1', fillL, upd, resV, mkV, t1, t2, t3, t4, t5, t6, t7, hx1, hx2]
      exact hR _ _ rfl
end GL

