import Derived.IntWalk
import Derived.Test.YticjekppekdpnaaGp
/- What the functions of the law do, on the machine. -/
/-! truths -/
namespace GL
open Go

@[simp] theorem within_eq (n lo hi : Int) (h : Heap) : call p 107 [vi n, vi lo, vi hi] h = some (.bool (decide (lo ≤ n ∧ n ≤ hi)), h) := by
  apply W_eq
  refine call_W (fn := g107) rfl rfl ?_
  by_cases h1 : lo ≤ n <;> simp [g107, h1]

@[simp] theorem l1In_eq (n lo hi : Int) (h : Heap) : call p 98 [vi n, vi lo, vi hi] h = some (.bool (decide (lo ≤ n ∧ n ≤ hi)), h) := by
  apply W_eq
  refine call_W (fn := g98) rfl rfl ?_
  by_cases h1 : lo ≤ n <;> simp [g98, h1]

@[simp] theorem isTruth_eq (n : Int) (h : Heap) : call p 87 [vi n] h = some (.bool (decide (0 ≤ n ∧ n ≤ 2)), h) := by
  apply W_eq
  refine call_W (fn := g87) rfl rfl ?_
  simp [g87]

@[simp] theorem l1Truth_eq (n : Int) (h : Heap) : call p 88 [vi n] h = some (.bool (decide (0 ≤ n ∧ n ≤ 2)), h) := by
  apply W_eq
  refine call_W (fn := g88) rfl rfl ?_
  simp [g88]

def isT (n : Int) : Prop := 0 ≤ n ∧ n ≤ 2
instance (n : Int) : Decidable (isT n) := inferInstanceAs (Decidable (_ ∧ _))

@[simp] theorem l1Least_eq (a b : Int) (h : Heap) : call p 89 [vi a, vi b] h = some (vi (min a b), h) := by
  apply W_eq
  refine call_W (fn := g89) rfl rfl ?_
  simp [g89]
  split <;> omega

@[simp] theorem l1Most_eq (a b : Int) (h : Heap) : call p 90 [vi a, vi b] h = some (vi (max a b), h) := by
  apply W_eq
  refine call_W (fn := g90) rfl rfl ?_
  simp [g90]
  split <;> omega

def andR (a b : Int) : V := if isT a ∧ isT b then .tup [vi (min a b), .bool true] else .tup [vi 0, .bool false]
def orR (a b : Int) : V := if isT a ∧ isT b then .tup [vi (max a b), .bool true] else .tup [vi 0, .bool false]
def notR (a : Int) : V := if isT a then .tup [vi (2 - a), .bool true] else .tup [vi 0, .bool false]

theorem AndOf_eq (a b : Int) (h : Heap) : call p 4 [vi a, vi b] h = some (andR a b, h) := by
  apply W_eq
  refine call_W (fn := g4) rfl rfl ?_
  unfold andR isT
  by_cases h1 : 0 ≤ a ∧ a ≤ 2 <;> by_cases h2 : 0 ≤ b ∧ b ≤ 2 <;> simp [g4, h1, h2, -Bool.decide_and]
  omega

theorem AndOfS_eq (a b : Int) (h : Heap) : call p 5 [vi a, vi b] h = some (andR a b, h) := by
  apply W_eq
  refine call_W (fn := g5) rfl rfl ?_
  unfold andR isT
  by_cases h1 : 0 ≤ a ∧ a ≤ 2 <;> by_cases h2 : 0 ≤ b ∧ b ≤ 2 <;> simp [g5, h1, h2, -Bool.decide_and]

theorem OrOf_eq (a b : Int) (h : Heap) : call p 6 [vi a, vi b] h = some (orR a b, h) := by
  apply W_eq
  refine call_W (fn := g6) rfl rfl ?_
  unfold orR isT
  by_cases h1 : 0 ≤ a ∧ a ≤ 2 <;> by_cases h2 : 0 ≤ b ∧ b ≤ 2 <;> simp [g6, h1, h2, -Bool.decide_and]
  omega

theorem OrOfS_eq (a b : Int) (h : Heap) : call p 7 [vi a, vi b] h = some (orR a b, h) := by
  apply W_eq
  refine call_W (fn := g7) rfl rfl ?_
  unfold orR isT
  by_cases h1 : 0 ≤ a ∧ a ≤ 2 <;> by_cases h2 : 0 ≤ b ∧ b ≤ 2 <;> simp [g7, h1, h2, -Bool.decide_and]

theorem NotOf_eq (a : Int) (h : Heap) : call p 8 [vi a] h = some (notR a, h) := by
  apply W_eq
  refine call_W (fn := g8) rfl rfl ?_
  unfold notR isT
  by_cases h1 : 0 ≤ a ∧ a ≤ 2 <;> simp [g8, h1, -Bool.decide_and]
  rw [IntWalk.i64_in] <;> omega

theorem NotOfS_eq (a : Int) (h : Heap) : call p 11 [vi a] h = some (notR a, h) := by
  apply W_eq
  refine call_W (fn := g11) rfl rfl ?_
  unfold notR isT
  by_cases h1 : 0 ≤ a ∧ a ≤ 2 <;> simp [g11, h1, -Bool.decide_and]
  rw [IntWalk.i64_in] <;> omega
end GL
/-! the cursor of the draws -/
namespace GL
open Go

/-- a cursor at block c: what it holds, and how far it has come at most -/
def Cur (h : Heap) (c N : Nat) : Prop := ∃ (v : V) (bs : List Byte) (n : Nat) (sd : Int), h[c]? = some ⟨.own, [v, vi n, .int .u64 sd]⟩ ∧ Sl h v bs ∧ (bs = [] ∨ bOf v < c) ∧ n ≤ N

theorem Cur.mono {h : Heap} {c N M : Nat} (hc : Cur h c N) (hn : N ≤ M) : Cur h c M := by
  obtain ⟨v, bs, n, sd, h1, h2, h3, h4⟩ := hc
  exact ⟨v, bs, n, sd, h1, h2, h3, by omega⟩

theorem Cur.keeps {h h' : Heap} {c N : Nat} (hc : Cur h c N) (hk : Keeps h h') : Cur h' c N := by
  obtain ⟨v, bs, n, sd, h1, h2, h3, h4⟩ := hc
  exact ⟨v, bs, n, sd, hk _ _ h1 (by simp), h2.keeps hk, h3, h4⟩

theorem Cur.lt {h : Heap} {c N : Nat} (hc : Cur h c N) : c < h.length := by
  obtain ⟨_, _, _, _, h1, _⟩ := hc; exact get_lt h1

theorem Cur.keepsP {h h' : Heap} {c N : Nat} {P : Nat → Prop} (hc : Cur h c N) (hk : KeepsP P h h') (hp : ∀ i, i ≤ c → P i) : Cur h' c N := by
  obtain ⟨v, bs, n, sd, h1, h2, h3, h4⟩ := hc
  refine ⟨v, bs, n, sd, hk _ _ (hp _ (Nat.le_refl _)) h1 (by simp), ?_, h3, h4⟩
  refine ⟨h2.1, ?_⟩
  rcases h2.2 with hs | ⟨b, off, cap, hv, hs⟩
  · exact .inl hs
  · refine .inr ⟨b, off, cap, hv, ?_⟩
    rcases hs with hs | ⟨blk, h6, h7, h8⟩
    · exact .inl hs
    · subst hv
      rcases h3 with h5 | h5
      · exact .inl h5
      · exact .inr ⟨blk, hk _ _ (hp _ (Nat.le_of_lt h5)) h6 h7, h7, h8⟩

theorem Cur.set {h : Heap} {c N n : Nat} {v : V} {bs : List Byte} {nb : Blk} {sd sd' : Int} (h1 : h[c]? = some ⟨.own, [v, vi n, .int .u64 sd]⟩) (h2 : Sl h v bs) (h3 : bs = [] ∨ bOf v < c) (hn : n ≤ N)
    (hb : nb = ⟨.own, [v, vi (n + 1 : Nat), .int .u64 sd']⟩) : Cur (h.set c nb) c (N + 1) := by
  subst hb
  exact ⟨v, bs, n + 1, sd', by simp [get_lt h1], h2.but (h3.imp_right Nat.ne_of_lt) (KeepsBut.set _ _ _), h3, by omega⟩

theorem wrap_i64_nat (n : Nat) (h : n < 2 ^ 63) : IntKind.i64.wrap (n : Int) = n := IntWalk.i64_in _ (by omega)

theorem mod_byte (k : Nat) : ∃ x : Nat, x ≤ 255 ∧ IntKind.i64.wrap (IntKind.u64.wrap ((k &&& 255 % 2 ^ IntKind.u64.bits : Nat) : Int)) = x := by
  have h1 : 255 % 2 ^ IntKind.u64.bits = 2 ^ 8 - 1 := by decide
  refine ⟨k % 256, by omega, ?_⟩
  rw [h1, Nat.and_two_pow_sub_one_eq_mod, IntWalk.u64_in _ (by omega), IntWalk.i64_in _ (by omega)]

theorem next_ok {h : Heap} {c N : Nat} (hc : Cur h c N) (hN : N < 2 ^ 62) : ∃ v h', call p 140 [.ptr c 0] h = some (v, h') ∧ ∃ x : Nat, v = vi x ∧ x ≤ 255 ∧ Cur h' c (N + 1) ∧ KeepsBut c h h' ∧ h'.length = h.length := by
  obtain ⟨v, bs, n, sd, h1, h2, h3, h4⟩ := hc
  refine go (fn := g140) rfl rfl fun R hR => ?_
  have hlt := get_lt h1
  have hw : IntKind.i64.wrap ((n : Int) + 1) = (n + 1 : Nat) := by rw [IntWalk.i64_in] <;> omega
  by_cases hn : n < bs.length
  · have hb0 := bs[n].lt
    have hw2 : IntKind.i64.wrap (bs[n].n : Int) = bs[n].n := IntWalk.i64_in _ (by omega)
    have hle : ((n : Int) + 1) ≤ bs.length := by omega
    simp [g140, rdH_at h1, wrH_at h1, rdH_set hlt, wrH_set hlt, h2.len, h2.idx, hn, h2.loadB, hw, hw2, hle]
    exact hR _ _ ⟨bs[n].n, rfl, by omega, Cur.set h1 h2 h3 h4 rfl, KeepsBut.set _ _ _, by simp⟩
  · have hle : ¬ ((n : Int) + 1) ≤ bs.length := by omega
    simp [g140, rdH_at h1, wrH_at h1, rdH_set hlt, wrH_set hlt, h2.len, hn, hw, hle, -Int.natCast_emod]
    obtain ⟨x, hx1, hx2⟩ := mod_byte (((IntKind.u64.wrap (IntKind.u64.wrap (IntKind.u64.wrap (sd * 6364136223846793005) + IntKind.u64.wrap 0) + 1442695040888963407)).fdiv (2 ^ min 40 IntKind.u64.bits) % 2 ^ IntKind.u64.bits).toNat)
    exact hR _ _ ⟨x, by rw [hx2], hx1, Cur.set h1 h2 h3 h4 rfl, KeepsBut.set _ _ _, by simp⟩

theorem pick_ok {h : Heap} {c N n : Nat} (hc : Cur h c N) (hN : N < 2 ^ 61) (hn : n < 2 ^ 40) :
    ∃ v h', call p 91 [.ptr c 0, vi n] h = some (v, h') ∧ ∃ x : Nat, v = vi x ∧ x < max n 1 ∧ Cur h' c (N + 2) ∧ KeepsBut c h h' ∧ h'.length = h.length := by
  refine go (fn := g91) rfl rfl fun R hR => ?_
  by_cases h1 : n ≤ 1
  · have h1' : (n : Int) ≤ 1 := by omega
    simp [g91, h1']
    exact hR _ _ ⟨0, rfl, by omega, hc.mono (by omega), KeepsBut.refl _ _, rfl⟩
  · have h1' : ¬ (n : Int) ≤ 1 := by omega
    obtain ⟨_, h2, e1, x, rfl, hx, c1, k1, l1⟩ := next_ok hc (by omega)
    have h0 : ¬ n = 0 := by omega
    by_cases h2 : 200 < n
    · have h2' : (200 : Int) < n := by omega
      obtain ⟨_, h3, e2, y, rfl, hy, c2, k2, l2⟩ := next_ok c1 (by omega)
      have w1 : IntKind.i64.wrap ((x : Int) * 256) = (x * 256 : Nat) := by rw [IntWalk.i64_in] <;> omega
      have w2 : IntKind.i64.wrap (((x * 256 : Nat) : Int) + y) = (x * 256 + y : Nat) := by rw [IntWalk.i64_in] <;> omega
      have w3 : (((x * 256 + y : Nat) : Int)).tmod n = ((x * 256 + y) % n : Nat) := by rw [Int.tmod_eq_emod_of_nonneg (by omega)]; rfl
      simp [g91, h1', e1, h2', e2, w1, w2, h0, w3, -Int.natCast_mul, -Int.natCast_add, -Int.natCast_emod]
      exact hR _ _ ⟨(x * 256 + y) % n, rfl, by have := Nat.mod_lt (x * 256 + y) (show n > 0 by omega); omega, c2, k1.trans k2, by omega⟩
    · have h2' : ¬ (200 : Int) < n := by omega
      have w3 : ((x : Int)).tmod n = (x % n : Nat) := by rw [Int.tmod_eq_emod_of_nonneg (by omega)]; rfl
      simp [g91, h1', e1, h2', h0, w3, -Int.natCast_emod]
      exact hR _ _ ⟨x % n, rfl, by have := Nat.mod_lt x (show n > 0 by omega); omega, c1.mono (by omega), k1, by omega⟩

theorem one_ok {h : Heap} {c N n : Nat} (hc : Cur h c N) (hN : N < 2 ^ 61) (hn : n < 2 ^ 40) :
    ∃ v h', call p 92 [.ptr c 0, vi n] h = some (v, h') ∧ ∃ b : Bool, v = .bool b ∧ Cur h' c (N + 2) ∧ KeepsBut c h h' ∧ h'.length = h.length := by
  obtain ⟨_, h2, e1, x, rfl, hx, c1, k1, l1⟩ := pick_ok hc hN hn
  refine go (fn := g92) rfl rfl fun R hR => ?_
  simp [g92, e1]
  exact hR _ _ ⟨_, rfl, c1, k1, l1⟩

theorem among_ok {h : Heap} {c N : Nat} {v : V} {xs : List Int} (hc : Cur h c N) (hN : N < 2 ^ 61) (hs : Sl h v xs) (hb : bOf v ≠ c) (h0 : 0 < xs.length) (hn : xs.length < 2 ^ 40) :
    ∃ r h', call p 93 [.ptr c 0, v] h = some (r, h') ∧ ∃ x ∈ xs, r = vi x ∧ Cur h' c (N + 2) ∧ KeepsBut c h h' ∧ h'.length = h.length := by
  obtain ⟨_, h2, e1, i, rfl, hi, c1, k1, l1⟩ := pick_ok hc hN hn
  have hs2 := hs.but (.inr hb) k1
  have hi' : i < xs.length := by omega
  refine go (fn := g93) rfl rfl fun R hR => ?_
  simp [g93, hs.len, e1, hs2.idx, hi', hs2.loadI]
  exact hR _ _ ⟨xs[i], by simp, rfl, c1, k1, l1⟩
end GL
namespace GL
open Go

theorem truth_ok {h : Heap} {c N : Nat} (hc : Cur h c N) (hN : N < 2 ^ 61) :
    ∃ r h', call p 86 [.ptr c 0] h = some (r, h') ∧ ∃ x : Int, r = vi x ∧ Cur h' c (N + 2) ∧ KeepsBut c h h' ∧ h.length ≤ h'.length := by
  have hlt : c < h.length := by obtain ⟨_, _, _, _, h1, _⟩ := hc; exact get_lt h1
  let l : List Int := [0, 0, 1, 1, 2, 2, -1, 3]
  let h1 : Heap := h ++ [⟨.own, flats l⟩]
  have hs : Sl h1 (.slice h.length 0 l.length (.k 8)) l := Sl.whole _ (get_last _ _) (by simp) rfl (by decide)
  obtain ⟨_, h2, e1, x, hx, rfl, c1, k1, l1⟩ := among_ok (hc.keeps (Keeps.append h _)) hN hs (by simp [bOf]; omega) (by decide) (by decide)
  refine go (fn := g86) rfl rfl fun R hR => ?_
  simp [h1, l, flats, Flat.cells] at e1
  simp [g86, e1]
  exact hR _ _ ⟨x, rfl, c1, ((Keeps.append h _).but c).trans k1, by simp [h1] at l1; omega⟩

theorem drawTwo {h : Heap} {v : V} {bs : List Byte} (hs : Sl h v bs) : Cur (h ++ [⟨.own, [v, vi 0, .int .u64 0]⟩]) h.length 0 := by
  refine ⟨v, bs, 0, 0, by simp, hs.keeps (Keeps.append h _), ?_, Nat.le_refl _⟩
  rcases hs.2 with ⟨_, h1⟩ | ⟨b, off, cap, rfl, h1 | ⟨blk, h1, _⟩⟩
  · exact .inl h1
  · exact .inl h1
  · exact .inr (get_lt h1)

theorem DrawAndOf_ok {h : Heap} {v : V} {bs : List Byte} (hs : Sl h v bs) : ∃ r h', call p 3 [v] h = some (r, h') ∧ ∃ x y : Int, r = .tup [vi x, vi y] ∧ Keeps h h' := by
  obtain ⟨_, h1, e1, x, rfl, c1, k1, l1⟩ := truth_ok (drawTwo hs) (by decide)
  obtain ⟨_, h2, e2, y, rfl, c2, k2, l2⟩ := truth_ok c1 (by decide)
  refine go (fn := g3) rfl rfl fun R hR => ?_
  simp [g3, fillL, e1, e2, hs.cells, hs.cell]
  exact hR _ _ ⟨x, y, rfl, KeepsBut.keeps (Keeps.append h _) (Nat.le_refl _) (k1.trans k2)⟩

theorem DrawNotOf_ok {h : Heap} {v : V} {bs : List Byte} (hs : Sl h v bs) : ∃ r h', call p 10 [v] h = some (r, h') ∧ ∃ x : Int, r = vi x ∧ Keeps h h' := by
  obtain ⟨_, h1, e1, x, rfl, c1, k1, l1⟩ := truth_ok (drawTwo hs) (by decide)
  refine go (fn := g10) rfl rfl fun R hR => ?_
  simp [g10, fillL, e1, hs.cells, hs.cell]
  exact hR _ _ ⟨x, rfl, KeepsBut.keeps (Keeps.append h _) (Nat.le_refl _) k1⟩

theorem l1All_eq {h : Heap} {v : V} {xs : List Int} (hs : Sl h v xs) (lo hi : Int) : call p 94 [v, vi lo, vi hi] h = some (.bool (xs.all fun n => decide (lo ≤ n ∧ n ≤ hi)), h) := by
  refine go_eq (fn := g94) rfl rfl fun R hR => ?_
  simp [g94, hs.len]
  refine Wc_up xs.length (fun i s => s.σ 9 = .v v ∧ s.σ 10 = .v (vi xs.length) ∧ s.σ 11 = .v (vi i) ∧ s.σ 1 = .v (vi lo) ∧ s.σ 2 = .v (vi hi) ∧ s.h = h ∧ ∀ x ∈ xs.take i, lo ≤ x ∧ x ≤ hi) 0 (by simp) fun i s ⟨h9, h10, h11, h1, h2, hh, hall⟩ => ?_
  by_cases hn : i < xs.length
  · by_cases hx : lo ≤ xs[i] ∧ xs[i] ≤ hi
    · have h3 : ∀ x ∈ xs.take (i + 1), lo ≤ x ∧ x ≤ hi := by
        rw [List.take_succ_eq_append_getElem hn]; intro x hx'
        rcases List.mem_append.1 hx' with h | h
        · exact hall x h
        · simp at h; subst h; exact hx
      simp [g94_0, h9, h10, h11, h1, h2, hh, hn, hs.idx, hs.loadI, hx, hs.step hn]
      exact h3
    · have h3 : (xs.all fun n => decide (lo ≤ n ∧ n ≤ hi)) = false := by
        rw [List.all_eq_false]; exact ⟨xs[i], by simp, by simpa using hx⟩
      rw [h3] at hR
      simp [g94_0, h9, h10, h11, h1, h2, hh, hn, hs.idx, hs.loadI, hx, -Bool.decide_and]
      exact hR
  · have h3 : (xs.all fun n => decide (lo ≤ n ∧ n ≤ hi)) = true := by
      rw [List.all_eq_true]; intro x hx; rw [List.take_of_length_le (by omega)] at hall; simpa using hall x hx
    rw [h3] at hR
    simp [g94_0, h10, h11, hh, hn]
    exact hR
end GL
namespace GL
open Go

def allR (xs : List Int) : V := if xs.length ≤ 20 ∧ (xs.all fun n => decide (0 ≤ n ∧ n ≤ 2)) = true then .tup [vi (xs.foldl min 2), .bool true] else .tup [vi 0, .bool false]

theorem foldl_take {xs : List Int} {i : Nat} (h : i < xs.length) (a : Int) : (xs.take (i + 1)).foldl min a = min ((xs.take i).foldl min a) xs[i] := by
  rw [List.take_succ_eq_append_getElem h, List.foldl_append]; rfl

theorem AllOfS_eq {h : Heap} {v : V} {xs : List Int} (hs : Sl h v xs) : call p 13 [v] h = some (allR xs, h) := by
  refine go_eq (fn := g13) rfl rfl fun R hR => ?_
  unfold allR at hR
  by_cases h1 : xs.length ≤ 20
  · have h1' : ¬ (20 : Int) < xs.length := by omega
    cases h2 : xs.all fun n => decide (0 ≤ n ∧ n ≤ 2) with
    | false =>
      simp [g13, hs.len, h1', l1All_eq hs, h2, -Bool.decide_and]
      rw [h2] at hR; simpa [h1] using hR
    | true =>
      simp [g13, hs.len, h1', l1All_eq hs, h2, -Bool.decide_and]
      refine Wc_up xs.length (fun i s => s.σ 15 = .v v ∧ s.σ 16 = .v (vi xs.length) ∧ s.σ 17 = .v (vi i) ∧ s.σ 4 = .v (vi ((xs.take i).foldl min 2)) ∧ s.h = h) 0 (by simp) fun i s ⟨h15, h16, h17, h4, hh⟩ => ?_
      by_cases hn : i < xs.length
      · simp [g13_0, h15, h16, h17, h4, hh, hn, hs.idx, hs.loadI, hs.step hn, foldl_take hn]
      · rw [List.take_of_length_le (by omega)] at h4
        simp [g13_0, h16, h17, h4, hh, hn]
        rw [h2] at hR; simpa [h1] using hR
  · have h1' : (20 : Int) < xs.length := by omega
    simp [g13, hs.len, h1']
    simpa [h1] using hR

theorem AllOf_eq {h : Heap} {v : V} {xs : List Int} (hs : Sl h v xs) : call p 9 [v] h = some (allR xs, h) := by
  refine go_eq (fn := g9) rfl rfl fun R hR => ?_
  unfold allR at hR
  by_cases h1 : xs.length ≤ 20
  · have h1' : ¬ (20 : Int) < xs.length := by omega
    simp [g9, hs.len, h1']
    refine Wc_up xs.length (fun i s => s.σ 10 = .v v ∧ s.σ 11 = .v (vi xs.length) ∧ s.σ 12 = .v (vi i) ∧ s.σ 4 = .v (vi ((xs.take i).foldl min 2)) ∧ s.h = h ∧ ∀ x ∈ xs.take i, 0 ≤ x ∧ x ≤ 2) 0 (by simp) fun i s ⟨h10, h11, h12, h4, hh, hall⟩ => ?_
    by_cases hn : i < xs.length
    · by_cases hx : 0 ≤ xs[i] ∧ xs[i] ≤ 2
      · have h3 : ∀ x ∈ xs.take (i + 1), 0 ≤ x ∧ x ≤ 2 := by
          rw [List.take_succ_eq_append_getElem hn]; intro x hx'
          rcases List.mem_append.1 hx' with h | h
          · exact hall x h
          · simp at h; subst h; exact hx
        simp [g9_0, h10, h11, h12, h4, hh, hn, hs.idx, hs.loadI, hx, hs.step hn, foldl_take hn]
        refine ⟨?_, h3⟩
        split <;> omega
      · have h3 : (xs.all fun n => decide (0 ≤ n ∧ n ≤ 2)) = false := by
          rw [List.all_eq_false]; exact ⟨xs[i], by simp, by simpa using hx⟩
        simp [g9_0, h10, h11, h12, h4, hh, hn, hs.idx, hs.loadI, hx, -Bool.decide_and]
        rw [h3] at hR; simpa using hR
    · have h3 : (xs.all fun n => decide (0 ≤ n ∧ n ≤ 2)) = true := by
        rw [List.all_eq_true]; intro x hx; rw [List.take_of_length_le (by omega)] at hall; simpa using hall x hx
      rw [List.take_of_length_le (by omega)] at h4
      simp [g9_0, h11, h12, h4, hh, hn]
      rw [h3] at hR; simpa [h1] using hR
  · have h1' : (20 : Int) < xs.length := by omega
    simp [g9, hs.len, h1']
    simpa [h1] using hR
end GL
namespace GL
open Go

theorem KeepsBut.out {c lo : Nat} {h h' : Heap} {α : Type} [Flat α] {v : V} {xs : List α} (hk : KeepsBut c h h') (ho : Out lo h v xs) (hc : c < lo) (hl : h.length ≤ h'.length) : Out lo h' v xs :=
  ho.keeps (P := fun i => i ≠ c) (fun b blk hb h1 h2 => hk b blk hb h1 h2) (fun i hi => by have := (ho.ge hi).1; omega) hl

theorem Keeps.out {lo : Nat} {h h' : Heap} {α : Type} [Flat α] {v : V} {xs : List α} (hk : Keeps h h') (ho : Out lo h v xs) (hl : h.length ≤ h'.length) : Out lo h' v xs :=
  ho.keeps (P := fun _ => True) (fun b blk _ h1 h2 => hk b blk h1 h2) (fun _ _ => trivial) hl

/-- nothing that stood at first is touched -/
theorem Keeps.far {n : Nat} {h0 h h' : Heap} {P : Nat → Prop} (h1 : Keeps h0 h) (hk : KeepsP P h h') (hn : h0.length ≤ n) (hp : ∀ i, i < n → P i) : Keeps h0 h' := fun i blk hi hl =>
  hk i blk (hp i (by have := get_lt hi; omega)) (h1 i blk hi hl) hl
theorem KeepsBut.P {c : Nat} {h h' : Heap} (hk : KeepsBut c h h') : KeepsP (fun i => i ≠ c) h h' := fun b blk hb h1 h2 => hk b blk hb h1 h2

theorem Sl.lit {h : Heap} {α : Type} [Flat α] (l : List α) (n : Nat) (hn : n = l.length) (cs : List V) (hc : cs = flats l) (cap : Cap) (hb : l.length < 2 ^ 63) : Sl (h ++ [⟨.own, cs⟩]) (.slice h.length 0 n cap) l := by
  subst hn; subst hc
  exact Sl.whole _ (get_last _ _) (by simp) rfl hb

def DI (h0 : Heap) (k : Nat) (s : S) : Prop :=
  k ≤ 30 ∧ s.σ 5 = .v (vi k) ∧ s.σ 3 = .v (.ptr h0.length 0) ∧ ∃ v xs, s.σ 4 = .v v ∧ Out (h0.length + 1) s.h v (xs : List Int) ∧ xs.length ≤ 30 - k ∧ Cur s.h h0.length (1000 - 2 * k) ∧ Keeps h0 s.h

theorem g12_loop {h0 : Heap} {k : Nat} {s : S} {K : Ex → S → Prop} (hI : DI h0 k s) (hK : ∀ s', DI h0 0 s' → K (.exit 0) s') : Wc p (.loop g12_0) s K := by
  refine Wc_dnJ (DI h0) k hI fun k s ⟨hk, h5, h3, v, xs, h4, ho, hx, hc, hkp⟩ J hJ => ?_
  by_cases h0k : 0 < k
  · have hlt := hc.lt
    obtain ⟨_, h2, e2, x, hx2, rfl, c2, k2, l2⟩ := among_ok (v := .slice s.h.length 0 5 (.k 5)) (hc.keeps (Keeps.append s.h _)) (by omega) (Sl.lit [0, 1, 2, 2, 2] 5 rfl [vi 0, vi 1, vi 2, vi 2, vi 2] rfl _ (by decide)) (by simp [bOf]; omega) (by decide) (by decide)
    have hl2 : s.h.length + 1 = h2.length := by simp at l2; omega
    have o2 : Out (h0.length + 1) h2 v xs := k2.out ((Keeps.append s.h _).out ho (by simp)) (by omega) (by simp; omega)
    have o3 : Out (h0.length + 1) (h2 ++ [⟨.own, [vi x]⟩]) v xs := (Keeps.append h2 _).out o2 (by simp)
    obtain ⟨v', h4', e4, o4, k4, l4, b4⟩ := o3.app [x] (by simp) (bytes := 8) (by decide) (by simp; omega) (k := 1) rfl (n := 1) rfl (ys := [vi x]) rfl
    have w : IntKind.i64.wrap ((k : Int) - 1) = (k - 1 : Nat) := by rw [IntWalk.i64_in] <;> omega
    simp [g12_0, h5, h3, h4, h0k, e2, rdS_last, e4, w]
    refine hJ (k - 1) _ (by omega) ⟨by omega, by simp, by simp [h3], v', xs ++ [x], by simp, o4, by simp; omega, ?_, ?_⟩
    · refine (Cur.keepsP (c2.keeps (Keeps.append h2 _)) k4 fun i hi hv => ?_).mono (by omega)
      have := (o3.ge hv).1; omega
    · refine Keeps.far (n := h0.length) ((Keeps.far (n := h0.length) (hkp.trans (Keeps.append s.h _)) k2.P (Nat.le_refl _) fun i hi => by omega).trans (Keeps.append h2 _)) k4 (Nat.le_refl _) fun i hi hv => ?_
      have := (o3.ge hv).1; omega
  · have : k = 0 := by omega
    subst this
    simp [g12_0, h5, h3, h4]
    exact hK _ ⟨by omega, by simp [h5], by simp [h3], v, xs, by simp [h4], ho, hx, hc, hkp⟩

theorem DI.start {h0 h : Heap} {σ : Nat → T} {L : Nat → Nat × List V} {wt : Nat → Option (ROp × List T × V)} {fl : Nat → Bool} {b N n : Nat} (hn : n ≤ 30) (h5 : σ 5 = .v (vi n)) (h3 : σ 3 = .v (.ptr h0.length 0)) (h4 : σ 4 = .v .nils)
    (hc : Cur h h0.length N) (hN : N ≤ 900) (hk : Keeps h0 h) : DI h0 n ⟨σ, L, h, wt, fl, b⟩ :=
  ⟨hn, h5, h3, .nils, [], h4, Out.nil (by have := hc.lt; show h0.length + 1 ≤ h.length; omega), by simp, hc.mono (by omega), hk⟩

theorem DrawAllOf_ok {h : Heap} {v : V} {bs : List Byte} (hs : Sl h v bs) : ∃ r h', call p 12 [v] h = some (r, h') ∧ ∃ xs : List Int, Sl h' r xs ∧ Keeps h h' := by
  have c0 := drawTwo hs
  obtain ⟨_, h1, e1, n, rfl, hn, c1, k1, l1⟩ := pick_ok (n := 5) c0 (by decide) (by decide)
  obtain ⟨_, h2, e2, b, rfl, c2, k2, l2⟩ := one_ok (n := 20) c1 (by decide) (by decide)
  obtain ⟨_, h3, e3, m, rfl, hm, c3, k3, l3⟩ := pick_ok (n := 2) c2 (by decide) (by decide)
  have q1 : Keeps h h2 := KeepsBut.keeps (Keeps.append h _) (Nat.le_refl _) (k1.trans k2)
  have q2 : Keeps h h3 := KeepsBut.keeps q1 (Nat.le_refl _) k3
  refine go (fn := g12) rfl rfl fun R hR => ?_
  have e1' : call p 91 [.ptr h.length 0, vi 5] (h ++ [⟨.own, [v, vi 0, .int .u64 0]⟩]) = some (vi n, h1) := e1
  have e2' : call p 92 [.ptr h.length 0, vi 20] h1 = some (.bool b, h2) := e2
  have e3' : call p 91 [.ptr h.length 0, vi 2] h2 = some (vi m, h3) := e3
  have w : IntKind.i64.wrap (20 + (m : Int)) = (20 + m : Nat) := by rw [IntWalk.i64_in] <;> omega
  cases b <;> simp [g12, fillL, e1', e2', e3', hs.cells, hs.cell, w]
  case' false => refine g12_loop (h0 := h) (k := n) (DI.start (by omega) (by simp) (by simp) (by simp) c2 (by omega) q1) ?_
  case' true => refine g12_loop (h0 := h) (k := 20 + m) (DI.start (by omega) (by simp) (by simp) (by simp) c3 (by omega) q2) ?_
  all_goals
    rintro s' ⟨_, _, g3, v', xs, g4, ho, hx, hc, hkp⟩
    obtain ⟨_, h4, e4, b2, rfl, c4, k4, l4⟩ := one_ok (n := 20) hc (by omega) (by decide)
    have e4' : call p 92 [.ptr h.length 0, vi 20] s'.h = some (.bool b2, h4) := e4
    have o4 : Out (h.length + 1) h4 v' xs := k4.out ho (by omega) (by omega)
    have q4 : Keeps h h4 := Keeps.far (n := h.length) hkp k4.P (Nat.le_refl _) fun i hi => by omega
    by_cases hz : 0 < xs.length
    · obtain ⟨h5, e5, o5, k5, l5⟩ := o4.set hz 3 (o := oOf v') (cs := [vi 3]) (by simp) rfl
      have hi := o4.sl.idx 1 .i64 0 hz
      cases b2
      · simp [g3, g4, ho.sl.len, hz, e4']
        exact hR _ _ ⟨xs, o4.sl, q4⟩
      · simp at hi
        simp [g3, g4, ho.sl.len, hz, e4', hi, e5]
        refine hR _ _ ⟨_, o5.sl, Keeps.far (n := h.length) q4 k5 (Nat.le_refl _) fun i hi hv => ?_⟩
        have := (o4.ge hv).1; omega
    · simp [g3, g4, ho.sl.len, hz]
      exact hR _ _ ⟨xs, ho.sl, hkp⟩
end GL
namespace GL
open Go

theorem notR_form (n : Int) : ∃ a t, notR n = .tup [vi a, .bool t] := by
  unfold notR; split
  · exact ⟨_, _, rfl⟩
  · exact ⟨_, _, rfl⟩
theorem allR_form (xs : List Int) : ∃ a t, allR xs = .tup [vi a, .bool t] := by
  unfold allR; split
  · exact ⟨_, _, rfl⟩
  · exact ⟨_, _, rfl⟩

theorem FnTruths_tail {h h1 : Heap} {vb : V} {bs : List Byte} (hb : Sl h vb bs) (k1 : Keeps h h1) : ∃ n h2 a t v h3 b u, call p 10 [vb] h1 = some (vi n, h2) ∧ call p 8 [vi n] h2 = some (.tup [vi a, .bool t], h2) ∧ call p 11 [vi n] h2 = some (.tup [vi a, .bool t], h2) ∧
    call p 12 [vb] h2 = some (v, h3) ∧ call p 9 [v] h3 = some (.tup [vi b, .bool u], h3) ∧ call p 13 [v] h3 = some (.tup [vi b, .bool u], h3) := by
  obtain ⟨_, h2, e2, n, rfl, k2⟩ := DrawNotOf_ok (hb.keeps k1)
  obtain ⟨v, h3, e3, xs, hs, k3⟩ := DrawAllOf_ok (hb.keeps (k1.trans k2))
  obtain ⟨a, t, hn⟩ := notR_form n
  obtain ⟨b, u, ha⟩ := allR_form xs
  exact ⟨n, h2, a, t, v, h3, b, u, e2, by rw [NotOf_eq, hn], by rw [NotOfS_eq, hn], e3, by rw [AllOf_eq hs, ha], by rw [AllOfS_eq hs, ha]⟩

theorem FnTruths_ok {h : Heap} {va vb : V} {as bs : List Byte} (ha : Sl h va as) (hb : Sl h vb bs) : ∃ r h', call p 2 [va, vb] h = some (r, h') ∧ r = .bool true := by
  refine go (fn := g2) rfl rfl fun R hR => ?_
  have hR' : ∀ h', R (.bool true) h' := fun h' => hR _ _ rfl
  by_cases hl : (1048576 : Int) < IntKind.i64.wrap ((as.length : Int) + bs.length)
  · simp [g2, ha.len, hb.len, hl]
    exact hR' _
  obtain ⟨_, h1, e1, x, y, rfl, k1⟩ := DrawAndOf_ok ha
  by_cases hT : isT x ∧ isT y
  · obtain ⟨hx, hy⟩ := id hT
    have hx2 : isT (2 - x) := by unfold isT at *; omega
    have hy2 : isT (2 - y) := by unfold isT at *; omega
    have hm2 : isT (min x y) := by unfold isT at *; omega
    have hs : Sl (h1 ++ [⟨.own, [vi x, vi y]⟩]) (.slice h1.length 0 2 (.k 2)) [x, y] := Sl.lit [x, y] 2 rfl _ rfl _ (by simp)
    have hall : allR [x, y] = .tup [vi (min x y), .bool true] := by
      unfold isT at hx hy
      have : min (min 2 x) y = min x y := by omega
      simp [allR, hx, hy, this]
    have hr : max (2 - x) (2 - y) = 2 - min x y := by omega
    obtain ⟨n, h2, a, t, v, h3, b, u, f1, f2, f3, f4, f5, f6⟩ := FnTruths_tail hb (k1.trans (Keeps.append h1 [⟨.own, [vi x, vi y]⟩]))
    simp [g2, ha.len, hb.len, hl, e1, AndOf_eq, AndOfS_eq, OrOf_eq, OrOfS_eq, NotOf_eq, andR, orR, notR, hx, hy, hx2, hy2, hm2, hr, AllOf_eq hs, hall]
    obtain ⟨m, hm⟩ : ∃ m, m = min x y := ⟨_, rfl⟩
    refine Wc_upJ 2 (fun i s => i ≤ 2 ∧ s.σ 25 = .v (vi (2 * i : Nat)) ∧ s.σ 5 = .v (vi x) ∧ s.σ 6 = .v (vi y) ∧ s.σ 7 = .v (vi m) ∧ s.σ 1 = .v vb ∧ s.h = h1 ++ [⟨.own, [vi x, vi y]⟩]) 0 (by simp [hm]) fun i s ⟨hi, g25, g5, g6, g7, g1, gh⟩ J hJ => ?_
    by_cases hk : i < 2
    · have hk' : ((2 * i : Nat) : Int) ≤ 2 := by omega
      have w : IntKind.i64.wrap (((2 * i : Nat) : Int) + 2) = (2 * (i + 1) : Nat) := by rw [IntWalk.i64_in] <;> omega
      have hkT : isT ((2 * i : Nat) : Int) := by unfold isT; omega
      have hc : ∀ c d : Int, isT c → isT d → call p 4 [vi c, vi d] s.h = some (.tup [vi (min c d), .bool true], s.h) := fun c d h1 h2 => by rw [AndOf_eq, andR, if_pos ⟨h1, h2⟩]
      have hc2 : ∀ c d : Int, isT c → isT d → min c d = m → call p 4 [vi c, vi d] s.h = some (.tup [vi m, .bool true], s.h) := fun c d h1 h2 e => by rw [hc c d h1 h2, e]
      by_cases hm1 : m = 1
      · subst hm1
        by_cases hx1 : x = 1 <;> by_cases hy1 : y = 1
        · have h3 := hc _ _ hkT hkT
          simp [g2_0, g25, g5, g6, g7, hk', hx1, hy1, h3, w, -Int.natCast_mul]
          exact hJ _ hk ⟨by omega, by simp, by simp [g5, hx1], by simp [g6, hy1], by simp [g7], by simp [g1], gh⟩
        · have h3 := hc _ _ hkT hy
          simp [g2_0, g25, g5, g6, g7, hk', hx1, hy1, h3, w, -Int.natCast_mul]
          exact hJ _ hk ⟨by omega, by simp, by simp [g5, hx1], by simp [g6], by simp [g7], by simp [g1], gh⟩
        · have h3 := hc _ _ hx hkT
          simp [g2_0, g25, g5, g6, g7, hk', hx1, hy1, h3, w, -Int.natCast_mul]
          exact hJ _ hk ⟨by omega, by simp, by simp [g5], by simp [g6, hy1], by simp [g7], by simp [g1], gh⟩
        · have h3 := hc _ _ hx hy
          simp [g2_0, g25, g5, g6, g7, hk', hx1, hy1, h3, w, -Int.natCast_mul]
          exact hJ _ hk ⟨by omega, by simp, by simp [g5], by simp [g6], by simp [g7], by simp [g1], gh⟩
      · have hx' := hx
        have hy' := hy
        unfold isT at hx' hy'
        by_cases hx1 : x = 1 <;> by_cases hy1 : y = 1
        · omega
        · have h3 := hc2 _ _ hkT hy (by omega)
          simp [g2_0, g25, g5, g6, g7, hk', hx1, hy1, h3, w, hm1, -Int.natCast_mul]
          exact hJ _ hk ⟨by omega, by simp, by simp [g5, hx1], by simp [g6], by simp [g7], by simp [g1], gh⟩
        · have h3 := hc2 _ _ hx hkT (by omega)
          simp [g2_0, g25, g5, g6, g7, hk', hx1, hy1, h3, w, hm1, -Int.natCast_mul]
          exact hJ _ hk ⟨by omega, by simp, by simp [g5], by simp [g6, hy1], by simp [g7], by simp [g1], gh⟩
        · have h3 := hc2 _ _ hx hy (by omega)
          simp [g2_0, g25, g5, g6, g7, hk', hx1, hy1, h3, w, hm1, -Int.natCast_mul]
          exact hJ _ hk ⟨by omega, by simp, by simp [g5], by simp [g6], by simp [g7], by simp [g1], gh⟩
    · have hk' : ¬ ((2 * i : Nat) : Int) ≤ 2 := by omega
      simp [g2_0, g25, g1, gh, hk', f1, f2, f3, f4, f5, f6, -Int.natCast_mul]
      cases t <;> cases u <;> simp [hR']
  · obtain ⟨n, h2, a, t, v, h3, b, u, f1, f2, f3, f4, f5, f6⟩ := FnTruths_tail hb k1
    simp [g2, ha.len, hb.len, hl, e1, AndOf_eq, AndOfS_eq, OrOf_eq, OrOfS_eq, andR, orR, hT, f1, f2, f3, f4, f5, f6]
    cases t <;> cases u <;> simp [hR']
end GL
/-! values -/
namespace GL
open Go

structure Val where
  null : Bool
  n : Int
instance : Flat Val := ⟨2, fun x => [.bool x.null, vi x.n], fun _ => rfl, fun _ => rfl, by decide⟩
/-- a value of its own -/
abbrev vv (x : Val) : V := .agg [.bool x.null, vi x.n]

@[simp] theorem isSmall_eq (n : Int) (h : Heap) : call p 100 [vi n] h = some (.bool (decide (-1000 ≤ n ∧ n ≤ 1000)), h) := by
  refine go_eq (fn := g100) rfl rfl fun R hR => ?_
  simp [g100]
  simpa using hR

def okV (x : Val) : Bool := if x.null then decide (x.n = 0) else decide (-1000 ≤ x.n ∧ x.n ≤ 1000)

@[simp] theorem GoodValue_eq (x : Val) (h : Heap) : call p 25 [vv x] h = some (.bool (okV x), h) := by
  refine go_eq (fn := g25) rfl rfl fun R hR => ?_
  obtain ⟨b, n⟩ := x
  cases b
  · simp [okV] at hR
    simp [g25]
    exact hR
  · simp [okV] at hR
    by_cases h1 : n = 0
    · simp [g25, h1]; simpa [h1] using hR
    · simp [g25, h1]; simpa [h1] using hR

@[simp] theorem GoodValueS_eq (x : Val) (h : Heap) : call p 26 [vv x] h = some (.bool (okV x), h) := by
  refine go_eq (fn := g26) rfl rfl fun R hR => ?_
  obtain ⟨b, n⟩ := x
  by_cases h1 : -1000 ≤ n ∧ n ≤ 1000
  · cases b
    · simp [okV, h1] at hR
      simp [g26, h1, -Bool.decide_and]
      exact hR
    · simp [okV] at hR
      simp [g26, h1, -Bool.decide_and]
      exact hR
  · have h2 : ¬ n = 0 := by omega
    cases b
    · simp [okV, h1, -Bool.decide_and] at hR
      simp [g26, h1, -Bool.decide_and]
      exact hR
    · simp [okV, h2] at hR
      simp [g26, h1, -Bool.decide_and]
      exact hR

@[simp] theorem truth_eq (b : Bool) (h : Heap) : call p 141 [.bool b] h = some (vi (if b = true then 2 else 0), h) := by
  refine go_eq (fn := g141) rfl rfl fun R hR => ?_
  cases b <;> simp [g141] <;> simpa using hR
@[simp] theorem l1Is_eq (b : Bool) (h : Heap) : call p 142 [.bool b] h = some (vi (if b = true then 2 else 0), h) := by
  refine go_eq (fn := g142) rfl rfl fun R hR => ?_
  cases b <;> simp [g142] <;> simpa using hR
@[simp] theorem isKind_eq (n : Int) (h : Heap) : call p 96 [vi n] h = some (.bool (decide (0 ≤ n ∧ n ≤ 2)), h) := by
  refine go_eq (fn := g96) rfl rfl fun R hR => ?_
  simp [g96]
  simpa using hR

/-- how two values compare -/
def cmpV (k : Int) (a b : Val) : Int :=
  if a.null || b.null then 1 else if k = 0 then (if a.n = b.n then 2 else 0) else if k = 1 then (if a.n < b.n then 2 else 0) else (if b.n < a.n then 2 else 0)

@[simp] theorem compare_eq (k : Int) (a b : Val) (h : Heap) : call p 97 [vi k, vv a, vv b] h = some (vi (cmpV k a b), h) := by
  refine go_eq (fn := g97) rfl rfl fun R hR => ?_
  obtain ⟨an, a⟩ := a
  obtain ⟨bn, b⟩ := b
  cases an
  · cases bn
    · by_cases h0 : k = 0
      · simp [g97, h0]; simpa [cmpV, h0] using hR
      · by_cases h1 : k = 1
        · simp [g97, h1]; simpa [cmpV, h1] using hR
        · simp [g97, h0, h1]; simpa [cmpV, h0, h1] using hR
    · simp [g97]; simpa [cmpV] using hR
  · simp [g97]; simpa [cmpV] using hR

@[simp] theorem l1Compare_eq (k : Int) (a b : Val) (h : Heap) : call p 99 [vi k, vv a, vv b] h = some (vi (cmpV k a b), h) := by
  refine go_eq (fn := g99) rfl rfl fun R hR => ?_
  obtain ⟨an, a⟩ := a
  obtain ⟨bn, b⟩ := b
  cases an
  · cases bn
    · by_cases h0 : k = 0
      · simp [g99, h0]; simpa [cmpV, h0] using hR
      · by_cases h1 : k = 1
        · simp [g99, h1]; simpa [cmpV, h1] using hR
        · simp [g99, h0, h1]; simpa [cmpV, h0, h1] using hR
    · simp [g99]; simpa [cmpV] using hR
  · simp [g99]; simpa [cmpV] using hR

def cmpR (k : Int) (a b : Val) : V := if (0 ≤ k ∧ k ≤ 2) ∧ okV a = true ∧ okV b = true then .tup [vi (cmpV k a b), .bool true] else .tup [vi 0, .bool false]

theorem Compare_eq (k : Int) (a b : Val) (h : Heap) : call p 16 [vi k, vv a, vv b] h = some (cmpR k a b, h) := by
  refine go_eq (fn := g16) rfl rfl fun R hR => ?_
  unfold cmpR at hR
  by_cases h1 : 0 ≤ k ∧ k ≤ 2
  · cases h2 : okV a <;> cases h3 : okV b <;> simp [g16, h1, h2, h3, -Bool.decide_and] <;> simpa [h1, h2, h3] using hR
  · simp [g16, h1, -Bool.decide_and]
    simpa [h1] using hR
theorem CompareS_eq (k : Int) (a b : Val) (h : Heap) : call p 17 [vi k, vv a, vv b] h = some (cmpR k a b, h) := by
  refine go_eq (fn := g17) rfl rfl fun R hR => ?_
  unfold cmpR at hR
  by_cases h1 : 0 ≤ k ∧ k ≤ 2
  · cases h2 : okV a <;> cases h3 : okV b <;> simp [g17, h1, h2, h3, -Bool.decide_and] <;> simpa [h1, h2, h3] using hR
  · simp [g17, h1, -Bool.decide_and]
    simpa [h1] using hR
end GL
namespace GL
open Go

theorem KeepsBut.lit {c : Nat} {h : Heap} (l : Heap) : KeepsBut c h (h ++ l) := (Keeps.append h l).but c

theorem value_ok {h : Heap} {c N : Nat} (hc : Cur h c N) (hN : N < 2 ^ 60) :
    ∃ r h', call p 95 [.ptr c 0] h = some (r, h') ∧ ∃ x : Val, r = vv x ∧ Cur h' c (N + 20) ∧ KeepsBut c h h' ∧ h.length ≤ h'.length := by
  have hlt := hc.lt
  obtain ⟨_, h1, e1, b1, rfl, c1, k1, l1⟩ := one_ok (n := 4) hc (by omega) (by decide)
  obtain ⟨_, h2, e2, b2, rfl, c2, k2, l2⟩ := one_ok (n := 30) c1 (by omega) (by decide)
  obtain ⟨_, h3, e3, b3, rfl, c3, k3, l3⟩ := one_ok (n := 2) c2 (by omega) (by decide)
  obtain ⟨_, h4, e4, x, hx, rfl, c4, k4, l4⟩ := among_ok (v := .slice h3.length 0 4 (.k 4)) (c3.keeps (Keeps.append h3 _)) (by omega) (Sl.lit [-1001, -1000, 1000, 1001] 4 rfl [vi (-1001), vi (-1000), vi 1000, vi 1001] rfl _ (by decide)) (by simp [bOf]; omega) (by decide) (by decide)
  obtain ⟨_, h5, e5, y, rfl, hy, c5, k5, l5⟩ := pick_ok (n := 6) c2 (by omega) (by decide)
  have e1' : call p 92 [.ptr c 0, vi 4] h = some (.bool b1, h1) := e1
  have e2' : call p 92 [.ptr c 0, vi 30] h1 = some (.bool b2, h2) := e2
  have e3' : call p 92 [.ptr c 0, vi 2] h2 = some (.bool b3, h3) := e3
  have e5' : call p 91 [.ptr c 0, vi 6] h2 = some (vi y, h5) := e5
  refine go (fn := g95) rfl rfl fun R hR => ?_
  cases b1
  · cases b2
    · simp [g95, e1', e2', e5', fillL, resV, mkV]
      exact hR _ _ ⟨⟨_, _⟩, rfl, c5.mono (by omega), (k1.trans k2).trans k5, by omega⟩
    · simp [g95, e1', e2', e3', e4, fillL, resV, mkV]
      exact hR _ _ ⟨⟨_, _⟩, rfl, c4.mono (by omega), ((k1.trans k2).trans k3).trans (KeepsBut.trans (KeepsBut.lit _) k4), by simp at l4; omega⟩
  · simp [g95, e1', fillL, resV, mkV]
    exact hR _ _ ⟨⟨_, _⟩, rfl, c1.mono (by omega), k1, by omega⟩

def sameR (a b : Val) : V := if okV a = true ∧ okV b = true then .tup [.bool (a.null == b.null && decide (a.n = b.n)), .bool true] else .tup [.bool false, .bool false]
theorem SameValue_eq (a b : Val) (h : Heap) : call p 20 [vv a, vv b] h = some (sameR a b, h) := by
  refine go_eq (fn := g20) rfl rfl fun R hR => ?_
  unfold sameR at hR
  cases h2 : okV a <;> cases h3 : okV b <;> simp [g20, h2, h3, eqCells] <;> simpa [h2, h3] using hR
theorem SameValueS_eq (a b : Val) (h : Heap) : call p 21 [vv a, vv b] h = some (sameR a b, h) := by
  refine go_eq (fn := g21) rfl rfl fun R hR => ?_
  unfold sameR at hR
  cases h2 : okV a <;> cases h3 : okV b <;> simp [g21, h2, h3, eqCells] <;> simpa [h2, h3] using hR

theorem DrawCompare_ok {h : Heap} {v : V} {bs : List Byte} (hs : Sl h v bs) : ∃ r h', call p 15 [v] h = some (r, h') ∧ ∃ (k : Int) (x y : Val), r = .tup [vi k, vv x, vv y] ∧ Keeps h h' := by
  have c0 := drawTwo hs
  obtain ⟨_, h1, e1, n, rfl, hn, c1, k1, l1⟩ := pick_ok (n := 4) c0 (by decide) (by decide)
  obtain ⟨_, h2, e2, m, rfl, hm, c2, k2, l2⟩ := pick_ok (n := 9) c1 (by decide) (by decide)
  obtain ⟨_, h3, e3, x, rfl, c3, k3, l3⟩ := value_ok c2 (by omega)
  obtain ⟨_, h4, e4, y, rfl, c4, k4, l4⟩ := value_ok c3 (by omega)
  have e1' : call p 91 [.ptr h.length 0, vi 4] (h ++ [⟨.own, [v, vi 0, .int .u64 0]⟩]) = some (vi n, h1) := e1
  have e2' : call p 91 [.ptr h.length 0, vi 9] h1 = some (vi m, h2) := e2
  refine go (fn := g15) rfl rfl fun R hR => ?_
  simp [g15, fillL, e1', e2', e3, e4, hs.cells, hs.cell, resV, mkV]
  exact hR _ _ ⟨_, x, y, rfl, KeepsBut.keeps (Keeps.append h _) (Nat.le_refl _) (((k1.trans k2).trans k3).trans k4)⟩

theorem DrawSameValue_ok {h : Heap} {v : V} {bs : List Byte} (hs : Sl h v bs) : ∃ r h', call p 19 [v] h = some (r, h') ∧ ∃ (x y : Val), r = .tup [vv x, vv y] ∧ Keeps h h' := by
  have c0 := drawTwo hs
  obtain ⟨_, h3, e3, x, rfl, c3, k3, l3⟩ := value_ok c0 (by omega)
  obtain ⟨_, h4, e4, y, rfl, c4, k4, l4⟩ := value_ok c3 (by omega)
  refine go (fn := g19) rfl rfl fun R hR => ?_
  simp [g19, fillL, e3, e4, hs.cells, hs.cell, resV, mkV]
  exact hR _ _ ⟨x, y, rfl, KeepsBut.keeps (Keeps.append h _) (Nat.le_refl _) (k3.trans k4)⟩
end GL
namespace GL
open Go

def fillB (x : Val) (xs : List Int) : Bool := okV x && decide (xs.length ≤ 10) && xs.all fun n => decide (-1000 ≤ n ∧ n ≤ 1000)
def fill1 (x : Val) (n : Int) : Int := if x.null then n else x.n
def fillR (x : Val) (xs : List Int) : List Int := if fillB x xs then xs.map (fill1 x) else []

theorem Out.one {lo : Nat} {h : Heap} {v : V} {xs : List Int} (ho : Out lo h v xs) (x : Int) (hx : xs.length ≤ 2 ^ 20) :
    ∃ v' h', appH 1 8 v 1 [vi x] (h ++ [⟨.own, [vi x]⟩]) = some (v', h') ∧ Out lo h' v' (xs ++ [x]) ∧ KeepsP (fun i => ¬ vB v i) h h' ∧ h.length < h'.length := by
  have o3 : Out lo (h ++ [⟨.own, [vi x]⟩]) v xs := (Keeps.append h _).out ho (by simp)
  obtain ⟨v', h', e4, o4, k4, l4, b4⟩ := o3.app [x] (by simp) (bytes := 8) (by decide) (by simp; omega) (k := 1) rfl (n := 1) rfl (ys := [vi x]) rfl
  exact ⟨v', h', e4, o4, fun i blk hi h1 h2 => k4 i blk hi (Keeps.append h _ i blk h1 h2) h2, by simp at l4; omega⟩

theorem Out.far {lo : Nat} {h0 h h' : Heap} {α : Type} [Flat α] {v : V} {xs : List α} (ho : Out lo h v xs) (hk : Keeps h0 h) (hp : KeepsP (fun i => ¬ vB v i) h h') (hl : h0.length ≤ lo) : Keeps h0 h' :=
  Keeps.far hk hp hl fun i hi hv => by have := (ho.ge hv).1; omega

theorem all_false {xs : List Int} {i : Nat} (hi : i < xs.length) {q : Int → Bool} (h : q xs[i] = false) : xs.all q = false := by
  rw [List.all_eq_false]; exact ⟨xs[i], by simp, by simp [h]⟩

theorem FillsOf_ok {h : Heap} {v : V} {xs : List Int} (hs : Sl h v xs) (x : Val) :
    ∃ r h', call p 18 [vv x, v] h = some (r, h') ∧ ∃ w, r = .tup [w, .bool (fillB x xs)] ∧ Sl h' w (fillR x xs) ∧ Keeps h h' := by
  refine go (fn := g18) rfl rfl fun R hR => ?_
  have bad : fillB x xs = false → ∀ h', Keeps h h' → R (.tup [.nils, .bool false]) h' := fun hb h' hk => hR _ _ ⟨.nils, by rw [hb], by simp [fillR, hb]; exact Sl.nil, hk⟩
  cases h1 : okV x with
  | false =>
    simp [g18, h1, hs.len]
    exact bad (by simp [fillB, h1]) _ (Keeps.refl _)
  | true =>
    by_cases h2 : xs.length ≤ 10
    · have h2' : ¬ (10 : Int) < xs.length := by omega
      simp [g18, h1, hs.len, h2']
      refine Wc_upJ xs.length (fun i s => s.σ 18 = .v v ∧ s.σ 19 = .v (vi xs.length) ∧ s.σ 20 = .v (vi i) ∧ s.σ 2 = .lp 2 1 0 ∧ s.L 2 = (1, [.bool x.null, vi x.n]) ∧ Keeps h s.h ∧ (∃ w, s.σ 6 = .v w ∧ Out h.length s.h w ((xs.take i).map (fill1 x))) ∧
        ∀ y ∈ xs.take i, -1000 ≤ y ∧ y ≤ 1000) 0 ⟨by simp, by simp, by simp, by simp, by simp [upd], Keeps.append h _, ⟨_, by simp; rfl, by simpa using Out.empty (Nat.le_refl _) (by simp)⟩, by simp⟩ fun i s ⟨g18, g19, g20, g2, gL, hk, ⟨w, g6, ho⟩, hall⟩ J hJ => ?_
      have hs' := hs.keeps hk
      by_cases hn : i < xs.length
      · by_cases hy : -1000 ≤ xs[i] ∧ xs[i] ≤ 1000
        · obtain ⟨w', h', e, o', k', l'⟩ := ho.one (fill1 x xs[i]) (by simp; omega)
          have hall' : ∀ y ∈ xs.take (i + 1), -1000 ≤ y ∧ y ≤ 1000 := by
            rw [List.take_succ_eq_append_getElem hn]; intro y hy'
            rcases List.mem_append.1 hy' with h | h
            · exact hall y h
            · simp at h; subst h; exact hy
          have ot : Out h.length h' w' ((xs.take (i + 1)).map (fill1 x)) := by
            rw [List.take_succ_eq_append_getElem hn, List.map_append]; exact o'
          cases hxn : x.null with
          | true =>
            simp [fill1, hxn] at e
            simp [g18_0, g18, g19, g20, g2, gL, g6, hn, hs'.idx, hs'.loadI, hs.step hn, hy, hxn, rdS_last, e]
            exact hJ _ hn ⟨by simp [g18], by simp [g19], by simp, by simp [g2], by simp [gL, hxn], ho.far hk k' (Nat.le_refl _), ⟨w', by simp, ot⟩, hall'⟩
          | false =>
            simp [fill1, hxn] at e
            simp [g18_0, g18, g19, g20, g2, gL, g6, hn, hs'.idx, hs'.loadI, hs.step hn, hy, hxn, rdS_last, e]
            exact hJ _ hn ⟨by simp [g18], by simp [g19], by simp, by simp [g2], by simp [gL, hxn], ho.far hk k' (Nat.le_refl _), ⟨w', by simp, ot⟩, hall'⟩
        · simp [g18_0, g18, g19, g20, hn, hs'.idx, hs'.loadI, hy, -Bool.decide_and]
          exact bad (by simp only [fillB]; rw [all_false hn (by simpa using hy)]; simp) _ hk
      · rw [List.take_of_length_le (by omega)] at ho hall
        simp [g18_0, g19, g20, g6, hn]
        have hb : fillB x xs = true := by
          simp only [fillB, h1, h2, decide_true, Bool.and_self, Bool.true_and, List.all_eq_true, decide_eq_true_eq]; exact hall
        exact hR _ _ ⟨w, by rw [hb], by simp only [fillR, hb, if_true]; exact ho.sl, hk⟩
    · have h2' : (10 : Int) < xs.length := by omega
      simp [g18, h1, hs.len, h2']
      exact bad (by simp [fillB, h2]) _ (Keeps.refl _)
end GL
namespace GL
open Go

theorem FillsOfS_ok {h : Heap} {v : V} {xs : List Int} (hs : Sl h v xs) (x : Val) :
    ∃ r h', call p 23 [vv x, v] h = some (r, h') ∧ ∃ w, r = .tup [w, .bool (fillB x xs)] ∧ Sl h' w (fillR x xs) ∧ Keeps h h' := by
  refine go (fn := g23) rfl rfl fun R hR => ?_
  have bad : fillB x xs = false → ∀ h', Keeps h h' → R (.tup [.nils, .bool false]) h' := fun hb h' hk => hR _ _ ⟨.nils, by rw [hb], by simp [fillR, hb]; exact Sl.nil, hk⟩
  cases h1 : okV x with
  | false =>
    simp [g23, h1]
    exact bad (by simp [fillB, h1]) _ (Keeps.refl _)
  | true =>
    by_cases h2 : xs.length ≤ 10
    · have h2' : ¬ (10 : Int) < xs.length := by omega
      cases h3 : xs.all fun n => decide (-1000 ≤ n ∧ n ≤ 1000) with
      | false =>
        simp [g23, h1, hs.len, h2', l1All_eq hs, h3, -Bool.decide_and]
        exact bad (by simp only [fillB, h3]; simp) _ (Keeps.refl _)
      | true =>
        simp [g23, h1, hs.len, h2', l1All_eq hs, h3, -Bool.decide_and]
        refine Wc_upJ xs.length (fun i s => s.σ 22 = .v v ∧ s.σ 23 = .v (vi xs.length) ∧ s.σ 24 = .v (vi i) ∧ s.σ 2 = .lp 2 1 0 ∧ s.L 2 = (1, [.bool x.null, vi x.n]) ∧ Keeps h s.h ∧ (∃ w, s.σ 6 = .v w ∧ Out h.length s.h w ((xs.take i).map (fill1 x)))) 0
          ⟨by simp, by simp, by simp, by simp, by simp [upd], Keeps.refl _, ⟨.nils, by simp, by simpa using Out.nil (Nat.le_refl _)⟩⟩ fun i s ⟨g22, g23', g24, g2, gL, hk, ⟨w, g6, ho⟩⟩ J hJ => ?_
        have hs' := hs.keeps hk
        by_cases hn : i < xs.length
        · obtain ⟨w', h', e, o', k', l'⟩ := ho.one (fill1 x xs[i]) (by simp; omega)
          have ot : Out h.length h' w' ((xs.take (i + 1)).map (fill1 x)) := by
            rw [List.take_succ_eq_append_getElem hn, List.map_append]; exact o'
          cases hxn : x.null with
          | true =>
            simp [fill1, hxn] at e
            simp [g23_0, g22, g23', g24, g2, gL, g6, hn, hs'.idx, hs'.loadI, hs.step hn, hxn, rdS_last, e]
            exact hJ _ hn ⟨by simp [g22], by simp [g23'], by simp, by simp [g2], by simp [gL, hxn], ho.far hk k' (Nat.le_refl _), ⟨w', by simp, ot⟩⟩
          | false =>
            simp [fill1, hxn] at e
            simp [g23_0, g22, g23', g24, g2, gL, g6, hn, hs'.idx, hs'.loadI, hs.step hn, hxn, rdS_last, e]
            exact hJ _ hn ⟨by simp [g22], by simp [g23'], by simp, by simp [g2], by simp [gL, hxn], ho.far hk k' (Nat.le_refl _), ⟨w', by simp, ot⟩⟩
        · rw [List.take_of_length_le (by omega)] at ho
          simp [g23_0, g23', g24, g6, hn]
          have hb : fillB x xs = true := by simp only [fillB, h1, h2, h3, decide_true, Bool.and_self]
          exact hR _ _ ⟨w, by rw [hb], by simp only [fillR, hb, if_true]; exact ho.sl, hk⟩
    · have h2' : (10 : Int) < xs.length := by omega
      simp [g23, h1, hs.len, h2']
      exact bad (by simp [fillB, h2]) _ (Keeps.refl _)

theorem sameInts_eq {h : Heap} {v w : V} {xs ys : List Int} (hs : Sl h v xs) (ht : Sl h w ys) : call p 24 [v, w] h = some (.bool (decide (xs = ys)), h) := by
  refine go_eq (fn := g24) rfl rfl fun R hR => ?_
  by_cases hl : xs.length = ys.length
  · simp [g24, hs.len, ht.len, hl]
    refine Wc_upJ xs.length (fun i s => s.σ 0 = .v v ∧ s.σ 1 = .v w ∧ s.σ 12 = .v (vi xs.length) ∧ s.σ 13 = .v (vi i) ∧ s.h = h ∧ xs.take i = ys.take i) 0 (by simp [hl]) fun i s ⟨g0, g1, g12, g13, gh, hall⟩ J hJ => ?_
    by_cases hn : i < xs.length
    · have hn' : i < ys.length := by omega
      by_cases he : xs[i] = ys[i]
      · have : xs.take (i + 1) = ys.take (i + 1) := by
          rw [List.take_succ_eq_append_getElem hn, List.take_succ_eq_append_getElem hn', hall, he]
        simp [g24_0, g0, g1, g12, g13, gh, hn, hn', hs.idx, hs.loadI, ht.idx, ht.loadI, he, hs.step hn]
        exact hJ _ hn ⟨by simp [g0], by simp [g1], by simp [g12], by simp, rfl, this⟩
      · have hne : ¬ xs = ys := fun e => he (by subst e; rfl)
        simp [g24_0, g0, g1, g12, g13, gh, hn, hn', hs.idx, hs.loadI, ht.idx, ht.loadI, he]
        simpa [hne] using hR
    · have : xs = ys := by
        rw [List.take_of_length_le (by omega), List.take_of_length_le (by omega)] at hall; exact hall
      simp [g24_0, g12, g13, gh, hn]
      simpa [this] using hR
  · have hne : ¬ xs = ys := fun e => hl (by rw [e])
    have hl' : ¬ (xs.length : Int) = ys.length := by omega
    simp only [hne, decide_false] at hR
    simp [g24, hs.len, ht.len]
    rw [if_neg hl']
    exact hR
end GL
namespace GL
open Go

def FI (h0 : Heap) (x : Val) (k : Nat) (s : S) : Prop :=
  k ≤ 10 ∧ s.σ 7 = .v (vi k) ∧ s.σ 4 = .v (.ptr h0.length 0) ∧ s.σ 2 = .lp 2 1 0 ∧ s.σ 5 = .lp 5 1 0 ∧ s.L 2 = (1, [.bool false, vi 0]) ∧ s.L 5 = (1, [.bool x.null, vi x.n]) ∧
    ∃ v xs, s.σ 6 = .v v ∧ Out (h0.length + 1) s.h v (xs : List Int) ∧ xs.length ≤ 10 - k ∧ Cur s.h h0.length (1000 - 2 * k) ∧ Keeps h0 s.h

theorem g22_loop {h0 : Heap} {x : Val} {k : Nat} {s : S} {K : Ex → S → Prop} (hI : FI h0 x k s) (hK : ∀ s', FI h0 x 0 s' → K (.exit 0) s') : Wc p (.loop g22_0) s K := by
  refine Wc_dnJ (FI h0 x) k hI fun k s ⟨hk, g7, g4, g2, g5, gL2, gL5, v, xs, g6, ho, hx, hc, hkp⟩ J hJ => ?_
  by_cases h0k : 0 < k
  · have hlt := hc.lt
    obtain ⟨_, h2, e2, y, rfl, hy, c2, k2, l2⟩ := pick_ok (n := 9) hc (by omega) (by decide)
    have e2' : call p 91 [.ptr h0.length 0, vi 9] s.h = some (vi y, h2) := e2
    have o2 : Out (h0.length + 1) h2 v xs := k2.out ho (by omega) (by omega)
    obtain ⟨v', h4, e4, o4, k4, l4⟩ := o2.one ((y : Int) - 4) (by omega)
    have w : IntKind.i64.wrap ((k : Int) - 1) = (k - 1 : Nat) := by rw [IntWalk.i64_in] <;> omega
    have w2 : IntKind.i64.wrap ((y : Int) - 4) = (y : Int) - 4 := by rw [IntWalk.i64_in] <;> omega
    simp [g22_0, g7, g4, g6, h0k, e2', rdS_last, e4, w, w2]
    refine hJ (k - 1) _ (by omega) ⟨by omega, by simp, by simp [g4], by simp [g2], by simp [g5], by simp [gL2], by simp [gL5], v', xs ++ [(y : Int) - 4], by simp, o4, by simp; omega, ?_, ?_⟩
    · refine (Cur.keepsP c2 k4 fun i hi hv => ?_).mono (by omega)
      have := (o2.ge hv).1; omega
    · refine o2.far (Keeps.far (n := h0.length) hkp k2.P (Nat.le_refl _) fun i hi => by omega) k4 (by omega)
  · have : k = 0 := by omega
    subst this
    simp [g22_0, g7]
    exact hK _ ⟨by omega, by simp [g7], by simp [g4], by simp [g2], by simp [g5], by simp [gL2], by simp [gL5], v, xs, by simp [g6], ho, hx, hc, hkp⟩

theorem DrawFillsOf_ok {h : Heap} {v : V} {bs : List Byte} (hs : Sl h v bs) : ∃ r h', call p 22 [v] h = some (r, h') ∧ ∃ (x : Val) (w : V) (xs : List Int), r = .tup [vv x, w] ∧ Sl h' w xs ∧ Keeps h h' := by
  have c0 := drawTwo hs
  obtain ⟨_, h1, e1, x, rfl, c1, k1, l1⟩ := value_ok c0 (by omega)
  obtain ⟨_, h2, e2, n, rfl, hn, c2, k2, l2⟩ := pick_ok (n := 5) c1 (by omega) (by decide)
  have e2' : call p 91 [.ptr h.length 0, vi 5] h1 = some (vi n, h2) := e2
  have q2 : Keeps h h2 := KeepsBut.keeps (Keeps.append h _) (Nat.le_refl _) (k1.trans k2)
  refine go (fn := g22) rfl rfl fun R hR => ?_
  simp [g22, fillL, e1, e2', hs.cells, hs.cell]
  refine g22_loop (h0 := h) (x := x) (k := n) ⟨by omega, by simp, by simp, by simp, by simp, by simp [upd], by simp [upd], .nils, [], by simp, Out.nil (by have := c2.lt; show h.length + 1 ≤ h2.length; omega), by simp, c2.mono (by omega), q2⟩ ?_
  rintro s' ⟨_, g7, g4, g2, g5, gL2, gL5, w, xs, g6, ho, hx, hc, hkp⟩
  simp [g2, g5, gL2, gL5, g6, resV, mkV]
  exact hR _ _ ⟨x, w, xs, rfl, ho.sl, hkp⟩
end GL
namespace GL
open Go

structure CI (h : Heap) (k c : Int) (a b : Val) (vb Y X : V) (nX : Nat) (s : S) : Prop where
  g5 : s.σ 5 = .v (vi k)
  g8 : s.σ 8 = .v (vi c)
  g6 : s.σ 6 = .lp 6 1 0
  g7 : s.σ 7 = .lp 7 1 0
  l6 : s.L 6 = (1, [.bool a.null, vi a.n])
  l7 : s.L 7 = (1, [.bool b.null, vi b.n])
  g1 : s.σ 1 = .v vb
  g14 : s.σ 14 = .v Y
  g87 : s.σ 87 = .v X
  g88 : s.σ 88 = .v (vi nX)
  gh : s.h = h

/-- what the law asks of two fillings -/
def fits (k c : Int) (x y : Int) : Prop := okV ⟨false, x⟩ = true ∧ okV ⟨false, y⟩ = true ∧ ¬ cmpV k ⟨false, x⟩ ⟨false, y⟩ = 1 ∧ (c = 1 ∨ cmpV k ⟨false, x⟩ ⟨false, y⟩ = c)

theorem g14_inner {h : Heap} {k c : Int} {a b : Val} {vb X Y : V} {nX i : Nat} {ys : List Int} {x : Int} (hk : 0 ≤ k ∧ k ≤ 2) (hY : Sl h Y ys) (hf : ∀ y ∈ ys, fits k c x y) {s : S} {K : Ex → S → Prop}
    (hI : CI h k c a b vb Y X nX s) (h17 : s.σ 17 = .v (vi x)) (h93 : s.σ 93 = .v Y) (h94 : s.σ 94 = .v (vi ys.length)) (h95 : s.σ 95 = .v (vi 0)) (h89 : s.σ 89 = .v (vi i))
    (hK : ∀ s', CI h k c a b vb Y X nX s' → s'.σ 89 = .v (vi i) → K (.exit 2) s') : Wc p (.loop g14_0) s K := by
  refine Wc_upJ ys.length (fun j s => CI h k c a b vb Y X nX s ∧ s.σ 17 = .v (vi x) ∧ s.σ 93 = .v Y ∧ s.σ 94 = .v (vi ys.length) ∧ s.σ 95 = .v (vi j) ∧ s.σ 89 = .v (vi i)) 0 ⟨hI, h17, h93, h94, h95, h89⟩ fun j s ⟨hI, g17, g93, g94, g95, g89⟩ J hJ => ?_
  by_cases hn : j < ys.length
  · obtain ⟨f1, f2, f3, f4⟩ := hf ys[j] (by simp)
    have hc : call p 16 [vi k, vv ⟨false, x⟩, vv ⟨false, ys[j]⟩] h = some (.tup [vi (cmpV k ⟨false, x⟩ ⟨false, ys[j]⟩), .bool true], h) := by rw [Compare_eq, cmpR, if_pos ⟨hk, f1, f2⟩]
    generalize hd : cmpV k ⟨false, x⟩ ⟨false, ys[j]⟩ = d at hc f3 f4
    by_cases h1 : c = 1
    · simp [g14_0, hI.g5, hI.g8, hI.gh, g17, g93, g94, g95, hn, hY.idx, hY.loadI, fillL, hc, f3, h1, hY.step hn]
      exact hJ _ hn ⟨⟨by simp [hI.g5], by simp [hI.g8], by simp [hI.g6], by simp [hI.g7], hI.l6, hI.l7, by simp [hI.g1], by simp [hI.g14], by simp [hI.g87], by simp [hI.g88], rfl⟩, by simp [g17], by simp [g93], by simp [g94], by simp, by simp [g89]⟩
    · have hdc : d = c := f4.resolve_left h1
      subst hdc
      simp [g14_0, hI.g5, hI.g8, hI.gh, g17, g93, g94, g95, hn, hY.idx, hY.loadI, fillL, hc, h1, hY.step hn]
      exact hJ _ hn ⟨⟨by simp [hI.g5], by simp [hI.g8], by simp [hI.g6], by simp [hI.g7], hI.l6, hI.l7, by simp [hI.g1], by simp [hI.g14], by simp [hI.g87], by simp [hI.g88], rfl⟩, by simp [g17], by simp [g93], by simp [g94], by simp, by simp [g89]⟩
  · simp [g14_0, g94, g95, hn]
    exact hK _ ⟨by simp [hI.g5], by simp [hI.g8], by simp [hI.g6], by simp [hI.g7], hI.l6, hI.l7, by simp [hI.g1], by simp [hI.g14], by simp [hI.g87], by simp [hI.g88], hI.gh⟩ (by simp [g89])

theorem g14_outer {h : Heap} {k c : Int} {a b : Val} {vb X Y : V} {xs ys : List Int} (hk : 0 ≤ k ∧ k ≤ 2) (hX : Sl h X xs) (hY : Sl h Y ys) (hf : ∀ x ∈ xs, ∀ y ∈ ys, fits k c x y) {s : S} {K : Ex → S → Prop}
    (hI : CI h k c a b vb Y X xs.length s) (h89 : s.σ 89 = .v (vi 0)) (hK : ∀ s', CI h k c a b vb Y X xs.length s' → K (.exit 0) s') : Wc p (.loop g14_1) s K := by
  refine Wc_upJ xs.length (fun i s => CI h k c a b vb Y X xs.length s ∧ s.σ 89 = .v (vi i)) 0 ⟨hI, h89⟩ fun i s ⟨hI, g89⟩ J hJ => ?_
  by_cases hn : i < xs.length
  · simp [g14_1, hI.g87, hI.g88, hI.gh, hI.g14, g89, hn, hX.idx, hX.loadI, hY.len]
    refine g14_inner (i := i) (x := xs[i]) (a := a) (b := b) (vb := vb) (X := X) (Y := Y) (nX := xs.length) hk hY (hf _ (by simp)) ⟨by simp [hI.g5], by simp [hI.g8], by simp [hI.g6], by simp [hI.g7], hI.l6, hI.l7, by simp [hI.g1], by simp [hI.g14], by simp [hI.g87], by simp [hI.g88], rfl⟩
      (by simp) (by simp) (by simp) (by simp) (by simp [g89]) fun s' hI' g89' => ?_
    simp [g89', hX.step hn]
    exact hJ _ hn ⟨⟨by simp [hI'.g5], by simp [hI'.g8], by simp [hI'.g6], by simp [hI'.g7], hI'.l6, hI'.l7, by simp [hI'.g1], by simp [hI'.g14], by simp [hI'.g87], by simp [hI'.g88], hI'.gh⟩, by simp⟩
  · simp [g14_1, hI.g88, g89, hn]
    exact hK _ ⟨by simp [hI.g5], by simp [hI.g8], by simp [hI.g6], by simp [hI.g7], hI.l6, hI.l7, by simp [hI.g1], by simp [hI.g14], by simp [hI.g87], by simp [hI.g88], hI.gh⟩
end GL
namespace GL
open Go

theorem fill_mem {x : Val} {l : List Int} (hx : okV x = true) (hl : ∀ n ∈ l, -1000 ≤ n ∧ n ≤ 1000) {y : Int} (hy : y ∈ fillR x l) : okV ⟨false, y⟩ = true ∧ (x.null = true ∨ y = x.n) := by
  unfold fillR at hy
  split at hy
  · obtain ⟨n, hn, rfl⟩ := List.mem_map.1 hy
    have := hl n hn
    unfold fill1
    cases h : x.null
    · simp [okV, h] at hx ⊢; exact hx
    · simp [okV]; exact this
  · cases hy

theorem cmp_two (k x y : Int) : ¬ cmpV k ⟨false, x⟩ ⟨false, y⟩ = 1 := by
  unfold cmpV
  simp
  repeat' split
  all_goals omega

theorem fits_all {k : Int} {a b : Val} {l m : List Int} (ha : okV a = true) (hb : okV b = true) (hl : ∀ n ∈ l, -1000 ≤ n ∧ n ≤ 1000) (hm : ∀ n ∈ m, -1000 ≤ n ∧ n ≤ 1000) :
    ∀ x ∈ fillR a l, ∀ y ∈ fillR b m, fits k (cmpV k a b) x y := fun x hx y hy => by
  obtain ⟨h1, h2⟩ := fill_mem ha hl hx
  obtain ⟨h3, h4⟩ := fill_mem hb hm hy
  refine ⟨h1, h3, cmp_two k x y, ?_⟩
  cases hna : a.null
  · cases hnb : b.null
    · have e1 : x = a.n := by simpa [hna] using h2
      have e2 : y = b.n := by simpa [hnb] using h4
      subst e1; subst e2
      right; simp [cmpV, hna, hnb]
    · left; simp [cmpV, hnb]
  · left; simp [cmpV, hna]

theorem cmp_one (k : Int) (a b : Val) : (cmpV k a b = 1) = (a.null = true ∨ b.null = true) := by
  cases hna : a.null
  · cases hnb : b.null
    · have := cmp_two k a.n b.n
      obtain ⟨an, a⟩ := a
      obtain ⟨bn, b⟩ := b
      simp at hna hnb; subst hna; subst hnb
      simpa using this
    · simp [cmpV, hnb]
  · simp [cmpV, hna]

theorem FnCompared_tail {h h1 : Heap} {vb : V} {bs : List Byte} (hb : Sl h vb bs) (k1 : Keeps h h1) : ∃ u v h2 s t x f h3 w1 h4 w2 h5 g, call p 19 [vb] h1 = some (.tup [vv u, vv v], h2) ∧ call p 20 [vv u, vv v] h2 = some (.tup [.bool s, .bool t], h2) ∧ call p 21 [vv u, vv v] h2 = some (.tup [.bool s, .bool t], h2) ∧
    call p 22 [vb] h2 = some (.tup [vv x, f], h3) ∧ call p 18 [vv x, f] h3 = some (.tup [w1, .bool g], h4) ∧ call p 23 [vv x, f] h4 = some (.tup [w2, .bool g], h5) ∧ call p 24 [w1, w2] h5 = some (.bool true, h5) := by
  obtain ⟨_, h2, e2, u, v, rfl, k2⟩ := DrawSameValue_ok (hb.keeps k1)
  obtain ⟨_, h3, e3, x, f, xs, rfl, hs, k3⟩ := DrawFillsOf_ok (hb.keeps (k1.trans k2))
  obtain ⟨_, h4, e4, w1, rfl, hs1, k4⟩ := FillsOf_ok hs x
  obtain ⟨_, h5, e5, w2, rfl, hs2, k5⟩ := FillsOfS_ok (hs.keeps k4) x
  have hsr : ∃ s t, sameR u v = .tup [.bool s, .bool t] := by
    unfold sameR; split
    · exact ⟨_, _, rfl⟩
    · exact ⟨_, _, rfl⟩
  obtain ⟨s, t, hst⟩ := hsr
  refine ⟨u, v, h2, s, t, x, f, h3, w1, h4, w2, h5, _, e2, by rw [SameValue_eq, hst], by rw [SameValueS_eq, hst], e3, e4, e5, ?_⟩
  rw [sameInts_eq (hs1.keeps k5) hs2]; simp

theorem FnCompared_ok {h : Heap} {va vb : V} {as bs : List Byte} (ha : Sl h va as) (hb : Sl h vb bs) : ∃ r h', call p 14 [va, vb] h = some (r, h') ∧ r = .bool true := by
  refine go (fn := g14) rfl rfl fun R hR => ?_
  have hR' : ∀ h', R (.bool true) h' := fun h' => hR _ _ rfl
  by_cases hl : (1048576 : Int) < IntKind.i64.wrap ((as.length : Int) + bs.length)
  · simp [g14, ha.len, hb.len, hl]
    exact hR' _
  obtain ⟨_, h1, e1, k, x, y, rfl, k1⟩ := DrawCompare_ok ha
  by_cases hT : (0 ≤ k ∧ k ≤ 2) ∧ okV x = true ∧ okV y = true
  · have hs1 : Sl (h1 ++ [⟨.own, [vi (-1), vi 0, vi 1, vi 2, vi 3]⟩]) (.slice h1.length 0 5 (.k 5)) [-1, 0, 1, 2, 3] := Sl.lit _ 5 rfl _ rfl _ (by decide)
    obtain ⟨_, h2, e2, X, rfl, hX, k2⟩ := FillsOf_ok hs1 x
    have hs2 : Sl (h2 ++ [⟨.own, [vi 2, vi (-1), vi 3, vi 0, vi 1]⟩]) (.slice h2.length 0 5 (.k 5)) [2, -1, 3, 0, 1] := Sl.lit _ 5 rfl _ rfl _ (by decide)
    obtain ⟨_, h3, e3, Y, rfl, hY, k3⟩ := FillsOf_ok hs2 y
    have f1 : fillB x [-1, 0, 1, 2, 3] = true := by simp [fillB, hT.2.1]
    have f2 : fillB y [2, -1, 3, 0, 1] = true := by simp [fillB, hT.2.2]
    rw [f1] at e2
    rw [f2] at e3
    have hX3 : Sl h3 X (fillR x [-1, 0, 1, 2, 3]) := hX.keeps ((Keeps.append h2 _).trans k3)
    obtain ⟨u, v, h4, s, t, z, f, h5, w1, h6, w2, h7, g, t1, t2, t3, t4, t5, t6, t7⟩ := FnCompared_tail hb (k1.trans ((Keeps.append h1 [⟨.own, [vi (-1), vi 0, vi 1, vi 2, vi 3]⟩]).trans (k2.trans ((Keeps.append h2 [⟨.own, [vi 2, vi (-1), vi 3, vi 0, vi 1]⟩]).trans k3))))
    have hcc : call p 16 [vi k, vv x, vv y] h1 = some (.tup [vi (cmpV k x y), .bool true], h1) := by rw [Compare_eq, cmpR, if_pos hT]
    have hcs : call p 17 [vi k, vv x, vv y] h1 = some (.tup [vi (cmpV k x y), .bool true], h1) := by rw [CompareS_eq, cmpR, if_pos hT]
    have h1one := cmp_one k x y
    have hfit := fits_all (k := k) (a := x) (b := y) (l := [-1, 0, 1, 2, 3]) (m := [2, -1, 3, 0, 1]) hT.2.1 hT.2.2 (by simp) (by simp)
    generalize cmpV k x y = c at hcc hcs h1one hfit
    simp [g14, ha.len, hb.len, hl, e1, hcc, hcs, e2, e3, hX3.len]
    refine g14_outer (a := x) (b := y) (vb := vb) hT.1 hX3 hY hfit ⟨by simp, by simp, by simp, by simp, by simp [upd], by simp [upd], by simp, by simp, by simp, by simp, rfl⟩ (by simp) fun s' hI => ?_
    have h6 := hI.l6
    have h7 := hI.l7
    cases hx : x.null <;> cases hy : y.null <;> rw [hx] at h6 <;> rw [hy] at h7 <;> simp [hx, hy] at h1one <;>
      simp [hI.g8, hI.g6, hI.g7, h6, h7, hI.g1, hI.gh, h1one, t1, t2, t3, t4, t5, t6, t7, upd, fillL] <;> cases s <;> cases t <;> cases g <;> simp [hR', t7]
  · obtain ⟨u, v, h4, s, t, z, f, h5, w1, h6, w2, h7, g, t1, t2, t3, t4, t5, t6, t7⟩ := FnCompared_tail hb k1
    simp [g14, ha.len, hb.len, hl, e1, Compare_eq, CompareS_eq, cmpR, hT, t1, t2, t3, t4, t5, t6, t7]
    cases s <;> cases t <;> cases g <;> simp [hR', t7]
end GL
