import Derived.IntWalk
import Derived.Test.YtkelbpaegbnahaaGp
/- What the functions of the law do, on the machine. -/
/-! truths -/
namespace GL
open Go

@[simp] theorem within_eq (n lo hi : Int) (h : Heap) : call p 107 [vi n, vi lo, vi hi] h = some (.bool (decide (lo ≤ n ∧ n ≤ hi)), h) := by
  apply W_eq
  refine call_W (fn := g107) rfl rfl ?_
  by_cases h1 : lo ≤ n <;> simp [g107, h1]

@[simp] theorem l1In_eq (n lo hi : Int) (h : Heap) : call p 98 [vi n, vi lo, vi hi] h = some (.bool (decide (lo ≤ n ∧ n ≤ hi)), h) := by
  apply W_eq
  refine call_W (fn := g98) rfl rfl ?_
  by_cases h1 : lo ≤ n <;> simp [g98, h1]

@[simp] theorem isTruth_eq (n : Int) (h : Heap) : call p 87 [vi n] h = some (.bool (decide (0 ≤ n ∧ n ≤ 2)), h) := by
  apply W_eq
  refine call_W (fn := g87) rfl rfl ?_
  simp [g87]

@[simp] theorem l1Truth_eq (n : Int) (h : Heap) : call p 88 [vi n] h = some (.bool (decide (0 ≤ n ∧ n ≤ 2)), h) := by
  apply W_eq
  refine call_W (fn := g88) rfl rfl ?_
  simp [g88]

def isT (n : Int) : Prop := 0 ≤ n ∧ n ≤ 2
instance (n : Int) : Decidable (isT n) := inferInstanceAs (Decidable (_ ∧ _))

@[simp] theorem l1Least_eq (a b : Int) (h : Heap) : call p 89 [vi a, vi b] h = some (vi (min a b), h) := by
  apply W_eq
  refine call_W (fn := g89) rfl rfl ?_
  simp [g89]
  split <;> omega

@[simp] theorem l1Most_eq (a b : Int) (h : Heap) : call p 90 [vi a, vi b] h = some (vi (max a b), h) := by
  apply W_eq
  refine call_W (fn := g90) rfl rfl ?_
  simp [g90]
  split <;> omega

def andR (a b : Int) : V := if isT a ∧ isT b then .tup [vi (min a b), .bool true] else .tup [vi 0, .bool false]
def orR (a b : Int) : V := if isT a ∧ isT b then .tup [vi (max a b), .bool true] else .tup [vi 0, .bool false]
def notR (a : Int) : V := if isT a then .tup [vi (2 - a), .bool true] else .tup [vi 0, .bool false]

theorem AndOf_eq (a b : Int) (h : Heap) : call p 4 [vi a, vi b] h = some (andR a b, h) := by
  apply W_eq
  refine call_W (fn := g4) rfl rfl ?_
  unfold andR isT
  by_cases h1 : 0 ≤ a ∧ a ≤ 2 <;> by_cases h2 : 0 ≤ b ∧ b ≤ 2 <;> simp [g4, h1, h2, -Bool.decide_and]
  omega

theorem AndOfS_eq (a b : Int) (h : Heap) : call p 5 [vi a, vi b] h = some (andR a b, h) := by
  apply W_eq
  refine call_W (fn := g5) rfl rfl ?_
  unfold andR isT
  by_cases h1 : 0 ≤ a ∧ a ≤ 2 <;> by_cases h2 : 0 ≤ b ∧ b ≤ 2 <;> simp [g5, h1, h2, -Bool.decide_and]

theorem OrOf_eq (a b : Int) (h : Heap) : call p 6 [vi a, vi b] h = some (orR a b, h) := by
  apply W_eq
  refine call_W (fn := g6) rfl rfl ?_
  unfold orR isT
  by_cases h1 : 0 ≤ a ∧ a ≤ 2 <;> by_cases h2 : 0 ≤ b ∧ b ≤ 2 <;> simp [g6, h1, h2, -Bool.decide_and]
  omega

theorem OrOfS_eq (a b : Int) (h : Heap) : call p 7 [vi a, vi b] h = some (orR a b, h) := by
  apply W_eq
  refine call_W (fn := g7) rfl rfl ?_
  unfold orR isT
  by_cases h1 : 0 ≤ a ∧ a ≤ 2 <;> by_cases h2 : 0 ≤ b ∧ b ≤ 2 <;> simp [g7, h1, h2, -Bool.decide_and]

theorem NotOf_eq (a : Int) (h : Heap) : call p 8 [vi a] h = some (notR a, h) := by
  apply W_eq
  refine call_W (fn := g8) rfl rfl ?_
  unfold notR isT
  by_cases h1 : 0 ≤ a ∧ a ≤ 2 <;> simp [g8, h1, -Bool.decide_and]
  rw [IntWalk.i64_in] <;> omega

theorem NotOfS_eq (a : Int) (h : Heap) : call p 11 [vi a] h = some (notR a, h) := by
  apply W_eq
  refine call_W (fn := g11) rfl rfl ?_
  unfold notR isT
  by_cases h1 : 0 ≤ a ∧ a ≤ 2 <;> simp [g11, h1, -Bool.decide_and]
  rw [IntWalk.i64_in] <;> omega
end GL
/-! the cursor of the draws -/
namespace GL
open Go

/-- a cursor at block c: what it holds, and how far it has come at most -/
def Cur (h : Heap) (c N : Nat) : Prop := ∃ (v : V) (bs : List Byte) (n : Nat) (sd : Int), h[c]? = some ⟨.own, [v, vi n, .int .u64 sd]⟩ ∧ Sl h v bs ∧ (bs = [] ∨ bOf v < c) ∧ n ≤ N

theorem Cur.mono {h : Heap} {c N M : Nat} (hc : Cur h c N) (hn : N ≤ M) : Cur h c M := by
  obtain ⟨v, bs, n, sd, h1, h2, h3, h4⟩ := hc
  exact ⟨v, bs, n, sd, h1, h2, h3, by omega⟩

theorem Cur.keeps {h h' : Heap} {c N : Nat} (hc : Cur h c N) (hk : Keeps h h') : Cur h' c N := by
  obtain ⟨v, bs, n, sd, h1, h2, h3, h4⟩ := hc
  exact ⟨v, bs, n, sd, hk _ _ h1 (by simp), h2.keeps hk, h3, h4⟩

theorem Cur.lt {h : Heap} {c N : Nat} (hc : Cur h c N) : c < h.length := by
  obtain ⟨_, _, _, _, h1, _⟩ := hc; exact get_lt h1

theorem Cur.keepsP {h h' : Heap} {c N : Nat} {P : Nat → Prop} (hc : Cur h c N) (hk : KeepsP P h h') (hp : ∀ i, i ≤ c → P i) : Cur h' c N := by
  obtain ⟨v, bs, n, sd, h1, h2, h3, h4⟩ := hc
  refine ⟨v, bs, n, sd, hk _ _ (hp _ (Nat.le_refl _)) h1 (by simp), ?_, h3, h4⟩
  refine ⟨h2.1, ?_⟩
  rcases h2.2 with hs | ⟨b, off, cap, hv, hs⟩
  · exact .inl hs
  · refine .inr ⟨b, off, cap, hv, ?_⟩
    rcases hs with hs | ⟨blk, h6, h7, h8⟩
    · exact .inl hs
    · subst hv
      rcases h3 with h5 | h5
      · exact .inl h5
      · exact .inr ⟨blk, hk _ _ (hp _ (Nat.le_of_lt h5)) h6 h7, h7, h8⟩

theorem Cur.set {h : Heap} {c N n : Nat} {v : V} {bs : List Byte} {nb : Blk} {sd sd' : Int} (h1 : h[c]? = some ⟨.own, [v, vi n, .int .u64 sd]⟩) (h2 : Sl h v bs) (h3 : bs = [] ∨ bOf v < c) (hn : n ≤ N)
    (hb : nb = ⟨.own, [v, vi (n + 1 : Nat), .int .u64 sd']⟩) : Cur (h.set c nb) c (N + 1) := by
  subst hb
  exact ⟨v, bs, n + 1, sd', by simp [get_lt h1], h2.but (h3.imp_right Nat.ne_of_lt) (KeepsBut.set _ _ _), h3, by omega⟩

theorem wrap_i64_nat (n : Nat) (h : n < 2 ^ 63) : IntKind.i64.wrap (n : Int) = n := IntWalk.i64_in _ (by omega)

theorem mod_byte (k : Nat) : ∃ x : Nat, x ≤ 255 ∧ IntKind.i64.wrap (IntKind.u64.wrap ((k &&& 255 % 2 ^ IntKind.u64.bits : Nat) : Int)) = x := by
  have h1 : 255 % 2 ^ IntKind.u64.bits = 2 ^ 8 - 1 := by decide
  refine ⟨k % 256, by omega, ?_⟩
  rw [h1, Nat.and_two_pow_sub_one_eq_mod, IntWalk.u64_in _ (by omega), IntWalk.i64_in _ (by omega)]

theorem next_ok {h : Heap} {c N : Nat} (hc : Cur h c N) (hN : N < 2 ^ 62) : ∃ v h', call p 140 [.ptr c 0] h = some (v, h') ∧ ∃ x : Nat, v = vi x ∧ x ≤ 255 ∧ Cur h' c (N + 1) ∧ KeepsBut c h h' ∧ h'.length = h.length := by
  obtain ⟨v, bs, n, sd, h1, h2, h3, h4⟩ := hc
  refine go (fn := g140) rfl rfl fun R hR => ?_
  have hlt := get_lt h1
  have hw : IntKind.i64.wrap ((n : Int) + 1) = (n + 1 : Nat) := by rw [IntWalk.i64_in] <;> omega
  by_cases hn : n < bs.length
  · have hb0 := bs[n].lt
    have hw2 : IntKind.i64.wrap (bs[n].n : Int) = bs[n].n := IntWalk.i64_in _ (by omega)
    have hle : ((n : Int) + 1) ≤ bs.length := by omega
    simp [g140, rdH_at h1, wrH_at h1, rdH_set hlt, wrH_set hlt, h2.len, h2.idx, hn, h2.loadB, hw, hw2, hle]
    exact hR _ _ ⟨bs[n].n, rfl, by omega, Cur.set h1 h2 h3 h4 rfl, KeepsBut.set _ _ _, by simp⟩
  · have hle : ¬ ((n : Int) + 1) ≤ bs.length := by omega
    simp [g140, rdH_at h1, wrH_at h1, rdH_set hlt, wrH_set hlt, h2.len, hn, hw, hle, -Int.natCast_emod]
    obtain ⟨x, hx1, hx2⟩ := mod_byte (((IntKind.u64.wrap (IntKind.u64.wrap (IntKind.u64.wrap (sd * 6364136223846793005) + IntKind.u64.wrap 0) + 1442695040888963407)).fdiv (2 ^ min 40 IntKind.u64.bits) % 2 ^ IntKind.u64.bits).toNat)
    exact hR _ _ ⟨x, by rw [hx2], hx1, Cur.set h1 h2 h3 h4 rfl, KeepsBut.set _ _ _, by simp⟩

theorem pick_ok {h : Heap} {c N n : Nat} (hc : Cur h c N) (hN : N < 2 ^ 61) (hn : n < 2 ^ 40) :
    ∃ v h', call p 91 [.ptr c 0, vi n] h = some (v, h') ∧ ∃ x : Nat, v = vi x ∧ x < max n 1 ∧ Cur h' c (N + 2) ∧ KeepsBut c h h' ∧ h'.length = h.length := by
  refine go (fn := g91) rfl rfl fun R hR => ?_
  by_cases h1 : n ≤ 1
  · have h1' : (n : Int) ≤ 1 := by omega
    simp [g91, h1']
    exact hR _ _ ⟨0, rfl, by omega, hc.mono (by omega), KeepsBut.refl _ _, rfl⟩
  · have h1' : ¬ (n : Int) ≤ 1 := by omega
    obtain ⟨_, h2, e1, x, rfl, hx, c1, k1, l1⟩ := next_ok hc (by omega)
    have h0 : ¬ n = 0 := by omega
    by_cases h2 : 200 < n
    · have h2' : (200 : Int) < n := by omega
      obtain ⟨_, h3, e2, y, rfl, hy, c2, k2, l2⟩ := next_ok c1 (by omega)
      have w1 : IntKind.i64.wrap ((x : Int) * 256) = (x * 256 : Nat) := by rw [IntWalk.i64_in] <;> omega
      have w2 : IntKind.i64.wrap (((x * 256 : Nat) : Int) + y) = (x * 256 + y : Nat) := by rw [IntWalk.i64_in] <;> omega
      have w3 : (((x * 256 + y : Nat) : Int)).tmod n = ((x * 256 + y) % n : Nat) := by rw [Int.tmod_eq_emod_of_nonneg (by omega)]; rfl
      simp [g91, h1', e1, h2', e2, w1, w2, h0, w3, -Int.natCast_mul, -Int.natCast_add, -Int.natCast_emod]
      exact hR _ _ ⟨(x * 256 + y) % n, rfl, by have := Nat.mod_lt (x * 256 + y) (show n > 0 by omega); omega, c2, k1.trans k2, by omega⟩
    · have h2' : ¬ (200 : Int) < n := by omega
      have w3 : ((x : Int)).tmod n = (x % n : Nat) := by rw [Int.tmod_eq_emod_of_nonneg (by omega)]; rfl
      simp [g91, h1', e1, h2', h0, w3, -Int.natCast_emod]
      exact hR _ _ ⟨x % n, rfl, by have := Nat.mod_lt x (show n > 0 by omega); omega, c1.mono (by omega), k1, by omega⟩

theorem one_ok {h : Heap} {c N n : Nat} (hc : Cur h c N) (hN : N < 2 ^ 61) (hn : n < 2 ^ 40) :
    ∃ v h', call p 92 [.ptr c 0, vi n] h = some (v, h') ∧ ∃ b : Bool, v = .bool b ∧ Cur h' c (N + 2) ∧ KeepsBut c h h' ∧ h'.length = h.length := by
  obtain ⟨_, h2, e1, x, rfl, hx, c1, k1, l1⟩ := pick_ok hc hN hn
  refine go (fn := g92) rfl rfl fun R hR => ?_
  simp [g92, e1]
  exact hR _ _ ⟨_, rfl, c1, k1, l1⟩

theorem among_ok {h : Heap} {c N : Nat} {v : V} {xs : List Int} (hc : Cur h c N) (hN : N < 2 ^ 61) (hs : Sl h v xs) (hb : bOf v ≠ c) (h0 : 0 < xs.length) (hn : xs.length < 2 ^ 40) :
    ∃ r h', call p 93 [.ptr c 0, v] h = some (r, h') ∧ ∃ x ∈ xs, r = vi x ∧ Cur h' c (N + 2) ∧ KeepsBut c h h' ∧ h'.length = h.length := by
  obtain ⟨_, h2, e1, i, rfl, hi, c1, k1, l1⟩ := pick_ok hc hN hn
  have hs2 := hs.but (.inr hb) k1
  have hi' : i < xs.length := by omega
  refine go (fn := g93) rfl rfl fun R hR => ?_
  simp [g93, hs.len, e1, hs2.idx, hi', hs2.loadI]
  exact hR _ _ ⟨xs[i], by simp, rfl, c1, k1, l1⟩
end GL
namespace GL
open Go

theorem truth_ok {h : Heap} {c N : Nat} (hc : Cur h c N) (hN : N < 2 ^ 61) :
    ∃ r h', call p 86 [.ptr c 0] h = some (r, h') ∧ ∃ x : Int, r = vi x ∧ Cur h' c (N + 2) ∧ KeepsBut c h h' ∧ h.length ≤ h'.length := by
  have hlt : c < h.length := by obtain ⟨_, _, _, _, h1, _⟩ := hc; exact get_lt h1
  let l : List Int := [0, 0, 1, 1, 2, 2, -1, 3]
  let h1 : Heap := h ++ [⟨.own, flats l⟩]
  have hs : Sl h1 (.slice h.length 0 l.length (.k 8)) l := Sl.whole _ (get_last _ _) (by simp) rfl (by decide)
  obtain ⟨_, h2, e1, x, hx, rfl, c1, k1, l1⟩ := among_ok (hc.keeps (Keeps.append h _)) hN hs (by simp [bOf]; omega) (by decide) (by decide)
  refine go (fn := g86) rfl rfl fun R hR => ?_
  simp [h1, l, flats, Flat.cells] at e1
  simp [g86, e1]
  exact hR _ _ ⟨x, rfl, c1, ((Keeps.append h _).but c).trans k1, by simp [h1] at l1; omega⟩

theorem drawTwo {h : Heap} {v : V} {bs : List Byte} (hs : Sl h v bs) : Cur (h ++ [⟨.own, [v, vi 0, .int .u64 0]⟩]) h.length 0 := by
  refine ⟨v, bs, 0, 0, by simp, hs.keeps (Keeps.append h _), ?_, Nat.le_refl _⟩
  rcases hs.2 with ⟨_, h1⟩ | ⟨b, off, cap, rfl, h1 | ⟨blk, h1, _⟩⟩
  · exact .inl h1
  · exact .inl h1
  · exact .inr (get_lt h1)

theorem DrawAndOf_ok {h : Heap} {v : V} {bs : List Byte} (hs : Sl h v bs) : ∃ r h', call p 3 [v] h = some (r, h') ∧ ∃ x y : Int, r = .tup [vi x, vi y] ∧ Keeps h h' := by
  obtain ⟨_, h1, e1, x, rfl, c1, k1, l1⟩ := truth_ok (drawTwo hs) (by decide)
  obtain ⟨_, h2, e2, y, rfl, c2, k2, l2⟩ := truth_ok c1 (by decide)
  refine go (fn := g3) rfl rfl fun R hR => ?_
  simp [g3, fillL, e1, e2, hs.cells, hs.cell]
  exact hR _ _ ⟨x, y, rfl, KeepsBut.keeps (Keeps.append h _) (Nat.le_refl _) (k1.trans k2)⟩

theorem DrawNotOf_ok {h : Heap} {v : V} {bs : List Byte} (hs : Sl h v bs) : ∃ r h', call p 10 [v] h = some (r, h') ∧ ∃ x : Int, r = vi x ∧ Keeps h h' := by
  obtain ⟨_, h1, e1, x, rfl, c1, k1, l1⟩ := truth_ok (drawTwo hs) (by decide)
  refine go (fn := g10) rfl rfl fun R hR => ?_
  simp [g10, fillL, e1, hs.cells, hs.cell]
  exact hR _ _ ⟨x, rfl, KeepsBut.keeps (Keeps.append h _) (Nat.le_refl _) k1⟩

theorem l1All_eq {h : Heap} {v : V} {xs : List Int} (hs : Sl h v xs) (lo hi : Int) : call p 94 [v, vi lo, vi hi] h = some (.bool (xs.all fun n => decide (lo ≤ n ∧ n ≤ hi)), h) := by
  refine go_eq (fn := g94) rfl rfl fun R hR => ?_
  simp [g94, hs.len]
  refine Wc_up xs.length (fun i s => s.σ 9 = .v v ∧ s.σ 10 = .v (vi xs.length) ∧ s.σ 11 = .v (vi i) ∧ s.σ 1 = .v (vi lo) ∧ s.σ 2 = .v (vi hi) ∧ s.h = h ∧ ∀ x ∈ xs.take i, lo ≤ x ∧ x ≤ hi) 0 (by simp) fun i s ⟨h9, h10, h11, h1, h2, hh, hall⟩ => ?_
  by_cases hn : i < xs.length
  · by_cases hx : lo ≤ xs[i] ∧ xs[i] ≤ hi
    · have h3 : ∀ x ∈ xs.take (i + 1), lo ≤ x ∧ x ≤ hi := by
        rw [List.take_succ_eq_append_getElem hn]; intro x hx'
        rcases List.mem_append.1 hx' with h | h
        · exact hall x h
        · simp at h; subst h; exact hx
      simp [g94_0, h9, h10, h11, h1, h2, hh, hn, hs.idx, hs.loadI, hx, hs.step hn]
      exact h3
    · have h3 : (xs.all fun n => decide (lo ≤ n ∧ n ≤ hi)) = false := by
        rw [List.all_eq_false]; exact ⟨xs[i], by simp, by simpa using hx⟩
      rw [h3] at hR
      simp [g94_0, h9, h10, h11, h1, h2, hh, hn, hs.idx, hs.loadI, hx, -Bool.decide_and]
      exact hR
  · have h3 : (xs.all fun n => decide (lo ≤ n ∧ n ≤ hi)) = true := by
      rw [List.all_eq_true]; intro x hx; rw [List.take_of_length_le (by omega)] at hall; simpa using hall x hx
    rw [h3] at hR
    simp [g94_0, h10, h11, hh, hn]
    exact hR
end GL
namespace GL
open Go

def allR (xs : List Int) : V := if xs.length ≤ 20 ∧ (xs.all fun n => decide (0 ≤ n ∧ n ≤ 2)) = true then .tup [vi (xs.foldl min 2), .bool true] else .tup [vi 0, .bool false]

theorem foldl_take {xs : List Int} {i : Nat} (h : i < xs.length) (a : Int) : (xs.take (i + 1)).foldl min a = min ((xs.take i).foldl min a) xs[i] := by
  rw [List.take_succ_eq_append_getElem h, List.foldl_append]; rfl

theorem AllOfS_eq {h : Heap} {v : V} {xs : List Int} (hs : Sl h v xs) : call p 13 [v] h = some (allR xs, h) := by
  refine go_eq (fn := g13) rfl rfl fun R hR => ?_
  unfold allR at hR
  by_cases h1 : xs.length ≤ 20
  · have h1' : ¬ (20 : Int) < xs.length := by omega
    cases h2 : xs.all fun n => decide (0 ≤ n ∧ n ≤ 2) with
    | false =>
      simp [g13, hs.len, h1', l1All_eq hs, h2, -Bool.decide_and]
      rw [h2] at hR; simpa [h1] using hR
    | true =>
      simp [g13, hs.len, h1', l1All_eq hs, h2, -Bool.decide_and]
      refine Wc_up xs.length (fun i s => s.σ 15 = .v v ∧ s.σ 16 = .v (vi xs.length) ∧ s.σ 17 = .v (vi i) ∧ s.σ 4 = .v (vi ((xs.take i).foldl min 2)) ∧ s.h = h) 0 (by simp) fun i s ⟨h15, h16, h17, h4, hh⟩ => ?_
      by_cases hn : i < xs.length
      · simp [g13_0, h15, h16, h17, h4, hh, hn, hs.idx, hs.loadI, hs.step hn, foldl_take hn]
      · rw [List.take_of_length_le (by omega)] at h4
        simp [g13_0, h16, h17, h4, hh, hn]
        rw [h2] at hR; simpa [h1] using hR
  · have h1' : (20 : Int) < xs.length := by omega
    simp [g13, hs.len, h1']
    simpa [h1] using hR

theorem AllOf_eq {h : Heap} {v : V} {xs : List Int} (hs : Sl h v xs) : call p 9 [v] h = some (allR xs, h) := by
  refine go_eq (fn := g9) rfl rfl fun R hR => ?_
  unfold allR at hR
  by_cases h1 : xs.length ≤ 20
  · have h1' : ¬ (20 : Int) < xs.length := by omega
    simp [g9, hs.len, h1']
    refine Wc_up xs.length (fun i s => s.σ 10 = .v v ∧ s.σ 11 = .v (vi xs.length) ∧ s.σ 12 = .v (vi i) ∧ s.σ 4 = .v (vi ((xs.take i).foldl min 2)) ∧ s.h = h ∧ ∀ x ∈ xs.take i, 0 ≤ x ∧ x ≤ 2) 0 (by simp) fun i s ⟨h10, h11, h12, h4, hh, hall⟩ => ?_
    by_cases hn : i < xs.length
    · by_cases hx : 0 ≤ xs[i] ∧ xs[i] ≤ 2
      · have h3 : ∀ x ∈ xs.take (i + 1), 0 ≤ x ∧ x ≤ 2 := by
          rw [List.take_succ_eq_append_getElem hn]; intro x hx'
          rcases List.mem_append.1 hx' with h | h
          · exact hall x h
          · simp at h; subst h; exact hx
        simp [g9_0, h10, h11, h12, h4, hh, hn, hs.idx, hs.loadI, hx, hs.step hn, foldl_take hn]
        refine ⟨?_, h3⟩
        split <;> omega
      · have h3 : (xs.all fun n => decide (0 ≤ n ∧ n ≤ 2)) = false := by
          rw [List.all_eq_false]; exact ⟨xs[i], by simp, by simpa using hx⟩
        simp [g9_0, h10, h11, h12, h4, hh, hn, hs.idx, hs.loadI, hx, -Bool.decide_and]
        rw [h3] at hR; simpa using hR
    · have h3 : (xs.all fun n => decide (0 ≤ n ∧ n ≤ 2)) = true := by
        rw [List.all_eq_true]; intro x hx; rw [List.take_of_length_le (by omega)] at hall; simpa using hall x hx
      rw [List.take_of_length_le (by omega)] at h4
      simp [g9_0, h11, h12, h4, hh, hn]
      rw [h3] at hR; simpa [h1] using hR
  · have h1' : (20 : Int) < xs.length := by omega
    simp [g9, hs.len, h1']
    simpa [h1] using hR
end GL
namespace GL
open Go

theorem KeepsBut.out {c lo : Nat} {h h' : Heap} {α : Type} [Flat α] {v : V} {xs : List α} (hk : KeepsBut c h h') (ho : Out lo h v xs) (hc : c < lo) (hl : h.length ≤ h'.length) : Out lo h' v xs :=
  ho.keeps (P := fun i => i ≠ c) (fun b blk hb h1 h2 => hk b blk hb h1 h2) (fun i hi => by have := (ho.ge hi).1; omega) hl

theorem Keeps.out {lo : Nat} {h h' : Heap} {α : Type} [Flat α] {v : V} {xs : List α} (hk : Keeps h h') (ho : Out lo h v xs) (hl : h.length ≤ h'.length) : Out lo h' v xs :=
  ho.keeps (P := fun _ => True) (fun b blk _ h1 h2 => hk b blk h1 h2) (fun _ _ => trivial) hl

/-- nothing that stood at first is touched -/
theorem Keeps.far {n : Nat} {h0 h h' : Heap} {P : Nat → Prop} (h1 : Keeps h0 h) (hk : KeepsP P h h') (hn : h0.length ≤ n) (hp : ∀ i, i < n → P i) : Keeps h0 h' := fun i blk hi hl =>
  hk i blk (hp i (by have := get_lt hi; omega)) (h1 i blk hi hl) hl
theorem KeepsBut.P {c : Nat} {h h' : Heap} (hk : KeepsBut c h h') : KeepsP (fun i => i ≠ c) h h' := fun b blk hb h1 h2 => hk b blk hb h1 h2

theorem Sl.lit {h : Heap} {α : Type} [Flat α] (l : List α) (n : Nat) (hn : n = l.length) (cs : List V) (hc : cs = flats l) (cap : Cap) (hb : l.length < 2 ^ 63) : Sl (h ++ [⟨.own, cs⟩]) (.slice h.length 0 n cap) l := by
  subst hn; subst hc
  exact Sl.whole _ (get_last _ _) (by simp) rfl hb

def DI (h0 : Heap) (k : Nat) (s : S) : Prop :=
  k ≤ 30 ∧ s.σ 5 = .v (vi k) ∧ s.σ 3 = .v (.ptr h0.length 0) ∧ ∃ v xs, s.σ 4 = .v v ∧ Out (h0.length + 1) s.h v (xs : List Int) ∧ xs.length ≤ 30 - k ∧ Cur s.h h0.length (1000 - 2 * k) ∧ Keeps h0 s.h

theorem g12_loop {h0 : Heap} {k : Nat} {s : S} {K : Ex → S → Prop} (hI : DI h0 k s) (hK : ∀ s', DI h0 0 s' → K (.exit 0) s') : Wc p (.loop g12_0) s K := by
  refine Wc_dnJ (DI h0) k hI fun k s ⟨hk, h5, h3, v, xs, h4, ho, hx, hc, hkp⟩ J hJ => ?_
  by_cases h0k : 0 < k
  · have hlt := hc.lt
    obtain ⟨_, h2, e2, x, hx2, rfl, c2, k2, l2⟩ := among_ok (v := .slice s.h.length 0 5 (.k 5)) (hc.keeps (Keeps.append s.h _)) (by omega) (Sl.lit [0, 1, 2, 2, 2] 5 rfl [vi 0, vi 1, vi 2, vi 2, vi 2] rfl _ (by decide)) (by simp [bOf]; omega) (by decide) (by decide)
    have hl2 : s.h.length + 1 = h2.length := by simp at l2; omega
    have o2 : Out (h0.length + 1) h2 v xs := k2.out ((Keeps.append s.h _).out ho (by simp)) (by omega) (by simp; omega)
    have o3 : Out (h0.length + 1) (h2 ++ [⟨.own, [vi x]⟩]) v xs := (Keeps.append h2 _).out o2 (by simp)
    obtain ⟨v', h4', e4, o4, k4, l4, b4⟩ := o3.app [x] (by simp) (bytes := 8) (by decide) (by simp; omega) (k := 1) rfl (n := 1) rfl (ys := [vi x]) rfl
    have w : IntKind.i64.wrap ((k : Int) - 1) = (k - 1 : Nat) := by rw [IntWalk.i64_in] <;> omega
    simp [g12_0, h5, h3, h4, h0k, e2, rdS_last, e4, w]
    refine hJ (k - 1) _ (by omega) ⟨by omega, by simp, by simp [h3], v', xs ++ [x], by simp, o4, by simp; omega, ?_, ?_⟩
    · refine (Cur.keepsP (c2.keeps (Keeps.append h2 _)) k4 fun i hi hv => ?_).mono (by omega)
      have := (o3.ge hv).1; omega
    · refine Keeps.far (n := h0.length) ((Keeps.far (n := h0.length) (hkp.trans (Keeps.append s.h _)) k2.P (Nat.le_refl _) fun i hi => by omega).trans (Keeps.append h2 _)) k4 (Nat.le_refl _) fun i hi hv => ?_
      have := (o3.ge hv).1; omega
  · have : k = 0 := by omega
    subst this
    simp [g12_0, h5, h3, h4]
    exact hK _ ⟨by omega, by simp [h5], by simp [h3], v, xs, by simp [h4], ho, hx, hc, hkp⟩

theorem DI.start {h0 h : Heap} {σ : Nat → T} {L : Nat → Nat × List V} {wt : Nat → Option (ROp × List T × V)} {fl : Nat → Bool} {b N n : Nat} (hn : n ≤ 30) (h5 : σ 5 = .v (vi n)) (h3 : σ 3 = .v (.ptr h0.length 0)) (h4 : σ 4 = .v .nils)
    (hc : Cur h h0.length N) (hN : N ≤ 900) (hk : Keeps h0 h) : DI h0 n ⟨σ, L, h, wt, fl, b⟩ :=
  ⟨hn, h5, h3, .nils, [], h4, Out.nil (by have := hc.lt; show h0.length + 1 ≤ h.length; omega), by simp, hc.mono (by omega), hk⟩

theorem DrawAllOf_ok {h : Heap} {v : V} {bs : List Byte} (hs : Sl h v bs) : ∃ r h', call p 12 [v] h = some (r, h') ∧ ∃ xs : List Int, Sl h' r xs ∧ Keeps h h' := by
  have c0 := drawTwo hs
  obtain ⟨_, h1, e1, n, rfl, hn, c1, k1, l1⟩ := pick_ok (n := 5) c0 (by decide) (by decide)
  obtain ⟨_, h2, e2, b, rfl, c2, k2, l2⟩ := one_ok (n := 20) c1 (by decide) (by decide)
  obtain ⟨_, h3, e3, m, rfl, hm, c3, k3, l3⟩ := pick_ok (n := 2) c2 (by decide) (by decide)
  have q1 : Keeps h h2 := KeepsBut.keeps (Keeps.append h _) (Nat.le_refl _) (k1.trans k2)
  have q2 : Keeps h h3 := KeepsBut.keeps q1 (Nat.le_refl _) k3
  refine go (fn := g12) rfl rfl fun R hR => ?_
  have e1' : call p 91 [.ptr h.length 0, vi 5] (h ++ [⟨.own, [v, vi 0, .int .u64 0]⟩]) = some (vi n, h1) := e1
  have e2' : call p 92 [.ptr h.length 0, vi 20] h1 = some (.bool b, h2) := e2
  have e3' : call p 91 [.ptr h.length 0, vi 2] h2 = some (vi m, h3) := e3
  have w : IntKind.i64.wrap (20 + (m : Int)) = (20 + m : Nat) := by rw [IntWalk.i64_in] <;> omega
  cases b <;> simp [g12, fillL, e1', e2', e3', hs.cells, hs.cell, w]
  case' false => refine g12_loop (h0 := h) (k := n) (DI.start (by omega) (by simp) (by simp) (by simp) c2 (by omega) q1) ?_
  case' true => refine g12_loop (h0 := h) (k := 20 + m) (DI.start (by omega) (by simp) (by simp) (by simp) c3 (by omega) q2) ?_
  all_goals
    rintro s' ⟨_, _, g3, v', xs, g4, ho, hx, hc, hkp⟩
    obtain ⟨_, h4, e4, b2, rfl, c4, k4, l4⟩ := one_ok (n := 20) hc (by omega) (by decide)
    have e4' : call p 92 [.ptr h.length 0, vi 20] s'.h = some (.bool b2, h4) := e4
    have o4 : Out (h.length + 1) h4 v' xs := k4.out ho (by omega) (by omega)
    have q4 : Keeps h h4 := Keeps.far (n := h.length) hkp k4.P (Nat.le_refl _) fun i hi => by omega
    by_cases hz : 0 < xs.length
    · obtain ⟨h5, e5, o5, k5, l5⟩ := o4.set hz 3 (o := oOf v') (cs := [vi 3]) (by simp) rfl
      have hi := o4.sl.idx 1 .i64 0 hz
      cases b2
      · simp [g3, g4, ho.sl.len, hz, e4']
        exact hR _ _ ⟨xs, o4.sl, q4⟩
      · simp at hi
        simp [g3, g4, ho.sl.len, hz, e4', hi, e5]
        refine hR _ _ ⟨_, o5.sl, Keeps.far (n := h.length) q4 k5 (Nat.le_refl _) fun i hi hv => ?_⟩
        have := (o4.ge hv).1; omega
    · simp [g3, g4, ho.sl.len, hz]
      exact hR _ _ ⟨xs, ho.sl, hkp⟩
end GL
namespace GL
open Go

theorem notR_form (n : Int) : ∃ a t, notR n = .tup [vi a, .bool t] := by
  unfold notR; split
  · exact ⟨_, _, rfl⟩
  · exact ⟨_, _, rfl⟩
theorem allR_form (xs : List Int) : ∃ a t, allR xs = .tup [vi a, .bool t] := by
  unfold allR; split
  · exact ⟨_, _, rfl⟩
  · exact ⟨_, _, rfl⟩

theorem FnTruths_tail {h h1 : Heap} {vb : V} {bs : List Byte} (hb : Sl h vb bs) (k1 : Keeps h h1) : ∃ n h2 a t v h3 b u, call p 10 [vb] h1 = some (vi n, h2) ∧ call p 8 [vi n] h2 = some (.tup [vi a, .bool t], h2) ∧ call p 11 [vi n] h2 = some (.tup [vi a, .bool t], h2) ∧
    call p 12 [vb] h2 = some (v, h3) ∧ call p 9 [v] h3 = some (.tup [vi b, .bool u], h3) ∧ call p 13 [v] h3 = some (.tup [vi b, .bool u], h3) := by
  obtain ⟨_, h2, e2, n, rfl, k2⟩ := DrawNotOf_ok (hb.keeps k1)
  obtain ⟨v, h3, e3, xs, hs, k3⟩ := DrawAllOf_ok (hb.keeps (k1.trans k2))
  obtain ⟨a, t, hn⟩ := notR_form n
  obtain ⟨b, u, ha⟩ := allR_form xs
  exact ⟨n, h2, a, t, v, h3, b, u, e2, by rw [NotOf_eq, hn], by rw [NotOfS_eq, hn], e3, by rw [AllOf_eq hs, ha], by rw [AllOfS_eq hs, ha]⟩

theorem FnTruths_ok {h : Heap} {va vb : V} {as bs : List Byte} (ha : Sl h va as) (hb : Sl h vb bs) : ∃ r h', call p 2 [va, vb] h = some (r, h') ∧ r = .bool true := by
  refine go (fn := g2) rfl rfl fun R hR => ?_
  have hR' : ∀ h', R (.bool true) h' := fun h' => hR _ _ rfl
  by_cases hl : (1048576 : Int) < IntKind.i64.wrap ((as.length : Int) + bs.length)
  · simp [g2, ha.len, hb.len, hl]
    exact hR' _
  obtain ⟨_, h1, e1, x, y, rfl, k1⟩ := DrawAndOf_ok ha
  by_cases hT : isT x ∧ isT y
  · obtain ⟨hx, hy⟩ := id hT
    have hx2 : isT (2 - x) := by unfold isT at *; omega
    have hy2 : isT (2 - y) := by unfold isT at *; omega
    have hm2 : isT (min x y) := by unfold isT at *; omega
    have hs : Sl (h1 ++ [⟨.own, [vi x, vi y]⟩]) (.slice h1.length 0 2 (.k 2)) [x, y] := Sl.lit [x, y] 2 rfl _ rfl _ (by simp)
    have hall : allR [x, y] = .tup [vi (min x y), .bool true] := by
      unfold isT at hx hy
      have : min (min 2 x) y = min x y := by omega
      simp [allR, hx, hy, this]
    have hr : max (2 - x) (2 - y) = 2 - min x y := by omega
    obtain ⟨n, h2, a, t, v, h3, b, u, f1, f2, f3, f4, f5, f6⟩ := FnTruths_tail hb (k1.trans (Keeps.append h1 [⟨.own, [vi x, vi y]⟩]))
    simp [g2, ha.len, hb.len, hl, e1, AndOf_eq, AndOfS_eq, OrOf_eq, OrOfS_eq, NotOf_eq, andR, orR, notR, hx, hy, hx2, hy2, hm2, hr, AllOf_eq hs, hall]
    obtain ⟨m, hm⟩ : ∃ m, m = min x y := ⟨_, rfl⟩
    refine Wc_upJ 2 (fun i s => i ≤ 2 ∧ s.σ 25 = .v (vi (2 * i : Nat)) ∧ s.σ 5 = .v (vi x) ∧ s.σ 6 = .v (vi y) ∧ s.σ 7 = .v (vi m) ∧ s.σ 1 = .v vb ∧ s.h = h1 ++ [⟨.own, [vi x, vi y]⟩]) 0 (by simp [hm]) fun i s ⟨hi, g25, g5, g6, g7, g1, gh⟩ J hJ => ?_
    by_cases hk : i < 2
    · have hk' : ((2 * i : Nat) : Int) ≤ 2 := by omega
      have w : IntKind.i64.wrap (((2 * i : Nat) : Int) + 2) = (2 * (i + 1) : Nat) := by rw [IntWalk.i64_in] <;> omega
      have hkT : isT ((2 * i : Nat) : Int) := by unfold isT; omega
      have hc : ∀ c d : Int, isT c → isT d → call p 4 [vi c, vi d] s.h = some (.tup [vi (min c d), .bool true], s.h) := fun c d h1 h2 => by rw [AndOf_eq, andR, if_pos ⟨h1, h2⟩]
      have hc2 : ∀ c d : Int, isT c → isT d → min c d = m → call p 4 [vi c, vi d] s.h = some (.tup [vi m, .bool true], s.h) := fun c d h1 h2 e => by rw [hc c d h1 h2, e]
      by_cases hm1 : m = 1
      · subst hm1
        by_cases hx1 : x = 1 <;> by_cases hy1 : y = 1
        · have h3 := hc _ _ hkT hkT
          simp [g2_0, g25, g5, g6, g7, hk', hx1, hy1, h3, w, -Int.natCast_mul]
          exact hJ _ hk ⟨by omega, by simp, by simp [g5, hx1], by simp [g6, hy1], by simp [g7], by simp [g1], gh⟩
        · have h3 := hc _ _ hkT hy
          simp [g2_0, g25, g5, g6, g7, hk', hx1, hy1, h3, w, -Int.natCast_mul]
          exact hJ _ hk ⟨by omega, by simp, by simp [g5, hx1], by simp [g6], by simp [g7], by simp [g1], gh⟩
        · have h3 := hc _ _ hx hkT
          simp [g2_0, g25, g5, g6, g7, hk', hx1, hy1, h3, w, -Int.natCast_mul]
          exact hJ _ hk ⟨by omega, by simp, by simp [g5], by simp [g6, hy1], by simp [g7], by simp [g1], gh⟩
        · have h3 := hc _ _ hx hy
          simp [g2_0, g25, g5, g6, g7, hk', hx1, hy1, h3, w, -Int.natCast_mul]
          exact hJ _ hk ⟨by omega, by simp, by simp [g5], by simp [g6], by simp [g7], by simp [g1], gh⟩
      · have hx' := hx
        have hy' := hy
        unfold isT at hx' hy'
        by_cases hx1 : x = 1 <;> by_cases hy1 : y = 1
        · omega
        · have h3 := hc2 _ _ hkT hy (by omega)
          simp [g2_0, g25, g5, g6, g7, hk', hx1, hy1, h3, w, hm1, -Int.natCast_mul]
          exact hJ _ hk ⟨by omega, by simp, by simp [g5, hx1], by simp [g6], by simp [g7], by simp [g1], gh⟩
        · have h3 := hc2 _ _ hx hkT (by omega)
          simp [g2_0, g25, g5, g6, g7, hk', hx1, hy1, h3, w, hm1, -Int.natCast_mul]
          exact hJ _ hk ⟨by omega, by simp, by simp [g5], by simp [g6, hy1], by simp [g7], by simp [g1], gh⟩
        · have h3 := hc2 _ _ hx hy (by omega)
          simp [g2_0, g25, g5, g6, g7, hk', hx1, hy1, h3, w, hm1, -Int.natCast_mul]
          exact hJ _ hk ⟨by omega, by simp, by simp [g5], by simp [g6], by simp [g7], by simp [g1], gh⟩
    · have hk' : ¬ ((2 * i : Nat) : Int) ≤ 2 := by omega
      simp [g2_0, g25, g1, gh, hk', f1, f2, f3, f4, f5, f6, -Int.natCast_mul]
      cases t <;> cases u <;> simp [hR']
  · obtain ⟨n, h2, a, t, v, h3, b, u, f1, f2, f3, f4, f5, f6⟩ := FnTruths_tail hb k1
    simp [g2, ha.len, hb.len, hl, e1, AndOf_eq, AndOfS_eq, OrOf_eq, OrOfS_eq, andR, orR, hT, f1, f2, f3, f4, f5, f6]
    cases t <;> cases u <;> simp [hR']
end GL
/-! values -/
namespace GL
open Go

structure Val where
  null : Bool
  n : Int
instance : Flat Val := ⟨2, fun x => [.bool x.null, vi x.n], fun _ => rfl, fun _ => rfl, by decide⟩
/-- a value of its own -/
abbrev vv (x : Val) : V := .agg [.bool x.null, vi x.n]

@[simp] theorem isSmall_eq (n : Int) (h : Heap) : call p 100 [vi n] h = some (.bool (decide (-1000 ≤ n ∧ n ≤ 1000)), h) := by
  refine go_eq (fn := g100) rfl rfl fun R hR => ?_
  simp [g100]
  simpa using hR

def okV (x : Val) : Bool := if x.null then decide (x.n = 0) else decide (-1000 ≤ x.n ∧ x.n ≤ 1000)

@[simp] theorem GoodValue_eq (x : Val) (h : Heap) : call p 25 [vv x] h = some (.bool (okV x), h) := by
  refine go_eq (fn := g25) rfl rfl fun R hR => ?_
  obtain ⟨b, n⟩ := x
  cases b
  · simp [okV] at hR
    simp [g25]
    exact hR
  · simp [okV] at hR
    by_cases h1 : n = 0
    · simp [g25, h1]; simpa [h1] using hR
    · simp [g25, h1]; simpa [h1] using hR

@[simp] theorem GoodValueS_eq (x : Val) (h : Heap) : call p 26 [vv x] h = some (.bool (okV x), h) := by
  refine go_eq (fn := g26) rfl rfl fun R hR => ?_
  obtain ⟨b, n⟩ := x
  by_cases h1 : -1000 ≤ n ∧ n ≤ 1000
  · cases b
    · simp [okV, h1] at hR
      simp [g26, h1, -Bool.decide_and]
      exact hR
    · simp [okV] at hR
      simp [g26, h1, -Bool.decide_and]
      exact hR
  · have h2 : ¬ n = 0 := by omega
    cases b
    · simp [okV, h1, -Bool.decide_and] at hR
      simp [g26, h1, -Bool.decide_and]
      exact hR
    · simp [okV, h2] at hR
      simp [g26, h1, -Bool.decide_and]
      exact hR

@[simp] theorem truth_eq (b : Bool) (h : Heap) : call p 141 [.bool b] h = some (vi (if b = true then 2 else 0), h) := by
  refine go_eq (fn := g141) rfl rfl fun R hR => ?_
  cases b <;> simp [g141] <;> simpa using hR
@[simp] theorem l1Is_eq (b : Bool) (h : Heap) : call p 142 [.bool b] h = some (vi (if b = true then 2 else 0), h) := by
  refine go_eq (fn := g142) rfl rfl fun R hR => ?_
  cases b <;> simp [g142] <;> simpa using hR
@[simp] theorem isKind_eq (n : Int) (h : Heap) : call p 96 [vi n] h = some (.bool (decide (0 ≤ n ∧ n ≤ 2)), h) := by
  refine go_eq (fn := g96) rfl rfl fun R hR => ?_
  simp [g96]
  simpa using hR

/-- how two values compare -/
def cmpV (k : Int) (a b : Val) : Int :=
  if a.null || b.null then 1 else if k = 0 then (if a.n = b.n then 2 else 0) else if k = 1 then (if a.n < b.n then 2 else 0) else (if b.n < a.n then 2 else 0)

@[simp] theorem compare_eq (k : Int) (a b : Val) (h : Heap) : call p 97 [vi k, vv a, vv b] h = some (vi (cmpV k a b), h) := by
  refine go_eq (fn := g97) rfl rfl fun R hR => ?_
  obtain ⟨an, a⟩ := a
  obtain ⟨bn, b⟩ := b
  cases an
  · cases bn
    · by_cases h0 : k = 0
      · simp [g97, h0]; simpa [cmpV, h0] using hR
      · by_cases h1 : k = 1
        · simp [g97, h1]; simpa [cmpV, h1] using hR
        · simp [g97, h0, h1]; simpa [cmpV, h0, h1] using hR
    · simp [g97]; simpa [cmpV] using hR
  · simp [g97]; simpa [cmpV] using hR

@[simp] theorem l1Compare_eq (k : Int) (a b : Val) (h : Heap) : call p 99 [vi k, vv a, vv b] h = some (vi (cmpV k a b), h) := by
  refine go_eq (fn := g99) rfl rfl fun R hR => ?_
  obtain ⟨an, a⟩ := a
  obtain ⟨bn, b⟩ := b
  cases an
  · cases bn
    · by_cases h0 : k = 0
      · simp [g99, h0]; simpa [cmpV, h0] using hR
      · by_cases h1 : k = 1
        · simp [g99, h1]; simpa [cmpV, h1] using hR
        · simp [g99, h0, h1]; simpa [cmpV, h0, h1] using hR
    · simp [g99]; simpa [cmpV] using hR
  · simp [g99]; simpa [cmpV] using hR

def cmpR (k : Int) (a b : Val) : V := if (0 ≤ k ∧ k ≤ 2) ∧ okV a = true ∧ okV b = true then .tup [vi (cmpV k a b), .bool true] else .tup [vi 0, .bool false]

theorem Compare_eq (k : Int) (a b : Val) (h : Heap) : call p 16 [vi k, vv a, vv b] h = some (cmpR k a b, h) := by
  refine go_eq (fn := g16) rfl rfl fun R hR => ?_
  unfold cmpR at hR
  by_cases h1 : 0 ≤ k ∧ k ≤ 2
  · cases h2 : okV a <;> cases h3 : okV b <;> simp [g16, h1, h2, h3, -Bool.decide_and] <;> simpa [h1, h2, h3] using hR
  · simp [g16, h1, -Bool.decide_and]
    simpa [h1] using hR
theorem CompareS_eq (k : Int) (a b : Val) (h : Heap) : call p 17 [vi k, vv a, vv b] h = some (cmpR k a b, h) := by
  refine go_eq (fn := g17) rfl rfl fun R hR => ?_
  unfold cmpR at hR
  by_cases h1 : 0 ≤ k ∧ k ≤ 2
  · cases h2 : okV a <;> cases h3 : okV b <;> simp [g17, h1, h2, h3, -Bool.decide_and] <;> simpa [h1, h2, h3] using hR
  · simp [g17, h1, -Bool.decide_and]
    simpa [h1] using hR
end GL
namespace GL
open Go

theorem KeepsBut.lit {c : Nat} {h : Heap} (l : Heap) : KeepsBut c h (h ++ l) := (Keeps.append h l).but c

theorem value_ok {h : Heap} {c N : Nat} (hc : Cur h c N) (hN : N < 2 ^ 60) :
    ∃ r h', call p 95 [.ptr c 0] h = some (r, h') ∧ ∃ x : Val, r = vv x ∧ Cur h' c (N + 20) ∧ KeepsBut c h h' ∧ h.length ≤ h'.length := by
  have hlt := hc.lt
  obtain ⟨_, h1, e1, b1, rfl, c1, k1, l1⟩ := one_ok (n := 4) hc (by omega) (by decide)
  obtain ⟨_, h2, e2, b2, rfl, c2, k2, l2⟩ := one_ok (n := 30) c1 (by omega) (by decide)
  obtain ⟨_, h3, e3, b3, rfl, c3, k3, l3⟩ := one_ok (n := 2) c2 (by omega) (by decide)
  obtain ⟨_, h4, e4, x, hx, rfl, c4, k4, l4⟩ := among_ok (v := .slice h3.length 0 4 (.k 4)) (c3.keeps (Keeps.append h3 _)) (by omega) (Sl.lit [-1001, -1000, 1000, 1001] 4 rfl [vi (-1001), vi (-1000), vi 1000, vi 1001] rfl _ (by decide)) (by simp [bOf]; omega) (by decide) (by decide)
  obtain ⟨_, h5, e5, y, rfl, hy, c5, k5, l5⟩ := pick_ok (n := 6) c2 (by omega) (by decide)
  have e1' : call p 92 [.ptr c 0, vi 4] h = some (.bool b1, h1) := e1
  have e2' : call p 92 [.ptr c 0, vi 30] h1 = some (.bool b2, h2) := e2
  have e3' : call p 92 [.ptr c 0, vi 2] h2 = some (.bool b3, h3) := e3
  have e5' : call p 91 [.ptr c 0, vi 6] h2 = some (vi y, h5) := e5
  refine go (fn := g95) rfl rfl fun R hR => ?_
  cases b1
  · cases b2
    · simp [g95, e1', e2', e5', fillL, resV, mkV]
      exact hR _ _ ⟨⟨_, _⟩, rfl, c5.mono (by omega), (k1.trans k2).trans k5, by omega⟩
    · simp [g95, e1', e2', e3', e4, fillL, resV, mkV]
      exact hR _ _ ⟨⟨_, _⟩, rfl, c4.mono (by omega), ((k1.trans k2).trans k3).trans (KeepsBut.trans (KeepsBut.lit _) k4), by simp at l4; omega⟩
  · simp [g95, e1', fillL, resV, mkV]
    exact hR _ _ ⟨⟨_, _⟩, rfl, c1.mono (by omega), k1, by omega⟩

def sameR (a b : Val) : V := if okV a = true ∧ okV b = true then .tup [.bool (a.null == b.null && decide (a.n = b.n)), .bool true] else .tup [.bool false, .bool false]
theorem SameValue_eq (a b : Val) (h : Heap) : call p 20 [vv a, vv b] h = some (sameR a b, h) := by
  refine go_eq (fn := g20) rfl rfl fun R hR => ?_
  unfold sameR at hR
  cases h2 : okV a <;> cases h3 : okV b <;> simp [g20, h2, h3, eqCells] <;> simpa [h2, h3] using hR
theorem SameValueS_eq (a b : Val) (h : Heap) : call p 21 [vv a, vv b] h = some (sameR a b, h) := by
  refine go_eq (fn := g21) rfl rfl fun R hR => ?_
  unfold sameR at hR
  cases h2 : okV a <;> cases h3 : okV b <;> simp [g21, h2, h3, eqCells] <;> simpa [h2, h3] using hR

theorem DrawCompare_ok {h : Heap} {v : V} {bs : List Byte} (hs : Sl h v bs) : ∃ r h', call p 15 [v] h = some (r, h') ∧ ∃ (k : Int) (x y : Val), r = .tup [vi k, vv x, vv y] ∧ Keeps h h' := by
  have c0 := drawTwo hs
  obtain ⟨_, h1, e1, n, rfl, hn, c1, k1, l1⟩ := pick_ok (n := 4) c0 (by decide) (by decide)
  obtain ⟨_, h2, e2, m, rfl, hm, c2, k2, l2⟩ := pick_ok (n := 9) c1 (by decide) (by decide)
  obtain ⟨_, h3, e3, x, rfl, c3, k3, l3⟩ := value_ok c2 (by omega)
  obtain ⟨_, h4, e4, y, rfl, c4, k4, l4⟩ := value_ok c3 (by omega)
  have e1' : call p 91 [.ptr h.length 0, vi 4] (h ++ [⟨.own, [v, vi 0, .int .u64 0]⟩]) = some (vi n, h1) := e1
  have e2' : call p 91 [.ptr h.length 0, vi 9] h1 = some (vi m, h2) := e2
  refine go (fn := g15) rfl rfl fun R hR => ?_
  simp [g15, fillL, e1', e2', e3, e4, hs.cells, hs.cell, resV, mkV]
  exact hR _ _ ⟨_, x, y, rfl, KeepsBut.keeps (Keeps.append h _) (Nat.le_refl _) (((k1.trans k2).trans k3).trans k4)⟩

theorem DrawSameValue_ok {h : Heap} {v : V} {bs : List Byte} (hs : Sl h v bs) : ∃ r h', call p 19 [v] h = some (r, h') ∧ ∃ (x y : Val), r = .tup [vv x, vv y] ∧ Keeps h h' := by
  have c0 := drawTwo hs
  obtain ⟨_, h3, e3, x, rfl, c3, k3, l3⟩ := value_ok c0 (by omega)
  obtain ⟨_, h4, e4, y, rfl, c4, k4, l4⟩ := value_ok c3 (by omega)
  refine go (fn := g19) rfl rfl fun R hR => ?_
  simp [g19, fillL, e3, e4, hs.cells, hs.cell, resV, mkV]
  exact hR _ _ ⟨x, y, rfl, KeepsBut.keeps (Keeps.append h _) (Nat.le_refl _) (k3.trans k4)⟩
end GL
namespace GL
open Go

def fillB (x : Val) (xs : List Int) : Bool := okV x && decide (xs.length ≤ 10) && xs.all fun n => decide (-1000 ≤ n ∧ n ≤ 1000)
def fill1 (x : Val) (n : Int) : Int := if x.null then n else x.n
def fillR (x : Val) (xs : List Int) : List Int := if fillB x xs then xs.map (fill1 x) else []

theorem Out.one {lo : Nat} {h : Heap} {v : V} {xs : List Int} (ho : Out lo h v xs) (x : Int) (hx : xs.length ≤ 2 ^ 20) :
    ∃ v' h', appH 1 8 v 1 [vi x] (h ++ [⟨.own, [vi x]⟩]) = some (v', h') ∧ Out lo h' v' (xs ++ [x]) ∧ KeepsP (fun i => ¬ vB v i) h h' ∧ h.length < h'.length := by
  have o3 : Out lo (h ++ [⟨.own, [vi x]⟩]) v xs := (Keeps.append h _).out ho (by simp)
  obtain ⟨v', h', e4, o4, k4, l4, b4⟩ := o3.app [x] (by simp) (bytes := 8) (by decide) (by simp; omega) (k := 1) rfl (n := 1) rfl (ys := [vi x]) rfl
  exact ⟨v', h', e4, o4, fun i blk hi h1 h2 => k4 i blk hi (Keeps.append h _ i blk h1 h2) h2, by simp at l4; omega⟩

theorem Out.far {lo : Nat} {h0 h h' : Heap} {α : Type} [Flat α] {v : V} {xs : List α} (ho : Out lo h v xs) (hk : Keeps h0 h) (hp : KeepsP (fun i => ¬ vB v i) h h') (hl : h0.length ≤ lo) : Keeps h0 h' :=
  Keeps.far hk hp hl fun i hi hv => by have := (ho.ge hv).1; omega

theorem all_false {xs : List Int} {i : Nat} (hi : i < xs.length) {q : Int → Bool} (h : q xs[i] = false) : xs.all q = false := by
  rw [List.all_eq_false]; exact ⟨xs[i], by simp, by simp [h]⟩

theorem FillsOf_ok {h : Heap} {v : V} {xs : List Int} (hs : Sl h v xs) (x : Val) :
    ∃ r h', call p 18 [vv x, v] h = some (r, h') ∧ ∃ w, r = .tup [w, .bool (fillB x xs)] ∧ Sl h' w (fillR x xs) ∧ Keeps h h' := by
  refine go (fn := g18) rfl rfl fun R hR => ?_
  have bad : fillB x xs = false → ∀ h', Keeps h h' → R (.tup [.nils, .bool false]) h' := fun hb h' hk => hR _ _ ⟨.nils, by rw [hb], by simp [fillR, hb]; exact Sl.nil, hk⟩
  cases h1 : okV x with
  | false =>
    simp [g18, h1, hs.len]
    exact bad (by simp [fillB, h1]) _ (Keeps.refl _)
  | true =>
    by_cases h2 : xs.length ≤ 10
    · have h2' : ¬ (10 : Int) < xs.length := by omega
      simp [g18, h1, hs.len, h2']
      refine Wc_upJ xs.length (fun i s => s.σ 18 = .v v ∧ s.σ 19 = .v (vi xs.length) ∧ s.σ 20 = .v (vi i) ∧ s.σ 2 = .lp 2 1 0 ∧ s.L 2 = (1, [.bool x.null, vi x.n]) ∧ Keeps h s.h ∧ (∃ w, s.σ 6 = .v w ∧ Out h.length s.h w ((xs.take i).map (fill1 x))) ∧
        ∀ y ∈ xs.take i, -1000 ≤ y ∧ y ≤ 1000) 0 ⟨by simp, by simp, by simp, by simp, by simp [upd], Keeps.append h _, ⟨_, by simp; rfl, by simpa using Out.empty (Nat.le_refl _) (by simp)⟩, by simp⟩ fun i s ⟨g18, g19, g20, g2, gL, hk, ⟨w, g6, ho⟩, hall⟩ J hJ => ?_
      have hs' := hs.keeps hk
      by_cases hn : i < xs.length
      · by_cases hy : -1000 ≤ xs[i] ∧ xs[i] ≤ 1000
        · obtain ⟨w', h', e, o', k', l'⟩ := ho.one (fill1 x xs[i]) (by simp; omega)
          have hall' : ∀ y ∈ xs.take (i + 1), -1000 ≤ y ∧ y ≤ 1000 := by
            rw [List.take_succ_eq_append_getElem hn]; intro y hy'
            rcases List.mem_append.1 hy' with h | h
            · exact hall y h
            · simp at h; subst h; exact hy
          have ot : Out h.length h' w' ((xs.take (i + 1)).map (fill1 x)) := by
            rw [List.take_succ_eq_append_getElem hn, List.map_append]; exact o'
          cases hxn : x.null with
          | true =>
            simp [fill1, hxn] at e
            simp [g18_0, g18, g19, g20, g2, gL, g6, hn, hs'.idx, hs'.loadI, hs.step hn, hy, hxn, rdS_last, e]
            exact hJ _ hn ⟨by simp [g18], by simp [g19], by simp, by simp [g2], by simp [gL, hxn], ho.far hk k' (Nat.le_refl _), ⟨w', by simp, ot⟩, hall'⟩
          | false =>
            simp [fill1, hxn] at e
            simp [g18_0, g18, g19, g20, g2, gL, g6, hn, hs'.idx, hs'.loadI, hs.step hn, hy, hxn, rdS_last, e]
            exact hJ _ hn ⟨by simp [g18], by simp [g19], by simp, by simp [g2], by simp [gL, hxn], ho.far hk k' (Nat.le_refl _), ⟨w', by simp, ot⟩, hall'⟩
        · simp [g18_0, g18, g19, g20, hn, hs'.idx, hs'.loadI, hy, -Bool.decide_and]
          exact bad (by simp only [fillB]; rw [all_false hn (by simpa using hy)]; simp) _ hk
      · rw [List.take_of_length_le (by omega)] at ho hall
        simp [g18_0, g19, g20, g6, hn]
        have hb : fillB x xs = true := by
          simp only [fillB, h1, h2, decide_true, Bool.and_self, Bool.true_and, List.all_eq_true, decide_eq_true_eq]; exact hall
        exact hR _ _ ⟨w, by rw [hb], by simp only [fillR, hb, if_true]; exact ho.sl, hk⟩
    · have h2' : (10 : Int) < xs.length := by omega
      simp [g18, h1, hs.len, h2']
      exact bad (by simp [fillB, h2]) _ (Keeps.refl _)
end GL
namespace GL
open Go

theorem FillsOfS_ok {h : Heap} {v : V} {xs : List Int} (hs : Sl h v xs) (x : Val) :
    ∃ r h', call p 23 [vv x, v] h = some (r, h') ∧ ∃ w, r = .tup [w, .bool (fillB x xs)] ∧ Sl h' w (fillR x xs) ∧ Keeps h h' := by
  refine go (fn := g23) rfl rfl fun R hR => ?_
  have bad : fillB x xs = false → ∀ h', Keeps h h' → R (.tup [.nils, .bool false]) h' := fun hb h' hk => hR _ _ ⟨.nils, by rw [hb], by simp [fillR, hb]; exact Sl.nil, hk⟩
  cases h1 : okV x with
  | false =>
    simp [g23, h1]
    exact bad (by simp [fillB, h1]) _ (Keeps.refl _)
  | true =>
    by_cases h2 : xs.length ≤ 10
    · have h2' : ¬ (10 : Int) < xs.length := by omega
      cases h3 : xs.all fun n => decide (-1000 ≤ n ∧ n ≤ 1000) with
      | false =>
        simp [g23, h1, hs.len, h2', l1All_eq hs, h3, -Bool.decide_and]
        exact bad (by simp only [fillB, h3]; simp) _ (Keeps.refl _)
      | true =>
        simp [g23, h1, hs.len, h2', l1All_eq hs, h3, -Bool.decide_and]
        refine Wc_upJ xs.length (fun i s => s.σ 22 = .v v ∧ s.σ 23 = .v (vi xs.length) ∧ s.σ 24 = .v (vi i) ∧ s.σ 2 = .lp 2 1 0 ∧ s.L 2 = (1, [.bool x.null, vi x.n]) ∧ Keeps h s.h ∧ (∃ w, s.σ 6 = .v w ∧ Out h.length s.h w ((xs.take i).map (fill1 x)))) 0
          ⟨by simp, by simp, by simp, by simp, by simp [upd], Keeps.refl _, ⟨.nils, by simp, by simpa using Out.nil (Nat.le_refl _)⟩⟩ fun i s ⟨g22, g23', g24, g2, gL, hk, ⟨w, g6, ho⟩⟩ J hJ => ?_
        have hs' := hs.keeps hk
        by_cases hn : i < xs.length
        · obtain ⟨w', h', e, o', k', l'⟩ := ho.one (fill1 x xs[i]) (by simp; omega)
          have ot : Out h.length h' w' ((xs.take (i + 1)).map (fill1 x)) := by
            rw [List.take_succ_eq_append_getElem hn, List.map_append]; exact o'
          cases hxn : x.null with
          | true =>
            simp [fill1, hxn] at e
            simp [g23_0, g22, g23', g24, g2, gL, g6, hn, hs'.idx, hs'.loadI, hs.step hn, hxn, rdS_last, e]
            exact hJ _ hn ⟨by simp [g22], by simp [g23'], by simp, by simp [g2], by simp [gL, hxn], ho.far hk k' (Nat.le_refl _), ⟨w', by simp, ot⟩⟩
          | false =>
            simp [fill1, hxn] at e
            simp [g23_0, g22, g23', g24, g2, gL, g6, hn, hs'.idx, hs'.loadI, hs.step hn, hxn, rdS_last, e]
            exact hJ _ hn ⟨by simp [g22], by simp [g23'], by simp, by simp [g2], by simp [gL, hxn], ho.far hk k' (Nat.le_refl _), ⟨w', by simp, ot⟩⟩
        · rw [List.take_of_length_le (by omega)] at ho
          simp [g23_0, g23', g24, g6, hn]
          have hb : fillB x xs = true := by simp only [fillB, h1, h2, h3, decide_true, Bool.and_self]
          exact hR _ _ ⟨w, by rw [hb], by simp only [fillR, hb, if_true]; exact ho.sl, hk⟩
    · have h2' : (10 : Int) < xs.length := by omega
      simp [g23, h1, hs.len, h2']
      exact bad (by simp [fillB, h2]) _ (Keeps.refl _)

theorem sameInts_eq {h : Heap} {v w : V} {xs ys : List Int} (hs : Sl h v xs) (ht : Sl h w ys) : call p 24 [v, w] h = some (.bool (decide (xs = ys)), h) := by
  refine go_eq (fn := g24) rfl rfl fun R hR => ?_
  by_cases hl : xs.length = ys.length
  · simp [g24, hs.len, ht.len, hl]
    refine Wc_upJ xs.length (fun i s => s.σ 0 = .v v ∧ s.σ 1 = .v w ∧ s.σ 12 = .v (vi xs.length) ∧ s.σ 13 = .v (vi i) ∧ s.h = h ∧ xs.take i = ys.take i) 0 (by simp [hl]) fun i s ⟨g0, g1, g12, g13, gh, hall⟩ J hJ => ?_
    by_cases hn : i < xs.length
    · have hn' : i < ys.length := by omega
      by_cases he : xs[i] = ys[i]
      · have : xs.take (i + 1) = ys.take (i + 1) := by
          rw [List.take_succ_eq_append_getElem hn, List.take_succ_eq_append_getElem hn', hall, he]
        simp [g24_0, g0, g1, g12, g13, gh, hn, hn', hs.idx, hs.loadI, ht.idx, ht.loadI, he, hs.step hn]
        exact hJ _ hn ⟨by simp [g0], by simp [g1], by simp [g12], by simp, rfl, this⟩
      · have hne : ¬ xs = ys := fun e => he (by subst e; rfl)
        simp [g24_0, g0, g1, g12, g13, gh, hn, hn', hs.idx, hs.loadI, ht.idx, ht.loadI, he]
        simpa [hne] using hR
    · have : xs = ys := by
        rw [List.take_of_length_le (by omega), List.take_of_length_le (by omega)] at hall; exact hall
      simp [g24_0, g12, g13, gh, hn]
      simpa [this] using hR
  · have hne : ¬ xs = ys := fun e => hl (by rw [e])
    have hl' : ¬ (xs.length : Int) = ys.length := by omega
    simp only [hne, decide_false] at hR
    simp [g24, hs.len, ht.len]
    rw [if_neg hl']
    exact hR
end GL
namespace GL
open Go

def FI (h0 : Heap) (x : Val) (k : Nat) (s : S) : Prop :=
  k ≤ 10 ∧ s.σ 7 = .v (vi k) ∧ s.σ 4 = .v (.ptr h0.length 0) ∧ s.σ 2 = .lp 2 1 0 ∧ s.σ 5 = .lp 5 1 0 ∧ s.L 2 = (1, [.bool false, vi 0]) ∧ s.L 5 = (1, [.bool x.null, vi x.n]) ∧
    ∃ v xs, s.σ 6 = .v v ∧ Out (h0.length + 1) s.h v (xs : List Int) ∧ xs.length ≤ 10 - k ∧ Cur s.h h0.length (1000 - 2 * k) ∧ Keeps h0 s.h

theorem g22_loop {h0 : Heap} {x : Val} {k : Nat} {s : S} {K : Ex → S → Prop} (hI : FI h0 x k s) (hK : ∀ s', FI h0 x 0 s' → K (.exit 0) s') : Wc p (.loop g22_0) s K := by
  refine Wc_dnJ (FI h0 x) k hI fun k s ⟨hk, g7, g4, g2, g5, gL2, gL5, v, xs, g6, ho, hx, hc, hkp⟩ J hJ => ?_
  by_cases h0k : 0 < k
  · have hlt := hc.lt
    obtain ⟨_, h2, e2, y, rfl, hy, c2, k2, l2⟩ := pick_ok (n := 9) hc (by omega) (by decide)
    have e2' : call p 91 [.ptr h0.length 0, vi 9] s.h = some (vi y, h2) := e2
    have o2 : Out (h0.length + 1) h2 v xs := k2.out ho (by omega) (by omega)
    obtain ⟨v', h4, e4, o4, k4, l4⟩ := o2.one ((y : Int) - 4) (by omega)
    have w : IntKind.i64.wrap ((k : Int) - 1) = (k - 1 : Nat) := by rw [IntWalk.i64_in] <;> omega
    have w2 : IntKind.i64.wrap ((y : Int) - 4) = (y : Int) - 4 := by rw [IntWalk.i64_in] <;> omega
    simp [g22_0, g7, g4, g6, h0k, e2', rdS_last, e4, w, w2]
    refine hJ (k - 1) _ (by omega) ⟨by omega, by simp, by simp [g4], by simp [g2], by simp [g5], by simp [gL2], by simp [gL5], v', xs ++ [(y : Int) - 4], by simp, o4, by simp; omega, ?_, ?_⟩
    · refine (Cur.keepsP c2 k4 fun i hi hv => ?_).mono (by omega)
      have := (o2.ge hv).1; omega
    · refine o2.far (Keeps.far (n := h0.length) hkp k2.P (Nat.le_refl _) fun i hi => by omega) k4 (by omega)
  · have : k = 0 := by omega
    subst this
    simp [g22_0, g7]
    exact hK _ ⟨by omega, by simp [g7], by simp [g4], by simp [g2], by simp [g5], by simp [gL2], by simp [gL5], v, xs, by simp [g6], ho, hx, hc, hkp⟩

theorem DrawFillsOf_ok {h : Heap} {v : V} {bs : List Byte} (hs : Sl h v bs) : ∃ r h', call p 22 [v] h = some (r, h') ∧ ∃ (x : Val) (w : V) (xs : List Int), r = .tup [vv x, w] ∧ Sl h' w xs ∧ Keeps h h' := by
  have c0 := drawTwo hs
  obtain ⟨_, h1, e1, x, rfl, c1, k1, l1⟩ := value_ok c0 (by omega)
  obtain ⟨_, h2, e2, n, rfl, hn, c2, k2, l2⟩ := pick_ok (n := 5) c1 (by omega) (by decide)
  have e2' : call p 91 [.ptr h.length 0, vi 5] h1 = some (vi n, h2) := e2
  have q2 : Keeps h h2 := KeepsBut.keeps (Keeps.append h _) (Nat.le_refl _) (k1.trans k2)
  refine go (fn := g22) rfl rfl fun R hR => ?_
  simp [g22, fillL, e1, e2', hs.cells, hs.cell]
  refine g22_loop (h0 := h) (x := x) (k := n) ⟨by omega, by simp, by simp, by simp, by simp, by simp [upd], by simp [upd], .nils, [], by simp, Out.nil (by have := c2.lt; show h.length + 1 ≤ h2.length; omega), by simp, c2.mono (by omega), q2⟩ ?_
  rintro s' ⟨_, g7, g4, g2, g5, gL2, gL5, w, xs, g6, ho, hx, hc, hkp⟩
  simp [g2, g5, gL2, gL5, g6, resV, mkV]
  exact hR _ _ ⟨x, w, xs, rfl, ho.sl, hkp⟩
end GL
namespace GL
open Go

structure CI (h : Heap) (k c : Int) (a b : Val) (vb Y X : V) (nX : Nat) (s : S) : Prop where
  g5 : s.σ 5 = .v (vi k)
  g8 : s.σ 8 = .v (vi c)
  g6 : s.σ 6 = .lp 6 1 0
  g7 : s.σ 7 = .lp 7 1 0
  l6 : s.L 6 = (1, [.bool a.null, vi a.n])
  l7 : s.L 7 = (1, [.bool b.null, vi b.n])
  g1 : s.σ 1 = .v vb
  g14 : s.σ 14 = .v Y
  g87 : s.σ 87 = .v X
  g88 : s.σ 88 = .v (vi nX)
  gh : s.h = h

/-- what the law asks of two fillings -/
def fits (k c : Int) (x y : Int) : Prop := okV ⟨false, x⟩ = true ∧ okV ⟨false, y⟩ = true ∧ ¬ cmpV k ⟨false, x⟩ ⟨false, y⟩ = 1 ∧ (c = 1 ∨ cmpV k ⟨false, x⟩ ⟨false, y⟩ = c)

theorem g14_inner {h : Heap} {k c : Int} {a b : Val} {vb X Y : V} {nX i : Nat} {ys : List Int} {x : Int} (hk : 0 ≤ k ∧ k ≤ 2) (hY : Sl h Y ys) (hf : ∀ y ∈ ys, fits k c x y) {s : S} {K : Ex → S → Prop}
    (hI : CI h k c a b vb Y X nX s) (h17 : s.σ 17 = .v (vi x)) (h93 : s.σ 93 = .v Y) (h94 : s.σ 94 = .v (vi ys.length)) (h95 : s.σ 95 = .v (vi 0)) (h89 : s.σ 89 = .v (vi i))
    (hK : ∀ s', CI h k c a b vb Y X nX s' → s'.σ 89 = .v (vi i) → K (.exit 2) s') : Wc p (.loop g14_0) s K := by
  refine Wc_upJ ys.length (fun j s => CI h k c a b vb Y X nX s ∧ s.σ 17 = .v (vi x) ∧ s.σ 93 = .v Y ∧ s.σ 94 = .v (vi ys.length) ∧ s.σ 95 = .v (vi j) ∧ s.σ 89 = .v (vi i)) 0 ⟨hI, h17, h93, h94, h95, h89⟩ fun j s ⟨hI, g17, g93, g94, g95, g89⟩ J hJ => ?_
  by_cases hn : j < ys.length
  · obtain ⟨f1, f2, f3, f4⟩ := hf ys[j] (by simp)
    have hc : call p 16 [vi k, vv ⟨false, x⟩, vv ⟨false, ys[j]⟩] h = some (.tup [vi (cmpV k ⟨false, x⟩ ⟨false, ys[j]⟩), .bool true], h) := by rw [Compare_eq, cmpR, if_pos ⟨hk, f1, f2⟩]
    generalize hd : cmpV k ⟨false, x⟩ ⟨false, ys[j]⟩ = d at hc f3 f4
    by_cases h1 : c = 1
    · simp [g14_0, hI.g5, hI.g8, hI.gh, g17, g93, g94, g95, hn, hY.idx, hY.loadI, fillL, hc, f3, h1, hY.step hn]
      exact hJ _ hn ⟨⟨by simp [hI.g5], by simp [hI.g8], by simp [hI.g6], by simp [hI.g7], hI.l6, hI.l7, by simp [hI.g1], by simp [hI.g14], by simp [hI.g87], by simp [hI.g88], rfl⟩, by simp [g17], by simp [g93], by simp [g94], by simp, by simp [g89]⟩
    · have hdc : d = c := f4.resolve_left h1
      subst hdc
      simp [g14_0, hI.g5, hI.g8, hI.gh, g17, g93, g94, g95, hn, hY.idx, hY.loadI, fillL, hc, h1, hY.step hn]
      exact hJ _ hn ⟨⟨by simp [hI.g5], by simp [hI.g8], by simp [hI.g6], by simp [hI.g7], hI.l6, hI.l7, by simp [hI.g1], by simp [hI.g14], by simp [hI.g87], by simp [hI.g88], rfl⟩, by simp [g17], by simp [g93], by simp [g94], by simp, by simp [g89]⟩
  · simp [g14_0, g94, g95, hn]
    exact hK _ ⟨by simp [hI.g5], by simp [hI.g8], by simp [hI.g6], by simp [hI.g7], hI.l6, hI.l7, by simp [hI.g1], by simp [hI.g14], by simp [hI.g87], by simp [hI.g88], hI.gh⟩ (by simp [g89])

theorem g14_outer {h : Heap} {k c : Int} {a b : Val} {vb X Y : V} {xs ys : List Int} (hk : 0 ≤ k ∧ k ≤ 2) (hX : Sl h X xs) (hY : Sl h Y ys) (hf : ∀ x ∈ xs, ∀ y ∈ ys, fits k c x y) {s : S} {K : Ex → S → Prop}
    (hI : CI h k c a b vb Y X xs.length s) (h89 : s.σ 89 = .v (vi 0)) (hK : ∀ s', CI h k c a b vb Y X xs.length s' → K (.exit 0) s') : Wc p (.loop g14_1) s K := by
  refine Wc_upJ xs.length (fun i s => CI h k c a b vb Y X xs.length s ∧ s.σ 89 = .v (vi i)) 0 ⟨hI, h89⟩ fun i s ⟨hI, g89⟩ J hJ => ?_
  by_cases hn : i < xs.length
  · simp [g14_1, hI.g87, hI.g88, hI.gh, hI.g14, g89, hn, hX.idx, hX.loadI, hY.len]
    refine g14_inner (i := i) (x := xs[i]) (a := a) (b := b) (vb := vb) (X := X) (Y := Y) (nX := xs.length) hk hY (hf _ (by simp)) ⟨by simp [hI.g5], by simp [hI.g8], by simp [hI.g6], by simp [hI.g7], hI.l6, hI.l7, by simp [hI.g1], by simp [hI.g14], by simp [hI.g87], by simp [hI.g88], rfl⟩
      (by simp) (by simp) (by simp) (by simp) (by simp [g89]) fun s' hI' g89' => ?_
    simp [g89', hX.step hn]
    exact hJ _ hn ⟨⟨by simp [hI'.g5], by simp [hI'.g8], by simp [hI'.g6], by simp [hI'.g7], hI'.l6, hI'.l7, by simp [hI'.g1], by simp [hI'.g14], by simp [hI'.g87], by simp [hI'.g88], hI'.gh⟩, by simp⟩
  · simp [g14_1, hI.g88, g89, hn]
    exact hK _ ⟨by simp [hI.g5], by simp [hI.g8], by simp [hI.g6], by simp [hI.g7], hI.l6, hI.l7, by simp [hI.g1], by simp [hI.g14], by simp [hI.g87], by simp [hI.g88], hI.gh⟩
end GL
namespace GL
open Go

theorem fill_mem {x : Val} {l : List Int} (hx : okV x = true) (hl : ∀ n ∈ l, -1000 ≤ n ∧ n ≤ 1000) {y : Int} (hy : y ∈ fillR x l) : okV ⟨false, y⟩ = true ∧ (x.null = true ∨ y = x.n) := by
  unfold fillR at hy
  split at hy
  · obtain ⟨n, hn, rfl⟩ := List.mem_map.1 hy
    have := hl n hn
    unfold fill1
    cases h : x.null
    · simp [okV, h] at hx ⊢; exact hx
    · simp [okV]; exact this
  · cases hy

theorem cmp_two (k x y : Int) : ¬ cmpV k ⟨false, x⟩ ⟨false, y⟩ = 1 := by
  unfold cmpV
  simp
  repeat' split
  all_goals omega

theorem fits_all {k : Int} {a b : Val} {l m : List Int} (ha : okV a = true) (hb : okV b = true) (hl : ∀ n ∈ l, -1000 ≤ n ∧ n ≤ 1000) (hm : ∀ n ∈ m, -1000 ≤ n ∧ n ≤ 1000) :
    ∀ x ∈ fillR a l, ∀ y ∈ fillR b m, fits k (cmpV k a b) x y := fun x hx y hy => by
  obtain ⟨h1, h2⟩ := fill_mem ha hl hx
  obtain ⟨h3, h4⟩ := fill_mem hb hm hy
  refine ⟨h1, h3, cmp_two k x y, ?_⟩
  cases hna : a.null
  · cases hnb : b.null
    · have e1 : x = a.n := by simpa [hna] using h2
      have e2 : y = b.n := by simpa [hnb] using h4
      subst e1; subst e2
      right; simp [cmpV, hna, hnb]
    · left; simp [cmpV, hnb]
  · left; simp [cmpV, hna]

theorem cmp_one (k : Int) (a b : Val) : (cmpV k a b = 1) = (a.null = true ∨ b.null = true) := by
  cases hna : a.null
  · cases hnb : b.null
    · have := cmp_two k a.n b.n
      obtain ⟨an, a⟩ := a
      obtain ⟨bn, b⟩ := b
      simp at hna hnb; subst hna; subst hnb
      simpa using this
    · simp [cmpV, hnb]
  · simp [cmpV, hna]

theorem FnCompared_tail {h h1 : Heap} {vb : V} {bs : List Byte} (hb : Sl h vb bs) (k1 : Keeps h h1) : ∃ u v h2 s t x f h3 w1 h4 w2 h5 g, call p 19 [vb] h1 = some (.tup [vv u, vv v], h2) ∧ call p 20 [vv u, vv v] h2 = some (.tup [.bool s, .bool t], h2) ∧ call p 21 [vv u, vv v] h2 = some (.tup [.bool s, .bool t], h2) ∧
    call p 22 [vb] h2 = some (.tup [vv x, f], h3) ∧ call p 18 [vv x, f] h3 = some (.tup [w1, .bool g], h4) ∧ call p 23 [vv x, f] h4 = some (.tup [w2, .bool g], h5) ∧ call p 24 [w1, w2] h5 = some (.bool true, h5) := by
  obtain ⟨_, h2, e2, u, v, rfl, k2⟩ := DrawSameValue_ok (hb.keeps k1)
  obtain ⟨_, h3, e3, x, f, xs, rfl, hs, k3⟩ := DrawFillsOf_ok (hb.keeps (k1.trans k2))
  obtain ⟨_, h4, e4, w1, rfl, hs1, k4⟩ := FillsOf_ok hs x
  obtain ⟨_, h5, e5, w2, rfl, hs2, k5⟩ := FillsOfS_ok (hs.keeps k4) x
  have hsr : ∃ s t, sameR u v = .tup [.bool s, .bool t] := by
    unfold sameR; split
    · exact ⟨_, _, rfl⟩
    · exact ⟨_, _, rfl⟩
  obtain ⟨s, t, hst⟩ := hsr
  refine ⟨u, v, h2, s, t, x, f, h3, w1, h4, w2, h5, _, e2, by rw [SameValue_eq, hst], by rw [SameValueS_eq, hst], e3, e4, e5, ?_⟩
  rw [sameInts_eq (hs1.keeps k5) hs2]; simp

theorem FnCompared_ok {h : Heap} {va vb : V} {as bs : List Byte} (ha : Sl h va as) (hb : Sl h vb bs) : ∃ r h', call p 14 [va, vb] h = some (r, h') ∧ r = .bool true := by
  refine go (fn := g14) rfl rfl fun R hR => ?_
  have hR' : ∀ h', R (.bool true) h' := fun h' => hR _ _ rfl
  by_cases hl : (1048576 : Int) < IntKind.i64.wrap ((as.length : Int) + bs.length)
  · simp [g14, ha.len, hb.len, hl]
    exact hR' _
  obtain ⟨_, h1, e1, k, x, y, rfl, k1⟩ := DrawCompare_ok ha
  by_cases hT : (0 ≤ k ∧ k ≤ 2) ∧ okV x = true ∧ okV y = true
  · have hs1 : Sl (h1 ++ [⟨.own, [vi (-1), vi 0, vi 1, vi 2, vi 3]⟩]) (.slice h1.length 0 5 (.k 5)) [-1, 0, 1, 2, 3] := Sl.lit _ 5 rfl _ rfl _ (by decide)
    obtain ⟨_, h2, e2, X, rfl, hX, k2⟩ := FillsOf_ok hs1 x
    have hs2 : Sl (h2 ++ [⟨.own, [vi 2, vi (-1), vi 3, vi 0, vi 1]⟩]) (.slice h2.length 0 5 (.k 5)) [2, -1, 3, 0, 1] := Sl.lit _ 5 rfl _ rfl _ (by decide)
    obtain ⟨_, h3, e3, Y, rfl, hY, k3⟩ := FillsOf_ok hs2 y
    have f1 : fillB x [-1, 0, 1, 2, 3] = true := by simp [fillB, hT.2.1]
    have f2 : fillB y [2, -1, 3, 0, 1] = true := by simp [fillB, hT.2.2]
    rw [f1] at e2
    rw [f2] at e3
    have hX3 : Sl h3 X (fillR x [-1, 0, 1, 2, 3]) := hX.keeps ((Keeps.append h2 _).trans k3)
    obtain ⟨u, v, h4, s, t, z, f, h5, w1, h6, w2, h7, g, t1, t2, t3, t4, t5, t6, t7⟩ := FnCompared_tail hb (k1.trans ((Keeps.append h1 [⟨.own, [vi (-1), vi 0, vi 1, vi 2, vi 3]⟩]).trans (k2.trans ((Keeps.append h2 [⟨.own, [vi 2, vi (-1), vi 3, vi 0, vi 1]⟩]).trans k3))))
    have hcc : call p 16 [vi k, vv x, vv y] h1 = some (.tup [vi (cmpV k x y), .bool true], h1) := by rw [Compare_eq, cmpR, if_pos hT]
    have hcs : call p 17 [vi k, vv x, vv y] h1 = some (.tup [vi (cmpV k x y), .bool true], h1) := by rw [CompareS_eq, cmpR, if_pos hT]
    have h1one := cmp_one k x y
    have hfit := fits_all (k := k) (a := x) (b := y) (l := [-1, 0, 1, 2, 3]) (m := [2, -1, 3, 0, 1]) hT.2.1 hT.2.2 (by simp) (by simp)
    generalize cmpV k x y = c at hcc hcs h1one hfit
    simp [g14, ha.len, hb.len, hl, e1, hcc, hcs, e2, e3, hX3.len]
    refine g14_outer (a := x) (b := y) (vb := vb) hT.1 hX3 hY hfit ⟨by simp, by simp, by simp, by simp, by simp [upd], by simp [upd], by simp, by simp, by simp, by simp, rfl⟩ (by simp) fun s' hI => ?_
    have h6 := hI.l6
    have h7 := hI.l7
    cases hx : x.null <;> cases hy : y.null <;> rw [hx] at h6 <;> rw [hy] at h7 <;> simp [hx, hy] at h1one <;>
      simp [hI.g8, hI.g6, hI.g7, h6, h7, hI.g1, hI.gh, h1one, t1, t2, t3, t4, t5, t6, t7, upd, fillL] <;> cases s <;> cases t <;> cases g <;> simp [hR', t7]
  · obtain ⟨u, v, h4, s, t, z, f, h5, w1, h6, w2, h7, g, t1, t2, t3, t4, t5, t6, t7⟩ := FnCompared_tail hb k1
    simp [g14, ha.len, hb.len, hl, e1, Compare_eq, CompareS_eq, cmpR, hT, t1, t2, t3, t4, t5, t6, t7]
    cases s <;> cases t <;> cases g <;> simp [hR', t7]
end GL
/-! sums -/
namespace GL
open Go

theorem Sl.loadV {h : Heap} {v : V} {xs : List Val} (hs : Sl h v xs) (i : Nat) (hi : i < xs.length) : rdH h (bOf v) (oOf v + i * 2) 2 = some [.bool xs[i].null, vi xs[i].n] := hs.load i hi

structure Sm where
  rows : Int
  known : Int
  total : Int
  low : Val
  high : Val
/-- a sum's cells -/
abbrev sc (s : Sm) : List V := [vi s.rows, vi s.known, vi s.total, .bool s.low.null, vi s.low.n, .bool s.high.null, vi s.high.n]

def noSm : Sm := ⟨0, 0, 0, ⟨true, 0⟩, ⟨true, 0⟩⟩
def zSm : Sm := ⟨0, 0, 0, ⟨false, 0⟩, ⟨false, 0⟩⟩

/-- a value more (the rows apart) -/
def sg (s : Sm) (v : Val) : Sm :=
  if v.null then s else ⟨s.rows, s.known + 1, s.total + v.n, if s.known = 0 then ⟨false, v.n⟩ else ⟨false, min s.low.n v.n⟩, if s.known = 0 then ⟨false, v.n⟩ else ⟨false, max s.high.n v.n⟩⟩

def sumL (r : Int) (l : List Val) : Sm := l.foldl sg ⟨r, 0, 0, ⟨true, 0⟩, ⟨true, 0⟩⟩

theorem sumL_snoc (r : Int) (l : List Val) (v : Val) : sumL r (l ++ [v]) = sg (sumL r l) v := by simp [sumL]

structure SumI (r : Int) (l : List Val) (s : Sm) : Prop where
  rows : s.rows = r
  known : 0 ≤ s.known ∧ s.known ≤ l.length
  total : -1000 * l.length ≤ s.total ∧ s.total ≤ 1000 * l.length
  none : s.known = 0 → s.low = ⟨true, 0⟩ ∧ s.high = ⟨true, 0⟩ ∧ s.total = 0
  some : s.known ≠ 0 → s.low.null = false ∧ s.high.null = false ∧ -1000 ≤ s.low.n ∧ s.low.n ≤ s.high.n ∧ s.high.n ≤ 1000 ∧ s.known * s.low.n ≤ s.total ∧ s.total ≤ s.known * s.high.n

theorem okV_val {v : Val} (h : okV v = true) (hn : v.null = false) : -1000 ≤ v.n ∧ v.n ≤ 1000 := by simpa [okV, hn] using h

theorem sg_inv {r : Int} {l : List Val} {s : Sm} {v : Val} (hs : SumI r l s) (hv : okV v = true) : SumI r (l ++ [v]) (sg s v) := by
  obtain ⟨h1, h2, h3, h4, h5⟩ := hs
  cases hn : v.null with
  | true =>
    have e : sg s v = s := by simp [sg, hn]
    rw [e]
    exact ⟨h1, by simp; omega, by simp; omega, h4, h5⟩
  | false =>
    have hb := okV_val hv hn
    have e : sg s v = ⟨s.rows, s.known + 1, s.total + v.n, if s.known = 0 then ⟨false, v.n⟩ else ⟨false, min s.low.n v.n⟩, if s.known = 0 then ⟨false, v.n⟩ else ⟨false, max s.high.n v.n⟩⟩ := by simp [sg, hn]
    rw [e]
    refine ⟨h1, by simp; omega, by simp; omega, fun h => by simp at h; omega, fun _ => ?_⟩
    by_cases hk : s.known = 0
    · obtain ⟨_, _, q3⟩ := h4 hk
      simp only [hk, if_true, q3]
      refine ⟨trivial, trivial, hb.1, Int.le_refl _, hb.2, by omega, by omega⟩
    · obtain ⟨p1, p2, p3, p4, p5, p6, p7⟩ := h5 hk
      simp only [hk, if_false]
      have hk0 : 0 ≤ s.known := h2.1
      have m1 : s.known * min s.low.n v.n ≤ s.known * s.low.n := Int.mul_le_mul_of_nonneg_left (by omega) hk0
      have m2 : s.known * s.high.n ≤ s.known * max s.high.n v.n := Int.mul_le_mul_of_nonneg_left (by omega) hk0
      refine ⟨trivial, trivial, by omega, by omega, by omega, ?_, ?_⟩
      · rw [Int.add_mul, Int.one_mul]; omega
      · rw [Int.add_mul, Int.one_mul]; omega

theorem sumL_inv (r : Int) : ∀ (n : Nat) (l : List Val), l.length = n → (∀ v ∈ l, okV v = true) → SumI r l (sumL r l)
  | 0, l, hl, _ => by
    have : l = [] := List.length_eq_zero_iff.1 hl
    subst this
    exact ⟨rfl, by simp [sumL], by simp [sumL], fun _ => ⟨rfl, rfl, rfl⟩, fun h => absurd rfl h⟩
  | n + 1, l, hl, hv => by
    rcases List.eq_nil_or_concat l with rfl | ⟨l', v, rfl⟩
    · simp at hl
    · rw [List.concat_eq_append] at hl hv ⊢
      rw [sumL_snoc]
      exact sg_inv (sumL_inv r n l' (by simpa using hl) fun w hw => hv w (by simp [hw])) (hv v (by simp))

theorem sumOf_eq {h : Heap} {v : V} {l : List Val} (hs : Sl h v l) (hl : l.length ≤ 40) (hv : ∀ x ∈ l, okV x = true) : call p 103 [v] h = some (.agg (sc (sumL l.length l)), h) := by
  refine go_eq (fn := g103) rfl rfl fun R hR => ?_
  simp [g103, hs.len, fillL]
  refine Wc_upJ l.length (fun i s => s.σ 11 = .v v ∧ s.σ 12 = .v (vi l.length) ∧ s.σ 13 = .v (vi i) ∧ s.σ 3 = .lp 3 1 0 ∧ s.L 3 = (1, sc (sumL l.length (l.take i))) ∧ s.σ 2 = .lp 2 1 0 ∧ s.L 2 = (1, sc zSm) ∧ s.h = h) 0
    ⟨by simp, by simp, by simp, by simp, by simp [upd, sumL], by simp, by simp [upd, zSm], rfl⟩ fun i s ⟨g11, g12, g13, g3, gL, g2, gL2, gh⟩ J hJ => ?_
  by_cases hn : i < l.length
  · have hsn : sumL l.length (l.take (i + 1)) = sg (sumL l.length (l.take i)) l[i] := by rw [List.take_succ_eq_append_getElem hn, sumL_snoc]
    have hinv := sumL_inv l.length i (l.take i) (by simp; omega) fun x hx => hv x (List.mem_of_mem_take hx)
    generalize sumL l.length (l.take i) = sm at gL hinv hsn
    have hok := hv l[i] (by simp)
    cases hnull : l[i].null with
    | true =>
      have hsame : sg sm l[i] = sm := by simp [sg, hnull]
      rw [hsame] at hsn
      simp [g103_0, g11, g12, g13, gh, hn, hs.idx, hs.loadV, hnull, hs.step hn, upd]
      exact hJ _ hn ⟨by simp [g11], by simp [g12], by simp, by simp [g3], by simp [gL, hsn], by simp [g2], by simp [gL2], rfl⟩
    | false =>
      have hb := okV_val hok hnull
      obtain ⟨q1, q2, q3, q4, q5⟩ := hinv
      have hlen : (l.take i).length = i := by simp; omega
      rw [hlen] at q2 q3
      have w1 : IntKind.i64.wrap (sm.known + 1) = sm.known + 1 := by rw [IntWalk.i64_in] <;> omega
      have w2 : IntKind.i64.wrap (sm.total + l[i].n) = sm.total + l[i].n := by rw [IntWalk.i64_in] <;> omega
      by_cases hk : sm.known = 0
      · obtain ⟨p1, p2, p3⟩ := q4 hk
        have w1' : IntKind.i64.wrap 1 = 1 := by decide
        have w2' : IntKind.i64.wrap l[i].n = l[i].n := by rw [IntWalk.i64_in] <;> omega
        simp [g103_0, g11, g12, g13, g3, gL, gh, hn, hs.idx, hs.loadV, hnull, hs.step hn, upd, hk, w1', w2', p1, p2, p3]
        exact hJ _ hn ⟨by simp [g11], by simp [g12], by simp, by simp [g3], by simp [hsn, sg, hnull, hk, p3], by simp [g2], by simp [upd, gL2], rfl⟩
      · obtain ⟨p1, p2, p3, p4, p5, _, _⟩ := q5 hk
        simp [g103_0, g11, g12, g13, g3, gL, gh, hn, hs.idx, hs.loadV, hnull, hs.step hn, upd, hk, w1, w2, p1, p2]
        refine hJ _ hn ⟨by simp [g11], by simp [g12], by simp, by simp [g3], ?_, by simp [g2], by simp [upd, gL2], rfl⟩
        simp [hsn, sg, hnull, hk]
        constructor <;> split <;> omega
  · rw [List.take_of_length_le (by omega)] at gL
    simp [g103_0, g12, g13, g3, gL, g2, gL2, gh, hn, upd, resV]
    exact hR
end GL
/-! GL: what code does not touch. -/
namespace GL
open Go

def xmods : List AOper → List Nat
  | [] => []
  | o :: r => (match o.dst with | some t => [t] | none => []) ++ xmods r

/-- the slots that code may set -/
def mods : Code → List Nat
  | .reg _ ops => xmods ops
  | .seq a b => mods a ++ mods b
  | .cond _ a b => mods a ++ mods b
  | .block _ c => mods c
  | .loop c => mods c
  | _ => []

theorem put_mods (s : S) (d : Option Nat) (x : T) {k : Nat} (hk : k ∉ (match d with | some t => [t] | none => [])) : (s.put d x).σ k = s.σ k := by
  cases d with
  | none => rfl
  | some t =>
    have : k ≠ t := by simpa using hk
    simp [S.put, upd, this]

theorem xop_mods {c : CallF} {o : AOper} {s s' : S} (h : xop c o s = some s') {k : Nat} (hk : k ∉ (match o.dst with | some t => [t] | none => [])) : s'.σ k = s.σ k := by
  unfold xop at h
  obtain ⟨b, _, h⟩ := Option.bind_eq_some_iff.1 h
  split at h
  · unfold aop at h
    split at h
    · obtain ⟨x, _, h⟩ := Option.bind_eq_some_iff.1 h
      cases h; exact put_mods _ _ _ hk
    · obtain ⟨r, _, h⟩ := Option.bind_eq_some_iff.1 h
      cases h; exact put_mods { s with L := r.2 } _ _ hk
    · obtain ⟨r, _, h⟩ := Option.bind_eq_some_iff.1 h
      split at h
      · split at h
        · cases h; exact put_mods { s with wt := _ } _ _ hk
        · cases h
      · cases h; exact put_mods _ _ _ hk
    · obtain ⟨r, _, h⟩ := Option.bind_eq_some_iff.1 h
      split at h
      · cases h; exact put_mods { s with h := _ } _ _ hk
      · cases h
    · obtain ⟨r, _, h⟩ := Option.bind_eq_some_iff.1 h
      split at h
      · cases h; exact put_mods { s with h := _, fl := _ } _ _ hk
      · cases h
  · cases h; exact put_mods _ _ _ hk

theorem xops_mods {c : CallF} : ∀ {l : List AOper} {s s' : S}, xops c l s = some s' → ∀ {k : Nat}, k ∉ xmods l → s'.σ k = s.σ k
  | [], s, s', h, k, _ => by simp [xops] at h; rw [h]
  | o :: r, s, s', h, k, hk => by
    simp only [xops] at h
    obtain ⟨s1, h1, h⟩ := Option.bind_eq_some_iff.1 h
    rw [xops_mods h fun hm => hk (List.mem_append_right _ hm), xop_mods h1 fun hm => hk (List.mem_append_left _ hm)]

theorem den_mods {p : Prog} : ∀ {c : Code} {s : S} {e : Ex} {s' : S}, den p c s = some (e, s') → ∀ {k : Nat}, k ∉ mods c → s'.σ k = s.σ k := by
  intro c
  induction c with
  | skip => intro s e s' h k _; simp [den] at h; rw [h.2]
  | exit i => intro s e s' h k _; simp [den] at h; rw [h.2]
  | ret => intro s e s' h k _; simp [den] at h; rw [h.2]
  | bad => intro s e s' h k _; simp [den] at h
  | reg n l =>
    intro s e s' h k hk
    simp only [den] at h
    obtain ⟨s1, h1, h⟩ := Option.bind_eq_some_iff.1 h
    cases h
    exact (xops_mods h1 hk).trans rfl
  | seq a b iha ihb =>
    intro s e s' h k hk
    simp only [den] at h
    obtain ⟨⟨e1, s1⟩, h1, h⟩ := Option.bind_eq_some_iff.1 h
    have ha := iha h1 (k := k) fun hm => hk (List.mem_append_left _ hm)
    cases e1 with
    | norm => rw [ihb h fun hm => hk (List.mem_append_right _ hm), ha]
    | exit i => cases h; exact ha
    | ret => cases h; exact ha
  | cond c a b iha ihb =>
    intro s e s' h k hk
    simp only [den] at h
    split at h
    · exact iha h fun hm => hk (List.mem_append_left _ hm)
    · exact ihb h fun hm => hk (List.mem_append_right _ hm)
    · cases h
  | block i c ih =>
    intro s e s' h k hk
    simp only [den] at h
    obtain ⟨⟨e1, s1⟩, h1, h⟩ := Option.bind_eq_some_iff.1 h
    have ha := ih h1 (k := k) hk
    cases e1 with
    | norm => cases h; exact ha
    | ret => cases h; exact ha
    | exit j =>
      simp only at h
      split at h <;> (cases h; exact ha)
  | loop c ih =>
    intro s e s' h k hk
    obtain ⟨n, h0⟩ := den_loop.1 h
    clear h
    revert h0
    induction n generalizing s with
    | zero => intro h; simp [loopN] at h
    | succ n ihn =>
      intro h
      simp only [loopN] at h
      obtain ⟨⟨e1, s1⟩, h1, h⟩ := Option.bind_eq_some_iff.1 h
      have ha := ih h1 (k := k) hk
      cases e1 with
      | norm => exact (ihn h).trans ha
      | exit i => cases h; exact ha
      | ret => cases h; exact ha

/-- a loop that counts up to n, with what it leaves alone -/
theorem Wc_upM {p : Prog} {c : Code} {s0 : S} {Q : Ex → S → Prop} {M : List Nat} (hm : ((mods c).all fun k => M.contains k) = true) (n : Nat) (I : Nat → S → Prop) (i : Nat) (h0 : I i s0)
    (hb : ∀ i s, I i s → (∀ k, k ∉ M → s.σ k = s0.σ k) → ∀ J : S → Prop, (∀ s', i < n → I (i + 1) s' → J s') → Wc p c s (stepK J Q)) : Wc p (.loop c) s0 Q := by
  have hm' : ∀ k, k ∉ M → k ∉ mods c := fun k hk hc => hk (by simpa using List.all_eq_true.1 hm k hc)
  refine Wc_up n (fun i s => I i s ∧ ∀ k, k ∉ M → s.σ k = s0.σ k) i ⟨h0, fun _ _ => rfl⟩ fun i s ⟨hI, hM⟩ => ?_
  obtain ⟨⟨e, s'⟩, h1, hq⟩ := hb i s hI hM (fun s' => i < n ∧ I (i + 1) s') fun s' h1 h2 => ⟨h1, h2⟩
  refine ⟨(e, s'), h1, ?_⟩
  cases e with
  | norm => exact ⟨hq.1, hq.2, fun k hk => (den_mods h1 (hm' k hk)).trans (hM k hk)⟩
  | exit x => exact hq
  | ret => exact hq

/-- a loop that goes down, with what it leaves alone -/
theorem Wc_dnM {p : Prog} {c : Code} {s0 : S} {Q : Ex → S → Prop} {M : List Nat} (hm : ((mods c).all fun k => M.contains k) = true) (I : Nat → S → Prop) (k0 : Nat) (h0 : I k0 s0)
    (hb : ∀ k s, I k s → (∀ k, k ∉ M → s.σ k = s0.σ k) → ∀ J : S → Prop, (∀ j s', j < k → I j s' → J s') → Wc p c s (stepK J Q)) : Wc p (.loop c) s0 Q := by
  have hm' : ∀ k, k ∉ M → k ∉ mods c := fun k hk hc => hk (by simpa using List.all_eq_true.1 hm k hc)
  refine Wc_loop (fun i s => I i s ∧ ∀ k, k ∉ M → s.σ k = s0.σ k) k0 ⟨h0, fun _ _ => rfl⟩ fun i s ⟨hI, hM⟩ => ?_
  obtain ⟨⟨e, s'⟩, h1, hq⟩ := hb i s hI hM (fun s' => ∃ j, j < i ∧ I j s') fun j s' h1 h2 => ⟨j, h1, h2⟩
  refine ⟨(e, s'), h1, ?_⟩
  cases e with
  | norm => exact let ⟨j, h2, h3⟩ := hq; ⟨j, h2, h3, fun k hk => (den_mods h1 (hm' k hk)).trans (hM k hk)⟩
  | exit x => exact hq
  | ret => exact hq
end GL
namespace GL
open Go

theorem areValues_eq {h : Heap} {v : V} {l : List Val} (hs : Sl h v l) : call p 102 [v] h = some (.bool (l.all okV), h) := by
  refine go_eq (fn := g102) rfl rfl fun R hR => ?_
  simp [g102, hs.len]
  refine Wc_upM (M := [2, 4, 7, 8, 9, 10, 11, 12, 13, 14]) rfl l.length (fun i s => s.σ 7 = .v (vi i) ∧ s.h = h ∧ ∀ x ∈ l.take i, okV x = true) 0 (by simp) fun i s ⟨g7, gh, hall⟩ hM J hJ => ?_
  by_cases hn : i < l.length
  · cases hx : okV l[i] with
    | true =>
      simp [g102_0, hM, g7, gh, hn, hs.idx, hs.loadV, hs.step hn, upd, hx]
      exact hJ _ hn ⟨by simp, rfl, by rw [List.take_succ_eq_append_getElem hn]; intro x hm; rcases List.mem_append.1 hm with hm | hm; exact hall x hm; simp at hm; rw [hm]; exact hx⟩
    | false =>
      simp [g102_0, hM, g7, gh, hn, hs.idx, hs.loadV, upd, hx]
      have : l.all okV = false := by simpa using ⟨l[i], by simp, by simp [hx]⟩
      simpa [this] using hR
  · have : l.all okV = true := by rw [List.take_of_length_le (by omega)] at hall; simpa using hall
    simp [g102_0, hM, g7, gh, hn]
    simpa [this] using hR

theorem l4Values_eq {h : Heap} {v : V} {l : List Val} (hs : Sl h v l) : call p 104 [v] h = some (.bool (l.all okV && decide (l.length ≤ 40)), h) := by
  refine go_eq (fn := g104) rfl rfl fun R hR => ?_
  simp [g104, hs.len]
  refine Wc_upM (M := [2, 4, 7, 8, 9, 10, 11, 12, 13, 14]) rfl l.length (fun i s => s.σ 7 = .v (vi i) ∧ s.h = h ∧ ∀ x ∈ l.take i, okV x = true) 0 (by simp) fun i s ⟨g7, gh, hall⟩ hM J hJ => ?_
  by_cases hn : i < l.length
  · cases hx : okV l[i] with
    | true =>
      simp [g104_0, hM, g7, gh, hn, hs.idx, hs.loadV, hs.step hn, upd, hx]
      exact hJ _ hn ⟨by simp, rfl, by rw [List.take_succ_eq_append_getElem hn]; intro x hm; rcases List.mem_append.1 hm with hm | hm; exact hall x hm; simp at hm; rw [hm]; exact hx⟩
    | false =>
      simp [g104_0, hM, g7, gh, hn, hs.idx, hs.loadV, upd, hx]
      have : l.all okV = false := by simpa using ⟨l[i], by simp, by simp [hx]⟩
      simpa [this] using hR
  · have : l.all okV = true := by rw [List.take_of_length_le (by omega)] at hall; simpa using hall
    have e : (decide ((l.length : Int) ≤ 40)) = decide (l.length ≤ 40) := by congr 1; simp; omega
    simp [g104_0, hM, g7, gh, hn, hs.len, e]
    simpa [this] using hR

theorem sumOfR_eq {h : Heap} {v : V} {l : List Val} (hs : Sl h v l) :
    call p 29 [v] h = some (.tup (if l.length ≤ 40 ∧ l.all okV = true then [.agg (sc (sumL l.length l)), .bool true] else [.agg (sc zSm), .bool false]), h) := by
  refine go_eq (fn := g29) rfl rfl fun R hR => ?_
  by_cases h1 : l.length ≤ 40
  · have h1' : ¬ (40 : Int) < l.length := by omega
    cases h2 : l.all okV with
    | true =>
      have := sumOf_eq hs h1 (by simpa using h2)
      simp [g29, hs.len, h1', areValues_eq hs, h2, this, fillL, resV, upd]
      simpa [h1, h2] using hR
    | false =>
      simp [g29, hs.len, h1', areValues_eq hs, h2, fillL, resV, upd]
      simpa [h2, zSm] using hR
  · have h1' : (40 : Int) < l.length := by omega
    simp [g29, hs.len, h1', fillL, resV, upd]
    simpa [h1, zSm] using hR

theorem sg_rows (s : Sm) (r : Int) (v : Val) : sg { s with rows := r } v = { sg s v with rows := r } := by
  unfold sg; split <;> rfl
theorem sumL_rows (r r' : Int) (l : List Val) : sumL r' l = { sumL r l with rows := r' } := by
  unfold sumL
  have : ∀ (l : List Val) (s : Sm), l.foldl sg { s with rows := r' } = { l.foldl sg s with rows := r' } := by
    intro l
    induction l with
    | nil => intro s; rfl
    | cons v l ih => intro s; simp only [List.foldl_cons]; rw [sg_rows, ih]
  exact this l ⟨r, 0, 0, ⟨true, 0⟩, ⟨true, 0⟩⟩

theorem l4None_eq (h : Heap) : call p 105 [] h = some (.agg (sc (sumL 0 [])), h) := by
  refine go_eq (fn := g105) rfl rfl fun R hR => ?_
  simp [g105, fillL, resV, upd]
  simpa [sumL] using hR

theorem l4Add_eq {l : List Val} {r : Nat} {v : Val} (hr : r ≤ 100) (hl : l.length ≤ 100) (hall : ∀ x ∈ l, okV x = true) (hv : okV v = true) (h : Heap) :
    call p 106 [.agg (sc (sumL r l)), vv v] h = some (.agg (sc (sumL (r + 1 : Nat) (l ++ [v]))), h) := by
  have hinv := sumL_inv r _ l rfl hall
  have hrows : sumL (r + 1 : Nat) (l ++ [v]) = { sg (sumL r l) v with rows := (r + 1 : Nat) } := by rw [sumL_rows r, sumL_snoc]
  rw [hrows]
  generalize sumL r l = sm at hinv
  obtain ⟨q1, q2, q3, q4, q5⟩ := hinv
  have w0 : IntKind.i64.wrap (sm.rows + 1) = (r + 1 : Nat) := by rw [q1, IntWalk.i64_in] <;> omega
  refine go_eq (fn := g106) rfl rfl fun R hR => ?_
  cases hnull : v.null with
  | true =>
    simp [g106, fillL, resV, upd, hnull, w0]
    simpa [sg, hnull] using hR
  | false =>
    have hb := okV_val hv hnull
    have w1 : IntKind.i64.wrap (sm.known + 1) = sm.known + 1 := by rw [IntWalk.i64_in] <;> omega
    have w2 : IntKind.i64.wrap (sm.total + v.n) = sm.total + v.n := by rw [IntWalk.i64_in] <;> omega
    by_cases hk : sm.known = 0
    · obtain ⟨p1, p2, p3⟩ := q4 hk
      have w1' : IntKind.i64.wrap 1 = 1 := by decide
      have w2' : IntKind.i64.wrap v.n = v.n := by rw [IntWalk.i64_in] <;> omega
      simp [g106, fillL, resV, upd, hnull, w0, w1', w2', hk, p3]
      simpa [sg, hnull, hk, p3] using hR
    · obtain ⟨p1, p2, p3, p4, p5, _, _⟩ := q5 hk
      have hk1 : ¬ sm.known + 1 = 1 := by omega
      have e1 : min sm.low.n v.n = if v.n < sm.low.n then v.n else sm.low.n := by omega
      have e2 : max sm.high.n v.n = if sm.high.n < v.n then v.n else sm.high.n := by omega
      simp [sg, hnull, hk, e1, e2] at hR
      by_cases c1 : v.n < sm.low.n
      · have c2 : ¬ sm.high.n < v.n := by omega
        simp [g106, fillL, resV, upd, hnull, w0, w1, w2, hk1, c1, c2, p2]
        simpa [c1, c2] using hR
      · by_cases c2 : sm.high.n < v.n
        · simp [g106, fillL, resV, upd, hnull, w0, w1, w2, hk1, c1, c2, p1]
          simpa [c1, c2] using hR
        · simp [g106, fillL, resV, upd, hnull, w0, w1, w2, hk1, c1, c2, p1, p2]
          simpa [c1, c2] using hR

theorem sumOfS_eq {h : Heap} {v : V} {l : List Val} (hs : Sl h v l) :
    call p 30 [v] h = some (.tup (if l.length ≤ 40 ∧ l.all okV = true then [.agg (sc (sumL l.length l)), .bool true] else [.agg (sc zSm), .bool false]), h) := by
  refine go_eq (fn := g30) rfl rfl fun R hR => ?_
  by_cases hok : l.length ≤ 40 ∧ l.all okV = true
  · rw [if_pos hok] at hR
    have hall : ∀ x ∈ l, okV x = true := by simpa using hok.2
    simp [g30, hs.len, l4Values_eq hs, hok.1, hok.2, fillL, l4None_eq]
    refine Wc_upM (M := [6, 14, 15, 16, 17, 18, 19, 20, 21]) rfl l.length (fun i s => i ≤ l.length ∧ s.σ 14 = .v (vi i) ∧ s.h = h ∧ s.L 4 = (1, sc (sumL i (l.take i))) ∧ s.L 2 = (1, sc zSm)) 0 (by simp [upd, zSm]) fun i s ⟨gi, g14, gh, gL, gL2⟩ hM J hJ => ?_
    by_cases hn : i < l.length
    · have e := l4Add_eq (l := l.take i) (r := i) (v := l[i]) (by omega) (by simp; omega) (fun x hx => hall x (List.mem_of_mem_take hx)) (hall _ (by simp)) h
      rw [← List.take_succ_eq_append_getElem hn] at e
      simp [g30_0, hM, g14, gh, gL, hn, hs.idx, hs.loadV, hs.step hn, upd, e]
      exact hJ _ hn ⟨hn, by simp, rfl, by simp [upd], by simp [upd, gL2]⟩
    · have hi : sumL i (l.take i) = sumL l.length l := by
        have : i = l.length := by omega
        subst this; rw [List.take_length]
      simp [g30_0, hM, g14, gh, gL, gL2, hn, resV, upd]
      simpa [hi] using hR
  · rw [if_neg hok] at hR
    have : (l.all okV && decide (l.length ≤ 40)) = false := by
      cases h2 : l.all okV
      · rfl
      · simp; exact Nat.lt_of_not_le fun h1 => hok ⟨h1, h2⟩
    simp [g30, l4Values_eq hs, this, fillL, resV, upd]
    simpa [zSm] using hR
end GL
namespace GL
open Go

theorem GoodValue_mk (b : Bool) (n : Int) (h : Heap) : call p 25 [.agg [.bool b, vi n]] h = some (.bool (okV ⟨b, n⟩), h) := GoodValue_eq ⟨b, n⟩ h
theorem GoodValueS_mk (b : Bool) (n : Int) (h : Heap) : call p 26 [.agg [.bool b, vi n]] h = some (.bool (okV ⟨b, n⟩), h) := GoodValueS_eq ⟨b, n⟩ h

/-- is a sum good? -/
def goodS (s : Sm) : Bool :=
  decide (0 ≤ s.rows ∧ s.rows ≤ 10000) && decide (0 ≤ s.known ∧ s.known ≤ s.rows) && decide (-1000000 ≤ s.total ∧ s.total ≤ 1000000) && okV s.low && okV s.high &&
    (if s.known = 0 then s.low.null && s.high.null && decide (s.total = 0) else !s.low.null && !s.high.null && decide (s.low.n ≤ s.high.n) && decide (s.known * s.low.n ≤ s.total ∧ s.total ≤ s.known * s.high.n))

theorem mul_in {k n : Int} (h1 : 0 ≤ k ∧ k ≤ 10000) (h2 : -1000 ≤ n ∧ n ≤ 1000) : IntKind.i64.wrap (k * n) = k * n := by
  have a : k * n ≤ k * 1000 := Int.mul_le_mul_of_nonneg_left h2.2 h1.1
  have b : k * -1000 ≤ k * n := Int.mul_le_mul_of_nonneg_left h2.1 h1.1
  rw [IntWalk.i64_in] <;> omega

theorem GoodSum_eq (s : Sm) (h : Heap) : call p 34 [.agg (sc s)] h = some (.bool (goodS s), h) := by
  refine go_eq (fn := g34) rfl rfl fun R hR => ?_
  obtain ⟨r, k, t, ⟨ln, l⟩, ⟨hn, g⟩⟩ := s
  by_cases h1 : 0 ≤ r ∧ r ≤ 10000
  · by_cases h2 : 0 ≤ k ∧ k ≤ r
    · by_cases h3 : -1000000 ≤ t ∧ t ≤ 1000000
      · cases h4 : okV ⟨ln, l⟩
        · simp [g34, fillL, upd, h1, h2, h3, h4, GoodValue_mk, -Bool.decide_and]
          simpa [goodS, h4, -Bool.decide_and] using hR
        · cases h5 : okV ⟨hn, g⟩
          · simp [g34, fillL, upd, h1, h2, h3, h4, h5, GoodValue_mk, -Bool.decide_and]
            simpa [goodS, h5, -Bool.decide_and] using hR
          · by_cases h6 : k = 0
            · subst h6
              simp [goodS, h1, h3, h4, h5, -Bool.decide_and] at hR
              cases ln <;> cases hn <;> by_cases h9 : t = 0 <;> simp [g34, fillL, upd, h1, h3, h4, h5, h9, GoodValue_mk, -Bool.decide_and] <;> simpa [h9] using hR
            · simp [goodS, h1, h2, h3, h4, h5, h6, -Bool.decide_and] at hR
              cases ln with
              | true =>
                simp [g34, fillL, upd, h1, h2, h3, h4, h5, h6, GoodValue_mk, -Bool.decide_and]
                simpa using hR
              | false =>
                cases hn with
                | true =>
                  simp [g34, fillL, upd, h1, h2, h3, h4, h5, h6, GoodValue_mk, -Bool.decide_and]
                  simpa using hR
                | false =>
                  have w1 := mul_in (k := k) ⟨h2.1, by omega⟩ (okV_val h4 rfl)
                  have w2 := mul_in (k := k) ⟨h2.1, by omega⟩ (okV_val h5 rfl)
                  by_cases h9 : l ≤ g
                  · simp [g34, fillL, upd, h1, h2, h3, h4, h5, h6, h9, w1, w2, GoodValue_mk, -Bool.decide_and]
                    simpa [h9, -Bool.decide_and] using hR
                  · simp [g34, fillL, upd, h1, h2, h3, h4, h5, h6, h9, GoodValue_mk, -Bool.decide_and]
                    simpa [h9] using hR
      · simp [g34, fillL, upd, h1, h2, h3, -Bool.decide_and]
        simpa [goodS, h3, -Bool.decide_and] using hR
    · simp [g34, fillL, upd, h1, h2, -Bool.decide_and]
      simpa [goodS, h2, -Bool.decide_and] using hR
  · simp [g34, fillL, upd, h1, -Bool.decide_and]
    simpa [goodS, h1, -Bool.decide_and] using hR
theorem GoodSumS_eq (s : Sm) (h : Heap) : call p 39 [.agg (sc s)] h = some (.bool (goodS s), h) := by
  refine go_eq (fn := g39) rfl rfl fun R hR => ?_
  obtain ⟨r, k, t, ⟨ln, l⟩, ⟨hn, g⟩⟩ := s
  by_cases h1 : 0 ≤ r ∧ r ≤ 10000
  · by_cases h2 : 0 ≤ k ∧ k ≤ r
    · by_cases h3 : -1000000 ≤ t ∧ t ≤ 1000000
      · cases h4 : okV ⟨ln, l⟩
        · simp [g39, fillL, upd, h1, h2, h3, h4, GoodValueS_mk, -Bool.decide_and]
          simpa [goodS, h4, -Bool.decide_and] using hR
        · cases h5 : okV ⟨hn, g⟩
          · simp [g39, fillL, upd, h1, h2, h3, h4, h5, GoodValueS_mk, -Bool.decide_and]
            simpa [goodS, h5, -Bool.decide_and] using hR
          · by_cases h6 : k = 0
            · subst h6
              simp [goodS, h1, h3, h4, h5, -Bool.decide_and] at hR
              cases ln <;> cases hn <;> by_cases h9 : t = 0 <;> simp [g39, fillL, upd, h1, h3, h4, h5, h9, GoodValueS_mk, -Bool.decide_and] <;> simpa [h9] using hR
            · simp [goodS, h1, h2, h3, h4, h5, h6, -Bool.decide_and] at hR
              cases ln with
              | true =>
                simp [g39, fillL, upd, h1, h2, h3, h4, h5, h6, GoodValueS_mk, -Bool.decide_and]
                simpa using hR
              | false =>
                cases hn with
                | true =>
                  simp [g39, fillL, upd, h1, h2, h3, h4, h5, h6, GoodValueS_mk, -Bool.decide_and]
                  simpa using hR
                | false =>
                  have w1 := mul_in (k := k) ⟨h2.1, by omega⟩ (okV_val h4 rfl)
                  have w2 := mul_in (k := k) ⟨h2.1, by omega⟩ (okV_val h5 rfl)
                  by_cases h9 : l ≤ g
                  · simp [g39, fillL, upd, h1, h2, h3, h4, h5, h6, h9, w1, w2, GoodValueS_mk, -Bool.decide_and]
                    simpa [h9, -Bool.decide_and] using hR
                  · simp [g39, fillL, upd, h1, h2, h3, h4, h5, h6, h9, GoodValueS_mk, -Bool.decide_and]
                    simpa [h9] using hR
      · simp [g39, fillL, upd, h1, h2, h3, -Bool.decide_and]
        simpa [goodS, h3, -Bool.decide_and] using hR
    · simp [g39, fillL, upd, h1, h2, -Bool.decide_and]
      simpa [goodS, h2, -Bool.decide_and] using hR
  · simp [g39, fillL, upd, h1, -Bool.decide_and]
    simpa [goodS, h1, -Bool.decide_and] using hR
end GL
/-! GL: data with slices inside. -/
namespace GL
open Go

/-- data in memory: its cells, and the blocks that it lies in -/
class Data (α : Type) where
  sz : Nat
  pos : 0 < sz
  rep : Heap → α → List V → List Nat → Prop
  len : ∀ {h a cs F}, rep h a cs F → cs.length = sz
  ok : ∀ {h a cs F}, rep h a cs F → allCell cs = true
  keeps : ∀ {h h' a cs F}, rep h a cs F → KeepsP (fun b => b ∈ F) h h' → rep h' a cs F
  lt : ∀ {h a cs F b}, rep h a cs F → b ∈ F → ∃ blk, h[b]? = some blk ∧ blk.st ≠ .dead

theorem KeepsP.mono {P Q : Nat → Prop} {h h' : Heap} (hk : KeepsP P h h') (hq : ∀ b, Q b → P b) : KeepsP Q h h' := fun b blk hb => hk b blk (hq b hb)
theorem KeepsP.trans {P : Nat → Prop} {a b c : Heap} (h1 : KeepsP P a b) (h2 : KeepsP P b c) : KeepsP P a c := fun i blk hp h hl => h2 i blk hp (h1 i blk hp h hl) hl
theorem KeepsP.refl (P : Nat → Prop) (h : Heap) : KeepsP P h h := fun _ _ _ h _ => h
theorem Keeps.p {h h' : Heap} (hk : Keeps h h') (P : Nat → Prop) : KeepsP P h h' := fun b blk _ hb hl => hk b blk hb hl

instance flatData {α : Type} [Flat α] : Data α where
  sz := Flat.sz α
  pos := Flat.pos
  rep := fun _ a cs F => cs = Flat.cells a ∧ F = []
  len := by rintro h a cs F ⟨rfl, _⟩; exact Flat.len a
  ok := by rintro h a cs F ⟨rfl, _⟩; exact Flat.ok a
  keeps := fun h _ => h
  lt := by rintro h a cs F b ⟨_, rfl⟩ hb; cases hb

section
variable {α : Type} [Data α]

def Reps (h : Heap) : List α → List V → List Nat → Prop
  | [], cs, F => cs = [] ∧ F = []
  | x :: xs, cs, F => ∃ c r F1 F2, cs = c ++ r ∧ F = F1 ++ F2 ∧ Data.rep h x c F1 ∧ Reps h xs r F2

theorem Reps.nil {h : Heap} : Reps h ([] : List α) [] [] := ⟨rfl, rfl⟩
theorem Reps.one {h : Heap} {x : α} {c : List V} {F : List Nat} (hr : Data.rep h x c F) : Reps h [x] c F := ⟨c, [], F, [], by simp, by simp, hr, .nil⟩
theorem Reps.len {h : Heap} : ∀ {xs : List α} {cs : List V} {F : List Nat}, Reps h xs cs F → cs.length = xs.length * Data.sz α
  | [], cs, F, hr => by simp [hr.1]
  | x :: xs, cs, F, ⟨c, r, F1, F2, e, _, h1, h2⟩ => by
    subst e
    rw [List.length_append, Data.len h1, Reps.len h2, List.length_cons, Nat.add_mul]; omega
theorem Reps.ok {h : Heap} : ∀ {xs : List α} {cs : List V} {F : List Nat}, Reps h xs cs F → allCell cs = true
  | [], cs, F, hr => by rw [hr.1]; rfl
  | x :: xs, cs, F, ⟨c, r, F1, F2, e, _, h1, h2⟩ => by
    subst e
    have a := Data.ok h1
    have b := Reps.ok h2
    simp only [allCell, List.all_append, Bool.and_eq_true] at a b ⊢
    exact ⟨a, b⟩
theorem Reps.keeps {h h' : Heap} : ∀ {xs : List α} {cs : List V} {F : List Nat}, Reps h xs cs F → KeepsP (fun b => b ∈ F) h h' → Reps h' xs cs F
  | [], cs, F, hr, _ => hr
  | x :: xs, cs, F, ⟨c, r, F1, F2, e, f, h1, h2⟩, hk => by
    subst f
    exact ⟨c, r, F1, F2, e, rfl, Data.keeps h1 (hk.mono fun b hb => List.mem_append_left _ hb), Reps.keeps h2 (hk.mono fun b hb => List.mem_append_right _ hb)⟩
theorem Reps.lt {h : Heap} : ∀ {xs : List α} {cs : List V} {F : List Nat} {b : Nat}, Reps h xs cs F → b ∈ F → ∃ blk, h[b]? = some blk ∧ blk.st ≠ .dead
  | [], cs, F, b, hr, hb => by rw [hr.2] at hb; cases hb
  | x :: xs, cs, F, b, ⟨c, r, F1, F2, e, f, h1, h2⟩, hb => by
    subst f
    rcases List.mem_append.1 hb with hb | hb
    · exact Data.lt h1 hb
    · exact Reps.lt h2 hb
theorem Reps.append {h : Heap} : ∀ {xs ys : List α} {cs ds : List V} {F G : List Nat}, Reps h xs cs F → Reps h ys ds G → Reps h (xs ++ ys) (cs ++ ds) (F ++ G)
  | [], ys, cs, ds, F, G, hr, hs => by rw [hr.1, hr.2]; exact hs
  | x :: xs, ys, cs, ds, F, G, ⟨c, r, F1, F2, e, f, h1, h2⟩, hs => ⟨c, r ++ ds, F1, F2 ++ G, by simp [e], by simp [f], h1, Reps.append h2 hs⟩
theorem Reps.split {h : Heap} : ∀ {xs ys : List α} {cs : List V} {F : List Nat}, Reps h (xs ++ ys) cs F → ∃ c1 c2 F1 F2, cs = c1 ++ c2 ∧ F = F1 ++ F2 ∧ Reps h xs c1 F1 ∧ Reps h ys c2 F2
  | [], ys, cs, F, hr => ⟨[], cs, [], F, rfl, rfl, .nil, hr⟩
  | x :: xs, ys, cs, F, ⟨c, r, F1, F2, e, f, h1, h2⟩ => by
    obtain ⟨c1, c2, G1, G2, e2, f2, h3, h4⟩ := Reps.split (xs := xs) h2
    exact ⟨c ++ c1, c2, F1 ++ G1, G2, by simp [e, e2], by simp [f, f2], ⟨c, c1, F1, G1, rfl, rfl, h1, h3⟩, h4⟩
theorem Reps.cut2 {h : Heap} {xs : List α} {cs : List V} {F : List Nat} (hr : Reps h xs cs F) (i : Nat) (hi : i ≤ xs.length) :
    ∃ F1 F2, F = F1 ++ F2 ∧ Reps h (xs.take i) (cs.take (i * Data.sz α)) F1 ∧ Reps h (xs.drop i) (cs.drop (i * Data.sz α)) F2 := by
  rw [← List.take_append_drop i xs] at hr
  obtain ⟨c1, c2, F1, F2, e, f, h1, h2⟩ := hr.split
  have hl := h1.len
  have ht : (xs.take i).length = i := by simp; omega
  rw [ht] at hl
  subst e
  refine ⟨F1, F2, f, ?_, ?_⟩
  · rw [← hl, List.take_left']; exact h1; rfl
  · rw [← hl, List.drop_left']; exact h2; rfl
theorem Reps.get {h : Heap} {xs : List α} {cs : List V} {F : List Nat} (hr : Reps h xs cs F) (i : Nat) (hi : i < xs.length) :
    ∃ F1 F2 F3, F = F1 ++ F2 ++ F3 ∧ Data.rep h xs[i] ((cs.drop (i * Data.sz α)).take (Data.sz α)) F2 ∧ Reps h (xs.take i) (cs.take (i * Data.sz α)) F1 ∧ Reps h (xs.drop (i + 1)) (cs.drop ((i + 1) * Data.sz α)) F3 := by
  obtain ⟨F1, F2, f, h1, h2⟩ := hr.cut2 i (by omega)
  rw [List.drop_eq_getElem_cons hi] at h2
  obtain ⟨c, r, G1, G2, e, g, h3, h4⟩ := h2
  have hl := Data.len h3
  refine ⟨F1, G1, G2, by simp [f, g], ?_, h1, ?_⟩
  · rw [e, ← hl, List.take_left']; exact h3; rfl
  · have : cs.drop ((i + 1) * Data.sz α) = (cs.drop (i * Data.sz α)).drop (Data.sz α) := by rw [List.drop_drop, Nat.add_mul, Nat.one_mul]
    rw [this, e, ← hl, List.drop_left']; exact h4; rfl

/-- a capacity that may be: at least the length, or unknown -/
def capW (k n : Nat) : Cap → Prop
  | .k c => n ≤ c
  | .o k' => k' = k
def capOK (k : Nat) : V → Prop
  | .slice _ _ n cap => capW k n cap
  | _ => True

/-- a slice that holds these, and the blocks that it all lies in -/
def SdF (h : Heap) (v : V) (xs : List α) (F : List Nat) : Prop :=
  xs.length < 2 ^ 63 ∧ ((v = .nils ∧ xs = [] ∧ F = []) ∨ ∃ b off cap, v = .slice b off xs.length cap ∧ capW (Data.sz α) xs.length cap ∧ ((xs = [] ∧ F = []) ∨ ∃ blk cs G, F = b :: G ∧ h[b]? = some blk ∧ blk.st ≠ .dead ∧ cut blk.cells off (xs.length * Data.sz α) = some cs ∧ Reps h xs cs G))

variable {h h' : Heap} {v : V} {xs : List α} {F : List Nat}
theorem SdF.len (hs : SdF h v xs F) : lenV v = some xs.length := by
  rcases hs with ⟨_, ⟨rfl, rfl, _⟩ | ⟨b, off, cap, rfl, _⟩⟩ <;> rfl
theorem SdF.cells (hs : SdF h v xs F) : v.cells = [v] := by
  rcases hs with ⟨_, ⟨rfl, rfl, _⟩ | ⟨b, off, cap, rfl, _⟩⟩ <;> rfl
theorem SdF.cell (hs : SdF h v xs F) : v.cell = true := by
  rcases hs with ⟨_, ⟨rfl, rfl, _⟩ | ⟨b, off, cap, rfl, _⟩⟩ <;> rfl
theorem SdF.bd (hs : SdF h v xs F) : xs.length < 2 ^ 63 := hs.1
theorem SdF.step (hs : SdF h v xs F) {i : Nat} (hi : i < xs.length) : IntKind.i64.wrap ((i : Int) + 1) = i + 1 := by
  have := hs.1
  exact IntWalk.i64_in _ (by omega)
theorem SdF.cap (hs : SdF h v xs F) : capOK (Data.sz α) v := by
  rcases hs with ⟨_, ⟨rfl, _, _⟩ | ⟨b, off, cap, rfl, hc, _⟩⟩
  · trivial
  · exact hc
theorem SdF.nil : SdF h .nils ([] : List α) [] := ⟨by simp, .inl ⟨rfl, rfl, rfl⟩⟩
theorem SdF.idx (hs : SdF h v xs F) (k : Nat) (kd : IntKind) (i : Nat) (hi : i < xs.length) : idxV k v (.int kd i) = some (.ptr (bOf v) (oOf v + i * k)) := by
  rcases hs with ⟨_, ⟨rfl, rfl, _⟩ | ⟨b, off, cap, rfl, _⟩⟩
  · simp at hi
  · simp [idxV, hi, bOf, oOf]
theorem SdF.keeps (hs : SdF h v xs F) (hk : KeepsP (fun b => b ∈ F) h h') : SdF h' v xs F := by
  refine ⟨hs.1, ?_⟩
  rcases hs.2 with hs | ⟨b, off, cap, hv, hc, hs⟩
  · exact .inl hs
  · refine .inr ⟨b, off, cap, hv, hc, ?_⟩
    rcases hs with hs | ⟨blk, cs, G, f, h1, h2, h3, h4⟩
    · exact .inl hs
    · subst f
      exact .inr ⟨blk, cs, G, rfl, hk _ _ (List.mem_cons_self ..) h1 h2, h2, h3, h4.keeps (hk.mono fun b hb => List.mem_cons_of_mem _ hb)⟩
theorem SdF.keep (hs : SdF h v xs F) (hk : Keeps h h') : SdF h' v xs F := hs.keeps (hk.p _)
theorem SdF.lt (hs : SdF h v xs F) {i : Nat} (hi : i ∈ F) : ∃ blk, h[i]? = some blk ∧ blk.st ≠ .dead := by
  rcases hs.2 with ⟨_, _, hs⟩ | ⟨b, off, cap, hv, _, hs⟩
  · rw [hs] at hi; cases hi
  · rcases hs with ⟨_, hs⟩ | ⟨blk, cs, G, f, h1, h2, h3, h4⟩
    · rw [hs] at hi; cases hi
    · subst f
      rcases List.mem_cons.1 hi with rfl | hi
      · exact ⟨blk, h1, h2⟩
      · exact h4.lt hi
/-- an element, where it lies -/
theorem SdF.load (hs : SdF h v xs F) (i : Nat) (hi : i < xs.length) : ∃ cs F1 F2 F3, rdH h (bOf v) (oOf v + i * Data.sz α) (Data.sz α) = some cs ∧ Data.rep h xs[i] cs F2 ∧ F = bOf v :: (F1 ++ F2 ++ F3) := by
  rcases hs with ⟨_, ⟨rfl, rfl, _⟩ | ⟨b, off, cap, rfl, _, hs⟩⟩
  · simp at hi
  · rcases hs with ⟨rfl, _⟩ | ⟨blk, cs, G, f, h1, h2, h3, h4⟩
    · simp at hi
    · obtain ⟨F1, F2, F3, g, h5, _, _⟩ := h4.get i hi
      refine ⟨_, F1, F2, F3, ?_, h5, by rw [f, g]; rfl⟩
      simp only [bOf, oOf, rdH, h1, h2, if_false]
      unfold cut at h3 ⊢
      split at h3
      case isFalse => cases h3
      rename_i hle
      have hb : (i + 1) * Data.sz α ≤ xs.length * Data.sz α := Nat.mul_le_mul_right _ hi
      rw [Nat.add_mul] at hb
      rw [if_pos (by omega)]
      simp only [Option.some.injEq] at h3 ⊢
      rw [← h3, List.drop_take, List.take_take, List.drop_drop]
      congr 1
      omega
theorem rdH_sub {h : Heap} {b off n : Nat} {cs : List V} (e : rdH h b off n = some cs) (o k : Nat) (hk : o + k ≤ n) : rdH h b (off + o) k = some ((cs.drop o).take k) := by
  unfold rdH at e ⊢
  split at e
  · rename_i blk hb
    split at e
    · cases e
    · rename_i hl
      simp only [hl, if_false]
      unfold cut at e ⊢
      split at e
      · rw [if_pos (by omega)]
        simp only [Option.some.injEq] at e ⊢
        rw [← e, List.drop_take, List.take_take, List.drop_drop]
        congr 1
        omega
      · cases e
  · cases e
/-- a part of a slice -/
theorem SdF.sub (hs : SdF h v xs F) {lo hi : Option Nat} {i j : Nat} (hlo : lo.getD 0 = i) (hhi : hi.getD xs.length = j) (hij : i ≤ j) (hj : j ≤ xs.length) {k : Nat} (hk : k = Data.sz α) :
    ∃ v' F', slcV k v lo hi none = some v' ∧ SdF h v' ((xs.take j).drop i) F' ∧ (∀ b ∈ F', b ∈ F) ∧ (∀ b, vB v' b → vB v b) := by
  subst hk
  have hbd := hs.1
  rcases hs with ⟨_, ⟨rfl, rfl, rfl⟩ | ⟨b, off, cap, rfl, hc, hs⟩⟩
  · simp at hj hhi
    subst hj
    have hi0 : i = 0 := by omega
    subst hi0
    refine ⟨.nils, [], ?_, by simpa using SdF.nil, by simp, fun b h => h⟩
    simp only [slcV, Option.getD_none, hlo, hhi, and_self, if_true]
  · have key : ∀ (off' : Nat) (cap' : Cap), (i < j → off' = off + i * Data.sz α) → capW (Data.sz α) (j - i) cap' →
        ∃ F', SdF h (.slice b off' (j - i) cap') ((xs.take j).drop i) F' ∧ ∀ x ∈ F', x ∈ F := by
      intro off' cap' ho hc'
      have hl : ((xs.take j).drop i).length = j - i := by simp; omega
      by_cases h0 : i < j
      · rcases hs with ⟨rfl, _⟩ | ⟨blk, cs, G, f, h1, h2, h3, h4⟩
        · simp at hj; omega
        · obtain ⟨G1, G2, g, h5, _⟩ := h4.cut2 j hj
          obtain ⟨G3, G4, g', _, h6⟩ := h5.cut2 i (by simp; omega)
          refine ⟨b :: G4, ⟨by rw [hl]; omega, .inr ⟨b, off', cap', by rw [hl], by rw [hl]; exact hc', .inr ⟨blk, _, G4, rfl, h1, h2, ?_, h6⟩⟩⟩, fun x hx => ?_⟩
          · rw [hl, ho h0]
            unfold cut at h3 ⊢
            split at h3
            case isFalse => cases h3
            simp only [Option.some.injEq] at h3
            have b1 : j * Data.sz α ≤ xs.length * Data.sz α := Nat.mul_le_mul_right _ hj
            have b2 : i * Data.sz α + (j - i) * Data.sz α = j * Data.sz α := by rw [← Nat.add_mul]; congr 1; omega
            rw [if_pos (by omega)]
            rw [← h3, List.take_take, List.drop_take, List.drop_drop]
            congr 2
            omega
          · rw [f, g, g']
            rcases List.mem_cons.1 hx with rfl | hx
            · exact List.mem_cons_self ..
            · exact List.mem_cons_of_mem _ (List.mem_append_left _ (List.mem_append_right _ hx))
      · have hnil : (xs.take j).drop i = [] := List.length_eq_zero_iff.1 (by rw [hl]; omega)
        exact ⟨[], ⟨by rw [hl]; omega, .inr ⟨b, off', cap', by rw [hl], by rw [hl]; exact hc', .inl ⟨hnil, rfl⟩⟩⟩, by simp⟩
    cases cap with
    | k c =>
      have hc : xs.length ≤ c := hc
      obtain ⟨F', h1, h2⟩ := key (if c = i then off else off + i * Data.sz α) (.k (c - i)) (fun h => by rw [if_neg (by omega)]) (by show j - i ≤ c - i; omega)
      refine ⟨_, F', ?_, h1, h2, ?_⟩
      · simp only [slcV, hlo, hhi, Option.getD_none]
        rw [if_pos ⟨hij, by omega, Nat.le_refl _⟩]
      · rintro b ⟨_, _, _, e⟩; cases e; exact ⟨_, _, _, rfl⟩
    | o k' =>
      have hc : k' = Data.sz α := hc
      obtain ⟨F', h1, h2⟩ := key (off + i * Data.sz α) (.o (Data.sz α)) (fun _ => rfl) rfl
      refine ⟨_, F', ?_, h1, h2, ?_⟩
      · simp only [slcV, hlo, hhi]
        rw [if_pos ⟨hc, hij, hj⟩]
      · rintro b ⟨_, _, _, e⟩; cases e; exact ⟨_, _, _, rfl⟩
/-- the first ones, all at once -/
theorem SdF.rdS (hs : SdF h v xs F) : ∃ cs G, GL.rdS h (Data.sz α) v xs.length = some cs ∧ Reps h xs cs G ∧ ∀ b ∈ G, b ∈ F := by
  rcases hs with ⟨_, ⟨rfl, rfl, _⟩ | ⟨b, off, cap, rfl, _, hs⟩⟩
  · exact ⟨[], [], by simp [GL.rdS], .nil, by simp⟩
  · rcases hs with ⟨rfl, _⟩ | ⟨blk, cs, G, f, h1, h2, h3, h4⟩
    · exact ⟨[], [], by simp [GL.rdS], .nil, by simp⟩
    · refine ⟨cs, G, ?_, h4, fun b hb => by rw [f]; exact List.mem_cons_of_mem _ hb⟩
      simp only [GL.rdS, Nat.le_refl, if_true]
      split
      · rename_i h0
        have := h4.len
        rw [h0] at this
        rw [List.length_eq_zero_iff.1 this]
      · simp only [rdH, h1, h2, if_false, h3]
end

section
variable {α : Type} [Flat α] {h : Heap} {v : V} {xs : List α} {F : List Nat}
theorem Reps.flat : ∀ {xs : List α} {cs : List V} {F : List Nat}, Reps h xs cs F ↔ cs = flats xs ∧ F = []
  | [], cs, F => by simp [Reps, flats]
  | x :: xs, cs, F => by
    constructor
    · rintro ⟨c, r, F1, F2, rfl, rfl, ⟨rfl, rfl⟩, h2⟩
      obtain ⟨rfl, rfl⟩ := Reps.flat.1 h2
      exact ⟨by simp [flats], rfl⟩
    · rintro ⟨rfl, rfl⟩
      exact ⟨Flat.cells x, flats xs, [], [], by simp [flats], rfl, ⟨rfl, rfl⟩, Reps.flat.2 ⟨rfl, rfl⟩⟩
theorem SdF.sl (hs : SdF h v xs F) : Sl h v xs := by
  refine ⟨hs.1, ?_⟩
  rcases hs.2 with hs | ⟨b, off, cap, hv, _, hs⟩
  · exact .inl ⟨hs.1, hs.2.1⟩
  · refine .inr ⟨b, off, cap, hv, ?_⟩
    rcases hs with ⟨hs, _⟩ | ⟨blk, cs, G, f, h1, h2, h3, h4⟩
    · exact .inl hs
    · exact .inr ⟨blk, h1, h2, by rw [(Reps.flat.1 h4).1] at h3; exact h3⟩
theorem Sl.sdF (hs : Sl h v xs) (hc : capOK (Flat.sz α) v) : ∃ F, SdF h v xs F ∧ (∀ b ∈ F, b = bOf v ∧ vB v b) ∧ F.length ≤ 1 := by
  rcases hs with ⟨hb, ⟨rfl, rfl⟩ | ⟨b, off, cap, rfl, hs⟩⟩
  · exact ⟨[], .nil, by simp, by simp⟩
  · rcases hs with rfl | ⟨blk, h1, h2, h3⟩
    · exact ⟨[], ⟨hb, .inr ⟨b, off, cap, rfl, hc, .inl ⟨rfl, rfl⟩⟩⟩, by simp, by simp⟩
    · exact ⟨[b], ⟨hb, .inr ⟨b, off, cap, rfl, hc, .inr ⟨blk, _, [], rfl, h1, h2, h3, Reps.flat.2 ⟨rfl, rfl⟩⟩⟩⟩, by simp [bOf, vB], by simp⟩
end

instance listData {α : Type} [Data α] : Data (List α) where
  sz := 1
  pos := by decide
  rep := fun h xs cs F => ∃ v, cs = [v] ∧ SdF h v xs F
  len := by rintro h a cs F ⟨v, rfl, _⟩; rfl
  ok := by rintro h a cs F ⟨v, rfl, hs⟩; simp [allCell, hs.cell]
  keeps := by rintro h h' a cs F ⟨v, rfl, hs⟩ hk; exact ⟨v, rfl, hs.keeps hk⟩
  lt := by rintro h a cs F b ⟨v, rfl, hs⟩ hb; exact hs.lt hb

section
variable {α : Type} [Data α] {h : Heap} {v : V} {xs : List α} {lo : Nat} {F : List Nat}
/-- a list that this very call has made, and may make longer -/
def Od (lo : Nat) (h : Heap) (v : V) (xs : List α) (F : List Nat) : Prop :=
  xs.length < 2 ^ 40 ∧ lo ≤ h.length ∧ ((v = .nils ∧ xs = [] ∧ F = []) ∨ (∃ b cs, v = .slice b 0 xs.length (.o (Data.sz α)) ∧ h[b]? = some ⟨.own, cs⟩ ∧ lo ≤ b ∧ Reps h xs cs F ∧ b ∉ F) ∨ ∃ b, v = .slice b 0 0 (.k 0) ∧ xs = [] ∧ F = [] ∧ lo ≤ b ∧ b < h.length)

theorem Od.nil (hl : lo ≤ h.length) : Od lo h .nils ([] : List α) [] := ⟨by simp, hl, .inl ⟨rfl, rfl, rfl⟩⟩
theorem Od.empty {b : Nat} (hl : lo ≤ b) (hb : b < h.length) : Od lo h (.slice b 0 0 (.k 0)) ([] : List α) [] := ⟨by simp, by omega, .inr (.inr ⟨b, rfl, rfl, rfl, hl, hb⟩)⟩
theorem Od.sd (ho : Od lo h v xs F) : ∃ F', SdF h v xs F' ∧ (F' = F ∨ (F' = bOf v :: F ∧ vB v (bOf v) ∧ bOf v ∉ F ∧ ∃ cs, h[bOf v]? = some ⟨.own, cs⟩)) := by
  obtain ⟨h1, _, ⟨rfl, rfl, rfl⟩ | ⟨b, cs, rfl, hb, _, hr, hn⟩ | ⟨b, rfl, rfl, rfl, _⟩⟩ := ho
  · exact ⟨[], .nil, .inl rfl⟩
  · refine ⟨b :: F, ⟨by omega, .inr ⟨b, 0, _, rfl, rfl, .inr ⟨_, cs, F, rfl, hb, by simp, ?_, hr⟩⟩⟩, .inr ⟨rfl, ⟨_, _, _, rfl⟩, hn, cs, hb⟩⟩
    simp only [cut, hr.len, Nat.zero_add, Nat.le_refl, if_true, List.drop_zero]
    rw [← hr.len, List.take_length]
  · exact ⟨[], ⟨by simp, .inr ⟨b, 0, _, rfl, Nat.le_refl _, .inl ⟨rfl, rfl⟩⟩⟩, .inl rfl⟩
theorem Od.keeps {h' : Heap} (ho : Od lo h v xs F) {P : Nat → Prop} (hk : KeepsP P h h') (hp : ∀ i, vB v i → P i) (hF : ∀ i ∈ F, P i) (hl : h.length ≤ h'.length) : Od lo h' v xs F := by
  obtain ⟨h1, h2, ⟨rfl, rfl, rfl⟩ | ⟨b, cs, rfl, hb, h3, hr, hn⟩ | ⟨b, rfl, rfl, rfl, h3, h4⟩⟩ := ho
  · exact ⟨h1, by omega, .inl ⟨rfl, rfl, rfl⟩⟩
  · exact ⟨h1, by omega, .inr (.inl ⟨b, cs, rfl, hk _ _ (hp b ⟨_, _, _, rfl⟩) hb (by simp), h3, hr.keeps (hk.mono hF), hn⟩)⟩
  · exact ⟨h1, by omega, .inr (.inr ⟨b, rfl, rfl, rfl, h3, by omega⟩)⟩
theorem Od.ge (ho : Od lo h v xs F) {i : Nat} (hi : vB v i) : lo ≤ i ∧ i < h.length := by
  obtain ⟨h1, h2, ⟨rfl, rfl, rfl⟩ | ⟨b, cs, rfl, hb, h3, hr, hn⟩ | ⟨b, rfl, rfl, rfl, h3, h4⟩⟩ := ho
  · obtain ⟨_, _, _, e⟩ := hi; cases e
  · obtain ⟨_, _, _, e⟩ := hi; cases e; exact ⟨h3, get_lt hb⟩
  · obtain ⟨_, _, _, e⟩ := hi; cases e; exact ⟨h3, h4⟩

theorem Od.app (ho : Od lo h v xs F) {zs : List α} {ys : List V} {G : List Nat} (hz : 0 < zs.length) (hr : Reps h zs ys G) (hG : ∀ b ∈ G, ¬ vB v b) {bytes : Nat} (hb : bytes ≤ 2 ^ 8) (hl : xs.length + zs.length ≤ 2 ^ 30) {k n : Nat} (hk : k = Data.sz α) (hn : n = zs.length) :
    ∃ v' h', appH k bytes v n ys h = some (v', h') ∧ Od lo h' v' (xs ++ zs) (F ++ G) ∧ KeepsP (fun i => ¬ vB v i) h h' ∧ h.length < h'.length ∧ (∀ i, vB v' i → i = h.length) := by
  subst hk; subst hn
  have hk0 := Data.pos (α := α)
  have hbb : (xs.length + zs.length) * bytes ≤ 2 ^ 30 * 2 ^ 8 := Nat.mul_le_mul hl hb
  have hGl : ∀ b ∈ G, b < h.length := fun b hb => by obtain ⟨blk, h1, _⟩ := hr.lt hb; exact get_lt h1
  obtain ⟨h1, h2, ⟨rfl, rfl, rfl⟩ | ⟨b, cs, rfl, hb2, h3, hr0, hn0⟩ | ⟨b, rfl, rfl, rfl, h3, h4⟩⟩ := ho
  · have hk : KeepsP (fun i => ¬ vB .nils i) h (h ++ [⟨.own, ys⟩]) := fun i blk _ hi hl => Keeps.append h _ i blk hi hl
    refine ⟨.slice h.length 0 zs.length (.o (Data.sz α)), h ++ [⟨.own, ys⟩], ?_, ⟨by simp at hl ⊢; omega, by simp; omega, .inr (.inl ⟨h.length, ys, by simp, by simp, h2, ?_, ?_⟩)⟩, hk, by simp, fun i hi => ?_⟩
    · simp only [List.length_nil, Nat.zero_add] at hbb hl
      simp only [appH, Nat.ne_of_gt hz, if_false]
      rw [if_pos ⟨by unfold room; omega, by unfold room; omega⟩]
    · simpa using hr.keeps (hk.mono hG)
    · simp only [List.nil_append]; intro h9; exact absurd (hGl _ h9) (by omega)
    · obtain ⟨_, _, _, e⟩ := hi; cases e; rfl
  · have hlen := hr0.len
    have hF : ∀ i ∈ F, ¬ vB (.slice b 0 xs.length (.o (Data.sz α))) i := fun i hi ⟨_, _, _, e⟩ => by cases e; exact hn0 hi
    have hFl : ∀ i ∈ F, i < h.length := fun i hi => by obtain ⟨blk, h1, _⟩ := hr0.lt hi; exact get_lt h1
    have hk : KeepsP (fun i => ¬ vB (.slice b 0 xs.length (.o (Data.sz α))) i) h (h.set b ⟨.dead, cs⟩ ++ [⟨.own, cs ++ ys⟩]) := fun i blk hi hb3 hl => by
      have hne : i ≠ b := fun e => hi ⟨_, _, _, by rw [e]⟩
      rw [List.getElem?_append_left (by simp; exact get_lt hb3), List.getElem?_set_ne (Ne.symm hne)]
      exact hb3
    refine ⟨.slice h.length 0 (xs.length + zs.length) (.o (Data.sz α)), h.set b ⟨.dead, cs⟩ ++ [⟨.own, cs ++ ys⟩], ?_, ⟨by simp; omega, by simp; omega, .inr (.inl ⟨h.length, cs ++ ys, by simp, by simp, h2, (hr0.keeps (hk.mono hF)).append (hr.keeps (hk.mono hG)), ?_⟩)⟩, hk, by simp, fun i hi => ?_⟩
    · have hgt : ¬ (0 + (xs.length + zs.length) * Data.sz α ≤ cs.length) := by
        rw [hlen, Nat.add_mul]
        have : 0 < zs.length * Data.sz α := Nat.mul_pos hz hk0
        omega
      have hcut : cut cs 0 (xs.length * Data.sz α) = some cs := by
        simp only [cut, hlen, Nat.zero_add, Nat.le_refl, if_true, List.drop_zero]
        rw [← hlen, List.take_length]
      simp only [appH, Nat.ne_of_gt hz, if_false, hb2, hk0, and_self, if_true, hgt, hcut, Option.bind_some]
      rw [if_pos ⟨by unfold room; omega, by unfold room; omega⟩]
    · intro h9
      rcases List.mem_append.1 h9 with h9 | h9
      · exact absurd (hFl _ h9) (by omega)
      · exact absurd (hGl _ h9) (by omega)
    · obtain ⟨_, _, _, e⟩ := hi; cases e; rfl
  · have hk : KeepsP (fun i => ¬ vB (.slice b 0 0 (.k 0)) i) h (h ++ [⟨.own, ys⟩]) := fun i blk _ hi hl => Keeps.append h _ i blk hi hl
    refine ⟨.slice h.length 0 zs.length (.o (Data.sz α)), h ++ [⟨.own, ys⟩], ?_, ⟨by simp at hl ⊢; omega, by simp; omega, .inr (.inl ⟨h.length, ys, by simp, by simp, h2, ?_, ?_⟩)⟩, hk, by simp, fun i hi => ?_⟩
    · simp only [List.length_nil, Nat.zero_add] at hbb hl
      have hgt : ¬ (0 + zs.length ≤ 0) := by omega
      simp only [appH, Nat.ne_of_gt hz, if_false, hgt]
      rw [if_pos ⟨by unfold room; rw [Nat.zero_add]; omega, by unfold room; omega⟩]
      simp [rdS]
    · simpa using hr.keeps (hk.mono hG)
    · simp only [List.nil_append]; intro h9; exact absurd (hGl _ h9) (by omega)
    · obtain ⟨_, _, _, e⟩ := hi; cases e; rfl
end
end GL
namespace GL
open Go

structure GoodF (s : Sm) : Prop where
  rows : 0 ≤ s.rows ∧ s.rows ≤ 10000
  known : 0 ≤ s.known ∧ s.known ≤ s.rows
  total : -1000000 ≤ s.total ∧ s.total ≤ 1000000
  low : okV s.low = true
  high : okV s.high = true
  none : s.known = 0 → s.low.null = true ∧ s.high.null = true ∧ s.total = 0
  some : s.known ≠ 0 → s.low.null = false ∧ s.high.null = false ∧ s.low.n ≤ s.high.n ∧ s.known * s.low.n ≤ s.total ∧ s.total ≤ s.known * s.high.n

theorem goodS_iff {s : Sm} : goodS s = true ↔ GoodF s := by
  simp only [goodS, Bool.and_eq_true, decide_eq_true_eq]
  constructor
  · rintro ⟨⟨⟨⟨⟨h1, h2⟩, h3⟩, h4⟩, h5⟩, h6⟩
    refine ⟨h1, h2, h3, h4, h5, fun hk => ?_, fun hk => ?_⟩
    · simp [hk] at h6; exact ⟨h6.1.1, h6.1.2, h6.2⟩
    · simp [hk] at h6; exact ⟨h6.1.1.1, h6.1.1.2, h6.1.2, h6.2.1, h6.2.2⟩
  · rintro ⟨h1, h2, h3, h4, h5, h6, h7⟩
    refine ⟨⟨⟨⟨⟨h1, h2⟩, h3⟩, h4⟩, h5⟩, ?_⟩
    by_cases hk : s.known = 0
    · simp [hk, h6 hk]
    · obtain ⟨a, b, c, d, e⟩ := h7 hk
      simp [hk, a, b, c, d, e]

theorem GoodSum_mk (r k t : Int) (ln : Bool) (l : Int) (hn : Bool) (g : Int) (h : Heap) : call p 34 [.agg [vi r, vi k, vi t, .bool ln, vi l, .bool hn, vi g]] h = some (.bool (goodS ⟨r, k, t, ⟨ln, l⟩, ⟨hn, g⟩⟩), h) := GoodSum_eq ⟨r, k, t, ⟨ln, l⟩, ⟨hn, g⟩⟩ h
theorem GoodSumS_mk (r k t : Int) (ln : Bool) (l : Int) (hn : Bool) (g : Int) (h : Heap) : call p 39 [.agg [vi r, vi k, vi t, .bool ln, vi l, .bool hn, vi g]] h = some (.bool (goodS ⟨r, k, t, ⟨ln, l⟩, ⟨hn, g⟩⟩), h) := GoodSumS_eq ⟨r, k, t, ⟨ln, l⟩, ⟨hn, g⟩⟩ h

def addS (a b : Sm) : Sm :=
  ⟨a.rows + b.rows, a.known + b.known, a.total + b.total, if a.known = 0 then b.low else if 0 < b.known then ⟨a.low.null, min a.low.n b.low.n⟩ else a.low, if a.known = 0 then b.high else if 0 < b.known then ⟨a.high.null, max a.high.n b.high.n⟩ else a.high⟩
def addR (a b : Sm) : List V := if goodS a = true ∧ goodS b = true ∧ goodS (addS a b) = true then [.agg (sc (addS a b)), .bool true] else [.agg (sc zSm), .bool false]

theorem AddSums_eq (a b : Sm) (h : Heap) : call p 32 [.agg (sc a), .agg (sc b)] h = some (.tup (addR a b), h) := by
  refine go_eq (fn := g32) rfl rfl fun R hR => ?_
  obtain ⟨ra, ka, ta, ⟨lan, la⟩, ⟨gan, ga⟩⟩ := a
  obtain ⟨rb, kb, tb, ⟨lbn, lb⟩, ⟨gbn, gb⟩⟩ := b
  cases ha : goodS ⟨ra, ka, ta, ⟨lan, la⟩, ⟨gan, ga⟩⟩ with
  | false =>
    simp [g32, fillL, upd, resV, GoodSum_mk, ha]
    simpa [addR, ha, zSm] using hR
  | true =>
    cases hb : goodS ⟨rb, kb, tb, ⟨lbn, lb⟩, ⟨gbn, gb⟩⟩ with
    | false =>
      simp [g32, fillL, upd, resV, GoodSum_mk, ha, hb]
      simpa [addR, ha, hb, zSm] using hR
    | true =>
      obtain ⟨a1, a2, a3, a4, a5, a6, a7⟩ := goodS_iff.1 ha
      obtain ⟨b1, b2, b3, b4, b5, b6, b7⟩ := goodS_iff.1 hb
      simp only at a1 a2 a3 a6 a7 b1 b2 b3 b6 b7
      have w1 : IntKind.i64.wrap (ra + rb) = ra + rb := by rw [IntWalk.i64_in] <;> omega
      have w3 : IntKind.i64.wrap (ta + tb) = ta + tb := by rw [IntWalk.i64_in] <;> omega
      simp only [addR, ha, hb, addS] at hR
      by_cases h1 : ka = 0
      · subst h1
        have w2 : IntKind.i64.wrap kb = kb := by rw [IntWalk.i64_in] <;> omega
        simp at hR
        cases hg : goodS ⟨ra + rb, kb, ta + tb, ⟨lbn, lb⟩, ⟨gbn, gb⟩⟩ <;> simp [g32, fillL, upd, resV, GoodSum_mk, ha, hb, w1, w2, w3, hg] <;> simpa [hg, zSm] using hR
      · have w2 : IntKind.i64.wrap (ka + kb) = ka + kb := by rw [IntWalk.i64_in] <;> omega
        by_cases h2 : 0 < kb
        · have m1 : min la lb = if lb < la then lb else la := by omega
          have m2 : max ga gb = if ga < gb then gb else ga := by omega
          simp [h1, h2, m1, m2] at hR
          cases hg : goodS ⟨ra + rb, ka + kb, ta + tb, ⟨lan, if lb < la then lb else la⟩, ⟨gan, if ga < gb then gb else ga⟩⟩ <;> simp [g32, fillL, upd, resV, GoodSum_mk, ha, hb, w1, w2, w3, h1, h2, hg] <;> simpa [hg, zSm] using hR
        · simp [h1, h2] at hR
          cases hg : goodS ⟨ra + rb, ka + kb, ta + tb, ⟨lan, la⟩, ⟨gan, ga⟩⟩ <;> simp [g32, fillL, upd, resV, GoodSum_mk, ha, hb, w1, w2, w3, h1, h2, hg] <;> simpa [hg, zSm] using hR

theorem AddSumsS_eq (a b : Sm) (h : Heap) : call p 36 [.agg (sc a), .agg (sc b)] h = some (.tup (addR a b), h) := by
  refine go_eq (fn := g36) rfl rfl fun R hR => ?_
  obtain ⟨ra, ka, ta, ⟨lan, la⟩, ⟨gan, ga⟩⟩ := a
  obtain ⟨rb, kb, tb, ⟨lbn, lb⟩, ⟨gbn, gb⟩⟩ := b
  cases ha : goodS ⟨ra, ka, ta, ⟨lan, la⟩, ⟨gan, ga⟩⟩ with
  | false =>
    simp [g36, fillL, upd, resV, GoodSumS_mk, ha]
    simpa [addR, ha, zSm] using hR
  | true =>
    cases hb : goodS ⟨rb, kb, tb, ⟨lbn, lb⟩, ⟨gbn, gb⟩⟩ with
    | false =>
      simp [g36, fillL, upd, resV, GoodSumS_mk, ha, hb]
      simpa [addR, ha, hb, zSm] using hR
    | true =>
      obtain ⟨a1, a2, a3, a4, a5, a6, a7⟩ := goodS_iff.1 ha
      obtain ⟨b1, b2, b3, b4, b5, b6, b7⟩ := goodS_iff.1 hb
      simp only at a1 a2 a3 a6 a7 b1 b2 b3 b6 b7
      have w1 : IntKind.i64.wrap (ra + rb) = ra + rb := by rw [IntWalk.i64_in] <;> omega
      have w3 : IntKind.i64.wrap (ta + tb) = ta + tb := by rw [IntWalk.i64_in] <;> omega
      simp only [addR, ha, hb, addS] at hR
      by_cases h1 : ka = 0
      · subst h1
        have w2 : IntKind.i64.wrap kb = kb := by rw [IntWalk.i64_in] <;> omega
        simp at hR
        cases hg : goodS ⟨ra + rb, kb, ta + tb, ⟨lbn, lb⟩, ⟨gbn, gb⟩⟩ <;> simp [g36, fillL, upd, resV, GoodSumS_mk, ha, hb, w1, w2, w3, hg] <;> simpa [hg, zSm] using hR
      · have w2 : IntKind.i64.wrap (ka + kb) = ka + kb := by rw [IntWalk.i64_in] <;> omega
        by_cases h2 : 0 < kb
        · obtain ⟨p1, p2, p3, _, _⟩ := a7 h1
          obtain ⟨q1, q2, q3, _, _⟩ := b7 (by omega)
          subst p1; subst p2; subst q1; subst q2
          have m1 : min la lb = if lb < la then lb else la := by omega
          have m2 : max ga gb = if ga < gb then gb else ga := by omega
          simp [h1, h2, m1, m2] at hR
          by_cases c1 : lb < la <;> by_cases c2 : ga < gb <;> simp only [c1, c2, if_true, if_false] at hR
          · cases hg : goodS ⟨ra + rb, ka + kb, ta + tb, ⟨false, lb⟩, ⟨false, gb⟩⟩ <;> simp [g36, fillL, upd, resV, GoodSumS_mk, ha, hb, w1, w2, w3, h1, h2, c1, c2, hg] <;> simpa [hg, zSm] using hR
          · cases hg : goodS ⟨ra + rb, ka + kb, ta + tb, ⟨false, lb⟩, ⟨false, ga⟩⟩ <;> simp [g36, fillL, upd, resV, GoodSumS_mk, ha, hb, w1, w2, w3, h1, h2, c1, c2, hg] <;> simpa [hg, zSm] using hR
          · cases hg : goodS ⟨ra + rb, ka + kb, ta + tb, ⟨false, la⟩, ⟨false, gb⟩⟩ <;> simp [g36, fillL, upd, resV, GoodSumS_mk, ha, hb, w1, w2, w3, h1, h2, c1, c2, hg] <;> simpa [hg, zSm] using hR
          · cases hg : goodS ⟨ra + rb, ka + kb, ta + tb, ⟨false, la⟩, ⟨false, ga⟩⟩ <;> simp [g36, fillL, upd, resV, GoodSumS_mk, ha, hb, w1, w2, w3, h1, h2, c1, c2, hg] <;> simpa [hg, zSm] using hR
        · simp [h1, h2] at hR
          cases hg : goodS ⟨ra + rb, ka + kb, ta + tb, ⟨lan, la⟩, ⟨gan, ga⟩⟩ <;> simp [g36, fillL, upd, resV, GoodSumS_mk, ha, hb, w1, w2, w3, h1, h2, hg] <;> simpa [hg, zSm] using hR

def meanI (s : Sm) : Int := if s.total.tmod s.known < 0 then s.total.tdiv s.known - 1 else s.total.tdiv s.known
def meanR (s : Sm) : List V := if goodS s = true then (if s.known = 0 then [.agg [.bool true, vi 0], .bool true] else [.agg [.bool false, vi (meanI s)], .bool true]) else [.agg [.bool false, vi 0], .bool false]

theorem tdiv_in {t k : Int} (h1 : -1000000 ≤ t ∧ t ≤ 1000000) : -1000000 ≤ t.tdiv k ∧ t.tdiv k ≤ 1000000 := by
  have := Int.natAbs_tdiv_le_natAbs t k
  omega

theorem MeanOf_eq (s : Sm) (h : Heap) : call p 33 [.agg (sc s)] h = some (.tup (meanR s), h) := by
  refine go_eq (fn := g33) rfl rfl fun R hR => ?_
  obtain ⟨r, k, t, ⟨ln, l⟩, ⟨gn, g⟩⟩ := s
  cases hs : goodS ⟨r, k, t, ⟨ln, l⟩, ⟨gn, g⟩⟩ with
  | false =>
    simp [g33, fillL, upd, resV, GoodSum_mk, hs]
    simpa [meanR, hs] using hR
  | true =>
    obtain ⟨a1, a2, a3, a4, a5, a6, a7⟩ := goodS_iff.1 hs
    simp only at a1 a2 a3 a6 a7
    by_cases h1 : k = 0
    · subst h1
      simp [meanR, hs] at hR
      simp [g33, fillL, upd, resV, GoodSum_mk, hs]
      simpa using hR
    · simp [meanR, hs, h1, meanI] at hR
      have b := tdiv_in (k := k) a3
      have w1 : IntKind.i64.wrap (t.tdiv k) = t.tdiv k := by rw [IntWalk.i64_in] <;> omega
      have w2 : IntKind.i64.wrap (t.tdiv k - 1) = t.tdiv k - 1 := by rw [IntWalk.i64_in] <;> omega
      by_cases h2 : t.tmod k < 0 <;> simp [g33, fillL, upd, resV, GoodSum_mk, hs, h1, h2, w1, w2] <;> simpa [h2] using hR
theorem MeanOfS_eq (s : Sm) (h : Heap) : call p 38 [.agg (sc s)] h = some (.tup (meanR s), h) := by
  refine go_eq (fn := g38) rfl rfl fun R hR => ?_
  obtain ⟨r, k, t, ⟨ln, l⟩, ⟨gn, g⟩⟩ := s
  cases hs : goodS ⟨r, k, t, ⟨ln, l⟩, ⟨gn, g⟩⟩ with
  | false =>
    simp [g38, fillL, upd, resV, GoodSumS_mk, hs]
    simpa [meanR, hs] using hR
  | true =>
    obtain ⟨a1, a2, a3, a4, a5, a6, a7⟩ := goodS_iff.1 hs
    simp only at a1 a2 a3 a6 a7
    by_cases h1 : k = 0
    · subst h1
      simp [meanR, hs] at hR
      simp [g38, fillL, upd, resV, GoodSumS_mk, hs]
      simpa using hR
    · simp [meanR, hs, h1, meanI] at hR
      have b := tdiv_in (k := k) a3
      have w1 : IntKind.i64.wrap (t.tdiv k) = t.tdiv k := by rw [IntWalk.i64_in] <;> omega
      have w2 : IntKind.i64.wrap (t.tdiv k - 1) = t.tdiv k - 1 := by rw [IntWalk.i64_in] <;> omega
      by_cases h2 : t.tmod k < 0 <;> simp [g38, fillL, upd, resV, GoodSumS_mk, hs, h1, h2, w1, w2] <;> simpa [h2] using hR

theorem mean_in {s : Sm} (hs : goodS s = true) (hk : s.known ≠ 0) : s.low.n ≤ meanI s ∧ meanI s ≤ s.high.n := by
  obtain ⟨_, a2, _, _, _, _, a7⟩ := goodS_iff.1 hs
  obtain ⟨_, _, _, h4, h5⟩ := a7 hk
  have hk0 : 0 < s.known := by omega
  have e : meanI s = s.total / s.known := by
    unfold meanI
    have q := Int.mul_tdiv_add_tmod s.total s.known
    have l1 := Int.tmod_lt_of_pos s.total hk0
    have l2 : -s.known < s.total.tmod s.known := by
      have := Int.natAbs_tmod s.total s.known
      have h3 : s.total.natAbs % s.known.natAbs < s.known.natAbs := Nat.mod_lt _ (by omega)
      omega
    split
    · rename_i hneg
      refine (Int.ediv_emod_unique hk0 (r := s.total.tmod s.known + s.known)).2 ⟨?_, by omega, by omega⟩ |>.1.symm
      rw [Int.mul_sub]; omega
    · rename_i hneg
      exact ((Int.ediv_emod_unique hk0 (r := s.total.tmod s.known)).2 ⟨by omega, by omega, l1⟩).1.symm
  rw [e]
  refine ⟨Int.le_ediv_of_mul_le hk0 (by rw [Int.mul_comm]; exact h4), ?_⟩
  have := Int.ediv_le_ediv hk0 h5
  rwa [Int.mul_ediv_cancel_left _ (by omega)] at this

theorem numberOf_eq {h : Heap} {v : V} {bs : List Byte} (hs : Sl h v bs) : ∃ n : Nat, n < 1000003 ∧ call p 31 [v] h = some (vi n, h) := by
  have : ∃ r h', call p 31 [v] h = some (r, h') ∧ ∃ n : Nat, n < 1000003 ∧ r = vi n ∧ h' = h := by
    refine go (fn := g31) rfl rfl fun R hR => ?_
    simp [g31, hs.len]
    refine Wc_upM (M := [3, 5, 8, 9, 10, 11, 12, 13, 14, 15, 16, 17, 18]) rfl bs.length (fun i s => s.σ 8 = .v (vi i) ∧ s.h = h ∧ ∃ n : Nat, n < 1000003 ∧ s.σ 3 = .v (vi n)) 0 (by simp; exact ⟨0, by decide, rfl⟩) fun i s ⟨g8, gh, n, hn3, g3⟩ hM J hJ => ?_
    by_cases hn : i < bs.length
    · have hb := bs[i].lt
      have w1 : IntKind.i64.wrap (31 * (n : Int)) = (31 * n : Nat) := by rw [IntWalk.i64_in] <;> omega
      have w2 : IntKind.i64.wrap (bs[i].n : Int) = bs[i].n := IntWalk.i64_in _ (by omega)
      have w3 : IntKind.i64.wrap (((31 * n : Nat) : Int) + bs[i].n) = (31 * n + bs[i].n : Nat) := by rw [IntWalk.i64_in] <;> omega
      have w4 : (((31 * n + bs[i].n : Nat) : Int)).tmod 1000003 = ((31 * n + bs[i].n) % 1000003 : Nat) := by rw [Int.tmod_eq_emod_of_nonneg (by omega)]; rfl
      simp [g31_0, hM, g8, g3, gh, hn, hs.idx, hs.loadB, hs.step hn, w1, w2, w3, w4, -Int.natCast_mul, -Int.natCast_add, -Int.natCast_emod]
      exact hJ _ hn ⟨by simp, rfl, (31 * n + bs[i].n) % 1000003, Nat.mod_lt _ (by decide), by simp⟩
    · simp [g31_0, hM, g8, g3, gh, hn]
      exact hR _ _ ⟨n, hn3, rfl, rfl⟩
  obtain ⟨r, h', e, n, hn, rfl, rfl⟩ := this
  exact ⟨n, hn, e⟩
end GL
/-! the draws' frame: a cursor at the first new block, and all older blocks as they were -/
namespace GL
open Go

structure DC (h0 h : Heap) (N : Nat) : Prop where
  cur : Cur h h0.length N
  keep : Keeps h0 h

theorem DC.start {h : Heap} {v : V} {bs : List Byte} (hs : Sl h v bs) : DC h (h ++ [⟨.own, [v, vi 0, .int .u64 0]⟩]) 0 := ⟨drawTwo hs, Keeps.append h _⟩
theorem DC.mono {h0 h : Heap} {N M : Nat} (d : DC h0 h N) (hn : N ≤ M) : DC h0 h M := ⟨d.cur.mono hn, d.keep⟩
theorem DC.lt {h0 h : Heap} {N : Nat} (d : DC h0 h N) : h0.length < h.length := d.cur.lt
theorem DC.lit {h0 h : Heap} {N : Nat} (d : DC h0 h N) (l : Heap) : DC h0 (h ++ l) N := ⟨d.cur.keeps (Keeps.append h l), d.keep.trans (Keeps.append h l)⟩
theorem DC.keeps {h0 h h' : Heap} {N : Nat} (d : DC h0 h N) (hk : Keeps h h') : DC h0 h' N := ⟨d.cur.keeps hk, d.keep.trans hk⟩
/-- whatever is done to newer blocks -/
theorem DC.far {h0 h h' : Heap} {N : Nat} (d : DC h0 h N) {P : Nat → Prop} (hk : KeepsP P h h') (hp : ∀ i, i ≤ h0.length → P i) : DC h0 h' N :=
  ⟨d.cur.keepsP hk hp, Keeps.far (n := h0.length) d.keep hk (Nat.le_refl _) fun i hi => hp i (by omega)⟩
theorem DC.out {h0 h h' : Heap} {N : Nat} {α : Type} [Flat α] {v : V} {xs : List α} (d : DC h0 h N) (ho : Out (h0.length + 1) h v xs) (hk : KeepsP (fun i => ¬ vB v i) h h') : DC h0 h' N :=
  d.far hk fun i hi hv => by have := (ho.ge hv).1; omega
theorem DC.outN {h0 h h' : Heap} {N : Nat} {α : Type} [Data α] {v : V} {xs : List α} {F : List Nat} (d : DC h0 h N) (ho : Od (h0.length + 1) h v xs F) (hk : KeepsP (fun i => ¬ vB v i) h h') : DC h0 h' N :=
  d.far hk fun i hi hv => by have := (ho.ge hv).1; omega
theorem DC.but {h0 h h' : Heap} {N M : Nat} (d : DC h0 h N) (hc : Cur h' h0.length M) (hk : KeepsBut h0.length h h') : DC h0 h' M :=
  ⟨hc, KeepsBut.keeps d.keep (Nat.le_refl _) hk⟩

theorem DC.next {h0 h : Heap} {N : Nat} (d : DC h0 h N) (hN : N < 2 ^ 62) : ∃ (x : Nat) (h' : Heap), call p 140 [.ptr h0.length 0] h = some (vi x, h') ∧ x ≤ 255 ∧ DC h0 h' (N + 1) ∧ KeepsBut h0.length h h' ∧ h'.length = h.length := by
  obtain ⟨_, h', e, x, rfl, hx, c, k, l⟩ := next_ok d.cur hN
  exact ⟨x, h', e, hx, d.but c k, k, l⟩
theorem DC.pick {h0 h : Heap} {N : Nat} (d : DC h0 h N) (hN : N < 2 ^ 61) (n : Int) (hn : 0 ≤ n ∧ n < 2 ^ 40) : ∃ (x : Nat) (h' : Heap), call p 91 [.ptr h0.length 0, vi n] h = some (vi x, h') ∧ (x : Int) < max n 1 ∧ DC h0 h' (N + 2) ∧ KeepsBut h0.length h h' ∧ h'.length = h.length := by
  obtain ⟨m, rfl⟩ := Int.eq_ofNat_of_zero_le hn.1
  obtain ⟨_, h', e, x, rfl, hx, c, k, l⟩ := pick_ok (n := m) d.cur hN (by omega)
  exact ⟨x, h', e, by omega, d.but c k, k, l⟩
theorem DC.one {h0 h : Heap} {N : Nat} (d : DC h0 h N) (hN : N < 2 ^ 61) (n : Int) (hn : 0 ≤ n ∧ n < 2 ^ 40) : ∃ (b : Bool) (h' : Heap), call p 92 [.ptr h0.length 0, vi n] h = some (.bool b, h') ∧ DC h0 h' (N + 2) ∧ KeepsBut h0.length h h' ∧ h'.length = h.length := by
  obtain ⟨m, rfl⟩ := Int.eq_ofNat_of_zero_le hn.1
  obtain ⟨_, h', e, b, rfl, c, k, l⟩ := one_ok (n := m) d.cur hN (by omega)
  exact ⟨b, h', e, d.but c k, k, l⟩
theorem DC.among {h0 h : Heap} {N : Nat} (d : DC h0 h N) (hN : N < 2 ^ 61) {v : V} {xs : List Int} (hs : Sl h v xs) (hb : bOf v ≠ h0.length) (h1 : 0 < xs.length) (hn : xs.length < 2 ^ 40) :
    ∃ (x : Int) (h' : Heap), call p 93 [.ptr h0.length 0, v] h = some (vi x, h') ∧ x ∈ xs ∧ DC h0 h' (N + 2) ∧ KeepsBut h0.length h h' ∧ h'.length = h.length := by
  obtain ⟨_, h', e, x, hx, rfl, c, k, l⟩ := among_ok d.cur hN hs hb h1 hn
  exact ⟨x, h', e, hx, d.but c k, k, l⟩
/-- one of some that stand there -/
theorem DC.amongL {h0 h : Heap} {N : Nat} (d : DC h0 h N) (hN : N < 2 ^ 61) (xs : List Int) (n : Nat) (hn : n = xs.length) (cs : List V) (hc : cs = flats xs) (cap : Cap) (h1 : 0 < xs.length) (h2 : xs.length < 2 ^ 40) :
    ∃ (x : Int) (h' : Heap), call p 93 [.ptr h0.length 0, .slice h.length 0 n cap] (h ++ [⟨.own, cs⟩]) = some (vi x, h') ∧ x ∈ xs ∧ DC h0 h' (N + 2) ∧ KeepsBut h0.length h h' ∧ h.length ≤ h'.length := by
  have := d.lt
  obtain ⟨x, h', e, hx, d', k, l⟩ := (d.lit [⟨.own, cs⟩]).among hN (Sl.lit xs n hn cs hc cap (by omega)) (by simp [bOf]; omega) h1 h2
  exact ⟨x, h', e, hx, d', (KeepsBut.lit _).trans k, by simp at l; omega⟩
theorem DC.value {h0 h : Heap} {N : Nat} (d : DC h0 h N) (hN : N < 2 ^ 60) : ∃ (x : Val) (h' : Heap), call p 95 [.ptr h0.length 0] h = some (vv x, h') ∧ DC h0 h' (N + 20) ∧ KeepsBut h0.length h h' ∧ h.length ≤ h'.length := by
  obtain ⟨_, h', e, x, rfl, c, k, l⟩ := value_ok d.cur hN
  exact ⟨x, h', e, d.but c k, k, l⟩
end GL
namespace GL
open Go

theorem Out.oneV {lo : Nat} {h : Heap} {v : V} {xs : List Val} (ho : Out lo h v xs) (x : Val) (hx : xs.length ≤ 2 ^ 20) :
    ∃ v' h', appH 2 16 v 1 [.bool x.null, vi x.n] (h ++ [⟨.own, [.bool x.null, vi x.n]⟩]) = some (v', h') ∧ Out lo h' v' (xs ++ [x]) ∧ KeepsP (fun i => ¬ vB v i) h h' ∧ h.length < h'.length := by
  have o3 : Out lo (h ++ [⟨.own, [.bool x.null, vi x.n]⟩]) v xs := (Keeps.append h _).out ho (by simp)
  obtain ⟨v', h', e4, o4, k4, l4, b4⟩ := o3.app [x] (by simp) (bytes := 16) (by decide) (by simp; omega) (k := 2) rfl (n := 1) rfl (ys := [.bool x.null, vi x.n]) rfl
  exact ⟨v', h', e4, o4, fun i blk hi h1 h2 => k4 i blk hi (Keeps.append h _ i blk h1 h2) h2, by simp at l4; omega⟩
theorem Out.cap {lo : Nat} {h : Heap} {v : V} {α : Type} [Flat α] {xs : List α} (ho : Out lo h v xs) : capOK (Flat.sz α) v := by
  obtain ⟨h1, _, ⟨rfl, rfl⟩ | ⟨b, rfl, hb, _⟩ | ⟨b, rfl, rfl, _⟩⟩ := ho
  · trivial
  · rfl
  · exact Nat.le_refl _

theorem DC.small {h0 h : Heap} {N : Nat} (d : DC h0 h N) (hN : N < 2 ^ 60) : ∃ (x : Val) (h' : Heap), call p 143 [.ptr h0.length 0] h = some (vv x, h') ∧ DC h0 h' (N + 4) ∧ KeepsBut h0.length h h' ∧ h'.length = h.length := by
  obtain ⟨b, h1, e1, d1, k1, l1⟩ := d.one (by omega) 5 (by decide)
  obtain ⟨x, h2, e2, _, d2, k2, l2⟩ := d1.pick (by omega) 4 (by decide)
  have : ∃ v h', call p 143 [.ptr h0.length 0] h = some (v, h') ∧ ∃ x : Val, v = vv x ∧ DC h0 h' (N + 4) ∧ KeepsBut h0.length h h' ∧ h'.length = h.length := by
    refine go (fn := g143) rfl rfl fun R hR => ?_
    cases b
    · simp [g143, e1, e2, fillL, resV, upd]
      exact hR _ _ ⟨⟨false, x⟩, rfl, d2, k1.trans k2, by omega⟩
    · simp [g143, e1, fillL, resV, upd]
      exact hR _ _ ⟨⟨true, 0⟩, rfl, d1.mono (by omega), k1, by omega⟩
  obtain ⟨_, h', e, x, rfl, r⟩ := this
  exact ⟨x, h', e, r⟩

theorem KeepsBut.far {c : Nat} {g h h' : Heap} {P : Nat → Prop} (h1 : KeepsBut c g h) (hk : KeepsP P h h') (hp : ∀ i, i < g.length → i ≠ c → P i) : KeepsBut c g h' := fun i blk hc hi hl =>
  hk i blk (hp i (get_lt hi) hc) (h1 i blk hc hi hl) hl

/-- one more, in a draw -/
theorem Out.draw {α : Type} [Flat α] {h0 h g : Heap} {N lo : Nat} {v : V} {xs : List α} (d : DC h0 h N) (kb : KeepsBut h0.length g h) (ho : Out lo h v xs) (hlo : g.length ≤ lo) (hc : h0.length < lo) (x : α) (hx : xs.length ≤ 2 ^ 20)
    {k bytes : Nat} {cs : List V} (hk : k = Flat.sz α) (hb : bytes ≤ 2 ^ 8) (hcs : cs = Flat.cells x) :
    ∃ v' h', appH k bytes v 1 cs (h ++ [⟨.own, cs⟩]) = some (v', h') ∧ Out lo h' v' (xs ++ [x]) ∧ DC h0 h' N ∧ KeepsBut h0.length g h' ∧ h.length ≤ h'.length := by
  have o3 : Out lo (h ++ [⟨.own, cs⟩]) v xs := (Keeps.append h _).out ho (by simp)
  obtain ⟨v', h', e4, o4, k4, l4, b4⟩ := o3.app [x] (by simp) (bytes := bytes) hb (by simp; omega) (k := k) hk (n := 1) rfl (ys := cs) (by simp [flats, hcs])
  refine ⟨v', h', e4, o4, (d.lit _).far k4 fun i hi hv => ?_, (kb.trans (KeepsBut.lit _)).far k4 fun i hi _ hv => ?_, by simp at l4; omega⟩
  · have := (o3.ge hv).1; omega
  · have := (o3.ge hv).1; omega

theorem DC.values {h0 h : Heap} {N : Nat} (d : DC h0 h N) (hN : N < 2 ^ 59) : ∃ v h', call p 101 [.ptr h0.length 0] h = some (v, h') ∧ ∃ (xs : List Val), Out h.length h' v xs ∧ xs.length ≤ 60 ∧ DC h0 h' (N + 1000) ∧ KeepsBut h0.length h h' ∧ h.length ≤ h'.length := by
  obtain ⟨n, h1, e1, hn, d1, k1, l1⟩ := d.pick (by omega) 9 (by decide)
  obtain ⟨b, h2, e2, d2, k2, l2⟩ := d1.one (by omega) 20 (by decide)
  obtain ⟨m, h3, e3, hm, d3, k3, l3⟩ := d2.pick (by omega) 2 (by decide)
  have hlt := d.lt
  refine go (fn := g101) rfl rfl fun R hR => ?_
  have w : IntKind.i64.wrap (40 + (m : Int)) = (40 + m : Nat) := by rw [IntWalk.i64_in] <;> omega
  have loop : ∀ (k : Nat) (s0 : S) (K : Ex → S → Prop), k ≤ 50 → s0.σ 4 = .v (vi k) → s0.σ 3 = .v .nils → s0.σ 0 = .v (.ptr h0.length 0) → DC h0 s0.h (N + 6) → KeepsBut h0.length h s0.h → h.length ≤ s0.h.length →
      (∀ s' (xs : List Val) v, s'.σ 0 = .v (.ptr h0.length 0) → s'.σ 3 = .v v → Out h.length s'.h v xs → xs.length ≤ 50 → DC h0 s'.h (N + 500) → KeepsBut h0.length h s'.h → h.length ≤ s'.h.length → K (.exit 0) s') → Wc p (.loop g101_0) s0 K := by
    intro k s0 K hk g4 g3 g0 d kb hl hK
    refine Wc_dnM (M := [3, 4, 12, 13, 14, 15, 16, 17, 18, 19, 20]) rfl (fun k s => ∃ (xs : List Val) (v : V), xs.length + k ≤ 50 ∧ s.σ 4 = .v (vi k) ∧ s.σ 3 = .v v ∧ Out h.length s.h v xs ∧ DC h0 s.h (N + 6 + xs.length * 4) ∧ KeepsBut h0.length h s.h ∧ h.length ≤ s.h.length) k
      ⟨[], .nils, by simpa using hk, g4, g3, Out.nil hl, by simpa using d, kb, hl⟩ fun k s ⟨xs, v, hx, g4, g3, ho, d, kb, hl⟩ hM J hJ => ?_
    by_cases hk0 : 0 < k
    · have w2 : IntKind.i64.wrap ((k : Int) - 1) = (k - 1 : Nat) := by rw [IntWalk.i64_in] <;> omega
      obtain ⟨x, h4, e4, d4, k4, l4⟩ := d.small (by omega)
      obtain ⟨v', h5, e5, o5, d5, k5, l5⟩ := Out.draw (k := 2) (bytes := 16) d4 (kb.trans k4) (k4.out ho (by omega) (by omega)) (Nat.le_refl _) hlt x (by omega) rfl (by decide) rfl
      simp [Flat.cells] at e5
      simp [g101_0, hM, g0, g4, g3, hk0, e4, w2, rdS_last, e5, fillL]
      exact hJ (k - 1) _ (by omega) ⟨xs ++ [x], v', by simp; omega, by simp, by simp, o5, d5.mono (by simp; omega), k5, by show h.length ≤ h5.length; omega⟩
    · have : k = 0 := by omega
      subst this
      simp [g101_0, hM, g4]
      exact hK _ xs v (by simp [hM, g0]) (by simp [g3]) ho (by omega) (d.mono (by omega)) kb hl
  cases b
  · simp [g101, e1, e2]
    refine loop n _ _ (by omega) (by simp) (by simp) (by simp) (d2.mono (by omega)) (k1.trans k2) (by simp; omega) fun s' xs v g0 g3 ho hx d kb hl => ?_
    by_cases hx0 : 0 < xs.length
    · obtain ⟨b2, h6, e6, d6, k6, l6⟩ := d.one (by omega) 12 (by decide)
      have o6 := k6.out ho (by omega) (by omega)
      cases b2
      · simp [g0, g3, ho.sl.len, hx0, e6]
        exact hR _ _ ⟨xs, o6, by omega, d6.mono (by omega), kb.trans k6, by omega⟩
      · obtain ⟨x, h7, e7, d7, k7, l7⟩ := d6.value (by omega)
        have o7 := k7.out o6 (by omega) (by omega)
        obtain ⟨h8, e8, o8, k8, l8⟩ := o7.set (i := 0) hx0 x (o := oOf v) (by simp) (cs := [.bool x.null, vi x.n]) rfl
        have i0 := ho.sl.idx 2 .i64 0 hx0
        simp at i0
        simp [g0, g3, ho.sl.len, hx0, e6, e7, i0, e8]
        exact hR _ _ ⟨xs.set 0 x, o8, by simp; omega, (d7.far k8 fun i hi hv => by have := (o7.ge hv).1; omega).mono (by omega), ((kb.trans k6).trans k7).far k8 fun i hi _ hv => by have := (o7.ge hv).1; omega, by omega⟩
    · simp [g0, g3, ho.sl.len, hx0]
      exact hR _ _ ⟨xs, ho, by omega, d.mono (by omega), kb, hl⟩
  · simp [g101, e1, e2, e3, w]
    refine loop (40 + m) _ _ (by omega) (by simp) (by simp) (by simp) (d3.mono (by omega)) ((k1.trans k2).trans k3) (by simp; omega) fun s' xs v g0 g3 ho hx d kb hl => ?_
    by_cases hx0 : 0 < xs.length
    · obtain ⟨b2, h6, e6, d6, k6, l6⟩ := d.one (by omega) 12 (by decide)
      have o6 := k6.out ho (by omega) (by omega)
      cases b2
      · simp [g0, g3, ho.sl.len, hx0, e6]
        exact hR _ _ ⟨xs, o6, by omega, d6.mono (by omega), kb.trans k6, by omega⟩
      · obtain ⟨x, h7, e7, d7, k7, l7⟩ := d6.value (by omega)
        have o7 := k7.out o6 (by omega) (by omega)
        obtain ⟨h8, e8, o8, k8, l8⟩ := o7.set (i := 0) hx0 x (o := oOf v) (by simp) (cs := [.bool x.null, vi x.n]) rfl
        have i0 := ho.sl.idx 2 .i64 0 hx0
        simp at i0
        simp [g0, g3, ho.sl.len, hx0, e6, e7, i0, e8]
        exact hR _ _ ⟨xs.set 0 x, o8, by simp; omega, (d7.far k8 fun i hi hv => by have := (o7.ge hv).1; omega).mono (by omega), ((kb.trans k6).trans k7).far k8 fun i hi _ hv => by have := (o7.ge hv).1; omega, by omega⟩
    · simp [g0, g3, ho.sl.len, hx0]
      exact hR _ _ ⟨xs, ho, by omega, d.mono (by omega), kb, hl⟩
end GL
namespace GL
open Go

theorem DC.sum {h0 h : Heap} {N : Nat} (d : DC h0 h N) (hN : N < 2 ^ 58) : ∃ v h', call p 108 [.ptr h0.length 0] h = some (v, h') ∧ ∃ s : Sm, v = .agg (sc s) ∧ DC h0 h' (N + 1010) ∧ KeepsBut h0.length h h' ∧ h.length ≤ h'.length := by
  obtain ⟨v, h1, e1, xs, ho, hx, d1, k1, l1⟩ := d.values (by omega)
  have e2 := sumOfS_eq ho.sl
  obtain ⟨s, b, es⟩ : ∃ s b, (if xs.length ≤ 40 ∧ xs.all okV = true then [V.agg (sc (sumL xs.length xs)), .bool true] else [.agg (sc zSm), .bool false]) = [.agg (sc s), .bool b] := by
    split
    · exact ⟨_, _, rfl⟩
    · exact ⟨_, _, rfl⟩
  rw [es] at e2
  obtain ⟨n, h3, e3, hn, d3, k3, l3⟩ := d1.pick (by omega) 20 (by decide)
  obtain ⟨x, h4, e4, hx4, d4, k4, l4⟩ := d3.amongL (by omega) [-1000000, 1000000, 100] 3 rfl [vi (-1000000), vi 1000000, vi 100] rfl (.k 3) (by decide) (by decide)
  obtain ⟨y, h5, e5, hx5, d5, k5, l5⟩ := d3.amongL (by omega) [-1, 10000, 10001] 3 rfl [vi (-1), vi 10000, vi 10001] rfl (.k 3) (by decide) (by decide)
  refine go (fn := g108) rfl rfl fun R hR => ?_
  by_cases n0 : n = 0
  · subst n0
    simp [g108, e1, e2, e3, e4, fillL, resV, upd, mkV]
    exact hR _ _ ⟨⟨s.rows, s.known, IntKind.i64.wrap (s.total + x), s.low, s.high⟩, rfl, d4.mono (by omega), (k1.trans k3).trans k4, by omega⟩
  · by_cases n1 : n = 1
    · subst n1
      simp [g108, e1, e2, e3, e5, fillL, resV, upd, mkV]
      exact hR _ _ ⟨⟨y, s.known, s.total, s.low, s.high⟩, rfl, d5.mono (by omega), (k1.trans k3).trans k5, by omega⟩
    · have n1' : ¬ (n : Int) = 1 := by omega
      simp [g108, e1, e2, e3, n0, n1', fillL, resV, upd, mkV]
      exact hR _ _ ⟨s, rfl, d3.mono (by omega), k1.trans k3, by omega⟩

theorem DrawSumOf_ok {h : Heap} {v : V} {bs : List Byte} (hs : Sl h v bs) : ∃ r h', call p 28 [v] h = some (r, h') ∧ ∃ xs : List Val, Sl h' r xs ∧ capOK 2 r ∧ Keeps h h' := by
  obtain ⟨w, h1, e1, xs, ho, hx, d1, k1, l1⟩ := (DC.start hs).values (by decide)
  refine go (fn := g28) rfl rfl fun R hR => ?_
  simp [g28, fillL, hs.cells, hs.cell, e1]
  exact hR _ _ ⟨xs, ho.sl, ho.cap, d1.keep⟩
theorem DrawAddSums_ok {h : Heap} {v : V} {bs : List Byte} (hs : Sl h v bs) : ∃ r h', call p 35 [v] h = some (r, h') ∧ ∃ s t : Sm, r = .tup [.agg (sc s), .agg (sc t)] ∧ Keeps h h' := by
  obtain ⟨_, h1, e1, s, rfl, d1, k1, l1⟩ := (DC.start hs).sum (by decide)
  obtain ⟨_, h2, e2, t, rfl, d2, k2, l2⟩ := d1.sum (by decide)
  refine go (fn := g35) rfl rfl fun R hR => ?_
  simp [g35, fillL, hs.cells, hs.cell, e1, e2, resV, upd, mkV]
  exact hR _ _ ⟨s, t, rfl, d2.keep⟩
theorem DrawGoodSum_ok {h : Heap} {v : V} {bs : List Byte} (hs : Sl h v bs) : ∃ r h', call p 109 [v] h = some (r, h') ∧ ∃ s : Sm, r = .agg (sc s) ∧ Keeps h h' := by
  obtain ⟨_, h1, e1, s, rfl, d1, k1, l1⟩ := (DC.start hs).sum (by decide)
  refine go (fn := g109) rfl rfl fun R hR => ?_
  simp [g109, fillL, hs.cells, hs.cell, e1, resV, upd, mkV]
  exact hR _ _ ⟨s, rfl, d1.keep⟩
theorem DrawMeanOf_ok {h : Heap} {v : V} {bs : List Byte} (hs : Sl h v bs) : ∃ r h', call p 37 [v] h = some (r, h') ∧ ∃ s : Sm, r = .agg (sc s) ∧ Keeps h h' := by
  obtain ⟨_, h1, e1, s, rfl, k1⟩ := DrawGoodSum_ok hs
  refine go (fn := g37) rfl rfl fun R hR => ?_
  simp [g37, fillL, e1, resV, upd, mkV]
  exact hR _ _ ⟨s, rfl, k1⟩

/-! the plain law -/
theorem goodS_sum {l : List Val} (hl : l.length ≤ 40) (hv : ∀ x ∈ l, okV x = true) : goodS (sumL l.length l) = true := by
  obtain ⟨q1, q2, q3, q4, q5⟩ := sumL_inv l.length _ l rfl hv
  generalize sumL l.length l = s at *
  refine goodS_iff.2 ⟨by omega, by omega, by omega, ?_, ?_, fun hk => ?_, fun hk => ?_⟩
  · by_cases hk : s.known = 0
    · rw [(q4 hk).1]; rfl
    · obtain ⟨a, b, c, d, e, _, _⟩ := q5 hk
      simp [okV, a]; omega
  · by_cases hk : s.known = 0
    · rw [(q4 hk).2.1]; rfl
    · obtain ⟨a, b, c, d, e, _, _⟩ := q5 hk
      simp [okV, b]; omega
  · obtain ⟨a, b, c⟩ := q4 hk
    rw [a, b]; exact ⟨rfl, rfl, c⟩
  · obtain ⟨a, b, c, d, e, f, g⟩ := q5 hk
    exact ⟨a, b, d, f, g⟩

theorem addS_sum {l m : List Val} (hl : ∀ x ∈ l, okV x = true) (hm : ∀ x ∈ m, okV x = true) (r t : Int) : addS (sumL r l) (sumL t m) = sumL (r + t) (l ++ m) := by
  have key : ∀ (n : Nat) (m : List Val), m.length = n → (∀ x ∈ m, okV x = true) → addS (sumL r l) (sumL t m) = sumL (r + t) (l ++ m) := by
    intro n
    induction n with
    | zero =>
      intro m hn _
      have : m = [] := List.length_eq_zero_iff.1 hn
      subst this
      obtain ⟨q1, q2, q3, q4, q5⟩ := sumL_inv r _ l rfl hl
      rw [List.append_nil, sumL_rows r (r + t)]
      generalize sumL r l = s at *
      simp only [addS, sumL, List.foldl_nil, Int.lt_irrefl, if_false, Int.add_zero, q1]
      by_cases hk : s.known = 0
      · obtain ⟨a, b, c⟩ := q4 hk
        simp [hk, a, b]
      · simp [hk]
    | succ n ih =>
      intro m hn hm
      rcases List.eq_nil_or_concat m with rfl | ⟨m', v, rfl⟩
      · simp at hn
      · rw [List.concat_eq_append] at hn hm ⊢
        have ih' := ih m' (by simpa using hn) fun x hx => hm x (by simp [hx])
        rw [← List.append_assoc, sumL_snoc, sumL_snoc, ← ih']
        obtain ⟨q1, q2, q3, q4, q5⟩ := sumL_inv r _ l rfl hl
        obtain ⟨p1, p2, p3, p4, p5⟩ := sumL_inv t _ m' rfl fun x hx => hm x (by simp [hx])
        generalize sumL r l = s at *
        generalize sumL t m' = u at *
        cases hnull : v.null with
        | true => simp [sg, hnull]
        | false =>
          by_cases hk : s.known = 0
          · by_cases hu : u.known = 0
            · simp [sg, hnull, addS, hk, hu]; omega
            · simp [sg, hnull, addS, hk, hu]; omega
          · obtain ⟨a, b, c, d, e, _, _⟩ := q5 hk
            by_cases hu : u.known = 0
            · have : ¬ s.known + 0 = 0 := by omega
              simp [sg, hnull, addS, hk, hu, a, b]; omega
            · obtain ⟨a', b', c', d', e', _, _⟩ := p5 hu
              have u0 : 0 < u.known := by omega
              have u1 : 0 < u.known + 1 := by omega
              have u2 : ¬ s.known + u.known = 0 := by omega
              simp [sg, hnull, addS, hk, hu, u0, u1, u2, a, b]; omega
  exact key _ m rfl hm

theorem addS_comm_sum {l m : List Val} (hl : ∀ x ∈ l, okV x = true) (hm : ∀ x ∈ m, okV x = true) (r t : Int) : addS (sumL t m) (sumL r l) = addS (sumL r l) (sumL t m) := by
  obtain ⟨q1, q2, q3, q4, q5⟩ := sumL_inv r _ l rfl hl
  obtain ⟨p1, p2, p3, p4, p5⟩ := sumL_inv t _ m rfl hm
  generalize sumL r l = s at *
  generalize sumL t m = u at *
  by_cases hk : s.known = 0
  · by_cases hu : u.known = 0
    · simp [addS, hk, hu, q4 hk, p4 hu]; omega
    · have u0 : 0 < u.known := by omega
      simp [addS, hk, hu]; omega
  · by_cases hu : u.known = 0
    · simp [addS, hk, hu]; omega
    · have u0 : 0 < u.known := by omega
      have s0 : 0 < s.known := by omega
      obtain ⟨a, b, c, d, e, _, _⟩ := q5 hk
      obtain ⟨a', b', c', d', e', _, _⟩ := p5 hu
      simp [addS, hk, hu, u0, s0, a, b, a', b']; omega
end GL
namespace GL
open Go

theorem addR_form (a b : Sm) : ∃ c t, addR a b = [.agg (sc c), .bool t] := by
  unfold addR; split
  · exact ⟨_, _, rfl⟩
  · exact ⟨_, _, rfl⟩
theorem meanR_form (a : Sm) : ∃ (c : Val) (t : Bool), meanR a = [.agg [.bool c.null, vi c.n], .bool t] := by
  unfold meanR; split
  · split
    · exact ⟨⟨true, 0⟩, _, rfl⟩
    · exact ⟨⟨false, meanI a⟩, _, rfl⟩
  · exact ⟨⟨false, 0⟩, _, rfl⟩

theorem FnSums_tail {h h1 : Heap} {vb : V} {bs : List Byte} (hb : Sl h vb bs) (k1 : Keeps h h1) :
    ∃ s t h2 c d u h3 m e, call p 35 [vb] h1 = some (.tup [.agg (sc s), .agg (sc t)], h2) ∧ call p 32 [.agg (sc s), .agg (sc t)] h2 = some (.tup [.agg (sc c), .bool d], h2) ∧ call p 36 [.agg (sc s), .agg (sc t)] h2 = some (.tup [.agg (sc c), .bool d], h2) ∧
      call p 37 [vb] h2 = some (.agg (sc u), h3) ∧ call p 33 [.agg (sc u)] h3 = some (.tup [vv m, .bool e], h3) ∧ call p 38 [.agg (sc u)] h3 = some (.tup [vv m, .bool e], h3) ∧
      call p 34 [.agg (sc s)] h3 = some (.bool (goodS s), h3) ∧ call p 39 [.agg (sc s)] h3 = some (.bool (goodS s), h3) := by
  obtain ⟨_, h2, e2, s, t, rfl, k2⟩ := DrawAddSums_ok (hb.keeps k1)
  obtain ⟨_, h3, e3, u, rfl, k3⟩ := DrawMeanOf_ok (hb.keeps (k1.trans k2))
  obtain ⟨c, d, ec⟩ := addR_form s t
  obtain ⟨m, e, em⟩ := meanR_form u
  exact ⟨s, t, h2, c, d, u, h3, m, e, e2, by rw [AddSums_eq, ec], by rw [AddSumsS_eq, ec], e3, by rw [MeanOf_eq, em], by rw [MeanOfS_eq, em], GoodSum_eq s h3, GoodSumS_eq s h3⟩

set_option maxRecDepth 20000 in
theorem FnSums_ok {h : Heap} {va vb : V} {as bs : List Byte} (ha : Sl h va as) (hb : Sl h vb bs) : ∃ r h', call p 27 [va, vb] h = some (r, h') ∧ r = .bool true := by
  obtain ⟨r, h1, e1, l, hl, hcap, k1⟩ := DrawSumOf_ok ha
  obtain ⟨s, t, h2, c, d, u, h3, m, e, f1, f2, f3, f4, f5, f6, f7, f8⟩ := FnSums_tail hb k1
  have i1 := sumOfR_eq hl
  have i2 := sumOfS_eq hl
  refine go (fn := g27) rfl rfl fun R hR => ?_
  by_cases hbig : (1048576 : Int) < IntKind.i64.wrap ((as.length : Int) + bs.length)
  · simp [g27, ha.len, hb.len, hbig]
    exact hR _ _ rfl
  · have w2 := hl.bd
    by_cases hok : l.length ≤ 40 ∧ l.all okV = true
    · rw [if_pos hok] at i1 i2
      have hall : ∀ x ∈ l, okV x = true := by simpa using hok.2
      obtain ⟨n, hn, en⟩ := numberOf_eq (hb.keeps k1)
      obtain ⟨q, hq⟩ : ∃ q, n % (l.length + 1) = q := ⟨_, rfl⟩
      have hql : q ≤ l.length := by have := Nat.mod_lt n (show l.length + 1 > 0 by omega); omega
      have w2 : IntKind.i64.wrap ((l.length : Int) + 1) = (l.length + 1 : Nat) := by rw [IntWalk.i64_in] <;> omega
      have w3 : ((n : Int)).tmod ((l.length + 1 : Nat) : Int) = q := by rw [Int.tmod_eq_emod_of_nonneg (by omega), ← hq]; rfl
      obtain ⟨F, hF, _⟩ := hl.sdF hcap
      obtain ⟨v1, F1, s1, hs1, _⟩ := hF.sub (lo := none) (hi := some q) (i := 0) (j := q) rfl rfl (by omega) hql (k := 2) rfl
      obtain ⟨v2, F2, s2, hs2, _⟩ := hF.sub (lo := some q) (hi := none) (i := q) (j := l.length) rfl rfl hql (Nat.le_refl _) (k := 2) rfl
      rw [List.take_length] at hs2
      rw [List.drop_zero] at hs1
      have i3 := sumOfR_eq hs1.sl
      have i4 := sumOfR_eq hs2.sl
      have a1 : ∀ x ∈ l.take q, okV x = true := fun x hx => hall x (List.mem_of_mem_take hx)
      have a2 : ∀ x ∈ l.drop q, okV x = true := fun x hx => hall x (List.mem_of_mem_drop hx)
      have b1 : (l.take q).length ≤ 40 := by simp; omega
      have b2 : (l.drop q).length ≤ 40 := by simp; omega
      rw [if_pos ⟨b1, by simpa using a1⟩] at i3
      rw [if_pos ⟨b2, by simpa using a2⟩] at i4
      have gS := goodS_sum hok.1 hall
      have gA := goodS_sum b1 a1
      have gB := goodS_sum b2 a2
      have add1 : addS (sumL (l.take q).length (l.take q)) (sumL (l.drop q).length (l.drop q)) = sumL l.length l := by
        rw [addS_sum a1 a2, List.take_append_drop]
        congr 1
        simp; omega
      have add2 : addS (sumL (l.drop q).length (l.drop q)) (sumL (l.take q).length (l.take q)) = sumL l.length l := by rw [addS_comm_sum a1 a2, add1]
      generalize sumL l.length l = sS at *
      generalize sumL (l.take q).length (l.take q) = sA at *
      generalize sumL (l.drop q).length (l.drop q) = sB at *
      have j1 : call p 32 [.agg (sc sA), .agg (sc sB)] h1 = some (.tup [.agg (sc sS), .bool true], h1) := by rw [AddSums_eq, addR, add1, if_pos ⟨gA, gB, gS⟩]
      have j2 : call p 32 [.agg (sc sB), .agg (sc sA)] h1 = some (.tup [.agg (sc sS), .bool true], h1) := by rw [AddSums_eq, addR, add2, if_pos ⟨gB, gA, gS⟩]
      have j3 : call p 34 [.agg (sc sS)] h1 = some (.bool true, h1) := by rw [GoodSum_eq, gS]
      have w4 : ¬ (((l.length + 1 : Nat) : Int) = 0) := by omega
      have w5 : (0 : Int) ≤ q := by omega
      obtain ⟨cm, j4, j5⟩ : ∃ cm : Val, call p 33 [.agg (sc sS)] h1 = some (.tup [vv cm, .bool true], h1) ∧ (cm.null = decide (sS.known = 0)) ∧ (sS.known ≠ 0 → sS.low.n ≤ cm.n ∧ cm.n ≤ sS.high.n) := by
        by_cases hk : sS.known = 0
        · exact ⟨⟨true, 0⟩, by rw [MeanOf_eq, meanR, if_pos gS, if_pos hk], by simp [hk], fun h => absurd hk h⟩
        · exact ⟨⟨false, meanI sS⟩, by rw [MeanOf_eq, meanR, if_pos gS, if_neg hk], by simp [hk], fun _ => mean_in gS hk⟩
      obtain ⟨j5, j6⟩ := j5
      have j7 : decide (sS.known = 0) = false → ¬ cm.n < sS.low.n ∧ ¬ sS.high.n < cm.n := fun h => by have := j6 (by simpa using h); omega
      obtain ⟨rS, kS, tS, ⟨lnS, lS⟩, ⟨gnS, gS'⟩⟩ := sS
      simp only at j5 j7
      cases hz : decide (kS = 0) with
      | true =>
        have hz' : kS = 0 := by simpa using hz
        subst hz'
        simp at j5
        simp [g27, ha.len, hb.len, hbig, e1, i1, i2, i3, i4, fillL, bounds, takeB, resV, upd, eqCells, en, hl.len, w2, w3, w4, w5, s1, s2, j1, j2, j3, j4, j5, f1, f2, f3, f4, f5, f6, f7, f8, -Int.natCast_add]
        exact hR _ _ rfl
      | false =>
        have hz' : ¬ kS = 0 := by simpa using hz
        obtain ⟨z1, z2⟩ := j7 hz
        simp [g27, ha.len, hb.len, hbig, e1, i1, i2, i3, i4, fillL, bounds, takeB, resV, upd, eqCells, en, hl.len, w2, w3, w4, w5, s1, s2, j1, j2, j3, j4, j5, hz', z1, z2, f1, f2, f3, f4, f5, f6, f7, f8, -Int.natCast_add]
        exact hR _ _ rfl
    · rw [if_neg hok] at i1 i2
      simp [g27, ha.len, hb.len, hbig, e1, i1, i2, fillL, resV, upd, eqCells, f1, f2, f3, f4, f5, f6, f7, f8, -Int.natCast_add]
      exact hR _ _ rfl
end GL
