import Derived.ChangeArms
import Derived.IntWalk
import Derived.WideShapes
import Derived.Test.YtpplaefnjbhhfaaGuFnSwappedA
/- What the functions of the law do, on the machine. -/
set_option linter.unusedSimpArgs false
set_option linter.unusedVariables false
set_option linter.unnecessarySimpa false
namespace GL
open Go

theorem lastN_take (zs : List Act3) (x : Int) (m : Nat) : ∀ n, n ≤ m → lastN (zs.take m) x n = lastN zs x n
  | 0, _ => rfl
  | n + 1, h => by
    have e : (zs.take m).getD n (0, 0, false) = zs.getD n (0, 0, false) := by
      simp only [List.getD_eq_getElem?_getD, List.getElem?_take]
      rw [if_pos (by omega)]
    rw [lastN, lastN, e, lastN_take zs x m n (by omega)]
theorem lastW_take_succ {xs : List Ac} {i : Nat} (hi : i < xs.length) (x : Int) : lastW (xs.take (i + 1)) x = if wrQ xs[i] x = true then (i : Int) else lastW (xs.take i) x := by
  have l1 : (xs.take (i + 1)).length = i + 1 := by rw [List.length_take]; omega
  have l2 : (xs.take i).length = i := by rw [List.length_take]; omega
  have h1 : lastW (xs.take (i + 1)) x = lastN (xs.map toA3) x (i + 1) := by
    rw [lastW, lastT, List.length_map, l1, List.map_take, lastN_take _ _ _ _ (Nat.le_refl _)]
  have h2 : lastW (xs.take i) x = lastN (xs.map toA3) x i := by
    rw [lastW, lastT, List.length_map, l2, List.map_take, lastN_take _ _ _ _ (Nat.le_refl _)]
  rw [h1, h2, lastN, actAt_getD, wrQ_at hi]
theorem l7Last_eq {h : Heap} {v : V} {xs : List Ac} (hs : Sl h v xs) (x : Int) : call p 403 [v, vi x] h = some (vi (lastW xs x), h) := by
  refine go_eq (fn := g403) rfl rfl fun R hR => ?_
  simp [g403, hs.len]
  refine Wc_upM (M := [5, 6, 7, 10, 11, 12, 13, 14, 15, 16, 17, 18, 19, 20, 21, 22, 23, 24]) rfl xs.length (fun i s => i ≤ xs.length ∧ s.σ 10 = .v (vi i) ∧ s.h = h ∧ s.σ 5 = .v (vi (lastW (xs.take i) x))) 0 ⟨by omega, by simp, rfl, by simp [lastW, lastT, lastN]⟩ fun i s ⟨gi, g10, gh, g5⟩ hM J hJ => ?_
  by_cases hi : i < xs.length
  · have ix := hs.idx 3 .i64 i hi
    have ld := hs.loadC i hi
    have st := hs.step hi
    have ht := lastW_take_succ hi x
    generalize xs[i] = a at *
    by_cases h1 : a.item = x
    · cases hw : a.wr with
      | true =>
        rw [wrQ, hw, decide_eq_true h1] at ht
        rw [hw] at ld
        simp [g403_0, hM, g10, gh, g5, hi, ix, ld, upd, h1, st]
        exact hJ _ hi ⟨hi, by simp, by simp, by simp [ht]⟩
      | false =>
        rw [wrQ, hw] at ht
        rw [hw] at ld
        simp [g403_0, hM, g10, gh, g5, hi, ix, ld, upd, h1, st]
        exact hJ _ hi ⟨hi, by simp, by simp, by simp [ht, g5]⟩
    · rw [wrQ, decide_eq_false h1, Bool.and_false] at ht
      simp [g403_0, hM, g10, gh, g5, hi, ix, ld, upd, h1, st]
      exact hJ _ hi ⟨hi, by simp, by simp, by simp [ht, g5]⟩
  · have : i = xs.length := by omega
    subst this
    rw [List.take_length] at g5
    simp [g403_0, hM, g10, gh, g5]
    exact hR

def readAt (l : List Ac) (i : Nat) : Int := if (l.getD i zAc).wr = true then -2 else lastW (l.take i) (l.getD i zAc).item
def readsL (l : List Ac) : List Int := (List.range l.length).map (readAt l)
def lastsL (l : List Ac) : List Int := (List.range 4).map fun (k : Nat) => lastW l k
theorem l7Lasts_ok {h : Heap} {v : V} {xs : List Ac} (hs : Sl h v xs) : ∃ r h', call p 359 [v] h = some (r, h') ∧ Out h.length h' r (lastsL xs) ∧ Keeps h h' ∧ h.length ≤ h'.length := by
  refine go (fn := g359) rfl rfl fun R hR => ?_
  simp [g359]
  refine Wc_upM (M := [3, 4, 5, 6, 7, 8, 9, 10, 11, 12, 13, 14]) rfl 4 (fun i s => i ≤ 4 ∧ s.σ 4 = .v (vi i) ∧ ∃ v3, s.σ 3 = .v v3 ∧ Out h.length s.h v3 ((List.range i).map fun (k : Nat) => lastW xs k) ∧ Keeps h s.h ∧ h.length ≤ s.h.length) 0
    ⟨by omega, by simp, .nils, by simp, by simpa using Out.nil (Nat.le_refl _), Keeps.refl _, Nat.le_refl _⟩ fun i s ⟨gi, g4, v3, g3, ho, hk, hl0⟩ hM J hJ => ?_
  by_cases hi : i < 4
  · have hi' : (i : Int) < 4 := by omega
    have e1 := l7Last_eq (hs.keeps hk) (i : Int)
    have st : IntKind.i64.wrap ((i : Int) + 1) = (i + 1 : Nat) := by rw [IntWalk.i64_in] <;> omega
    obtain ⟨v', h2, e2, o2, k2, l2⟩ := ho.one (lastW xs i) (by simp; omega)
    have kk := ho.far hk k2 (Nat.le_refl _)
    simp [g359_0, hM, g4, g3, hi, hi', e1, fillL, rdS_last, e2, st, -Int.natCast_add]
    exact hJ _ hi ⟨hi, by simp, v', by simp, by rw [List.range_succ, List.map_append]; exact o2, kk, by show h.length ≤ h2.length; omega⟩
  · have : i = 4 := by omega
    subst this
    simp [g359_0, hM, g4, g3]
    exact hR _ _ ⟨ho, hk, hl0⟩
theorem l7Reads_ok {h : Heap} {v : V} {xs : List Ac} {F : List Nat} (hs : SdF h v xs F) (hl : xs.length ≤ 2 ^ 20) : ∃ r h', call p 358 [v] h = some (r, h') ∧ Out h.length h' r (readsL xs) ∧ Keeps h h' ∧ h.length ≤ h'.length := by
  refine go (fn := g358) rfl rfl fun R hR => ?_
  simp [g358, hs.len]
  refine Wc_upM (M := [3, 4, 5, 6, 9, 10, 11, 12, 13, 14, 15, 16, 17, 18, 19, 20, 21, 22, 23, 24, 25, 26, 27]) rfl xs.length (fun i s => i ≤ xs.length ∧ s.σ 9 = .v (vi i) ∧ ∃ v3, s.σ 3 = .v v3 ∧ Out h.length s.h v3 ((List.range i).map (readAt xs)) ∧ Keeps h s.h ∧ h.length ≤ s.h.length) 0
    ⟨by omega, by simp, .nils, by simp, by simpa using Out.nil (Nat.le_refl _), Keeps.refl _, Nat.le_refl _⟩ fun i s ⟨gi, g9, v3, g3, ho, hk, hl0⟩ hM J hJ => ?_
  by_cases hi : i < xs.length
  · have hss := hs.keep hk
    have ix := hss.idx 3 .i64 i hi
    have ld := hss.sl.loadC i hi
    have st := hss.step hi
    obtain ⟨u, G, eu, su, _, _⟩ := hss.sub (lo := none) (hi := some i) (i := 0) (j := i) rfl rfl (by omega) (by omega) (k := 3) rfl
    rw [List.drop_zero] at su
    have e1 := l7Last_eq su.sl xs[i].item
    have hr : readAt xs i = if xs[i].wr = true then -2 else lastW (xs.take i) xs[i].item := by rw [readAt, getD_in hi]
    obtain ⟨v', h2, e2, o2, k2, l2⟩ := ho.one (readAt xs i) (by simp; omega)
    have kk := ho.far hk k2 (Nat.le_refl _)
    have o2' : Out h.length h2 v' ((List.range (i + 1)).map (readAt xs)) := by rw [List.range_succ, List.map_append]; exact o2
    generalize xs[i] = a at *
    cases hw : a.wr with
    | true =>
      rw [hw] at ld hr
      rw [if_pos rfl] at hr
      rw [hr] at e2
      simp [g358_0, hM, g9, g3, hi, ix, ld, upd, fillL, rdS_last, e2, st]
      exact hJ _ hi ⟨hi, by simp, v', by simp, o2', kk, by show h.length ≤ h2.length; omega⟩
    | false =>
      rw [hw] at ld hr
      rw [if_neg (by simp)] at hr
      rw [hr] at e2
      simp [g358_0, hM, g9, g3, hi, ix, ld, upd, bounds, takeB, eu, e1, fillL, rdS_last, e2, st]
      exact hJ _ hi ⟨hi, by simp, v', by simp, o2', kk, by show h.length ≤ h2.length; omega⟩
  · have : i = xs.length := by omega
    subst this
    simp [g358_0, hM, g9, g3]
    exact hR _ _ ⟨ho, hk, hl0⟩
end GL

namespace GL
open Go

theorem goodPl_len {l : List Ac} (h : goodPl l = true) : l.length ≤ 16 := by
  simp only [goodPl, Bool.and_eq_true, decide_eq_true_eq] at h; exact h.1
theorem LastWrites_ok {h : Heap} {v : V} {xs : List Ac} (hs : Sl h v xs) : ∃ r h', call p 260 [v] h = some (r, h') ∧ ∃ o, r = .tup [o, .bool (goodPl xs)] ∧ Sl h' o (if goodPl xs = true then lastsL xs else []) ∧ Keeps h h' ∧ h.length ≤ h'.length := by
  have e0 := GoodPlay_eq hs
  refine go (fn := g260) rfl rfl fun R hR => ?_
  cases hg : goodPl xs with
  | false =>
    rw [hg] at e0 hR
    simp [g260, hs.cells, hs.cell, e0]
    exact hR _ _ ⟨.nils, rfl, .nil, Keeps.refl _, Nat.le_refl _⟩
  | true =>
    rw [hg] at e0 hR
    have hl := goodPl_len hg
    simp [g260, hs.cells, hs.cell, e0]
    refine Wc_upM (M := [4, 5, 10, 11, 12, 13, 14, 15, 16, 17, 18, 19]) rfl 4 (fun i s => i ≤ 4 ∧ s.σ 10 = .v (vi i) ∧ ∃ v4, s.σ 4 = .v v4 ∧ Out h.length s.h v4 ((List.range i).map fun (k : Nat) => lastW xs k) ∧ Keeps h s.h ∧ h.length ≤ s.h.length) 0
      ⟨by omega, by simp, .slice h.length 0 0 (.k 0), by simp, by simpa using Out.empty (Nat.le_refl _) (by simp), Keeps.append _ _, by simp⟩ fun i s ⟨gi, g10, v4, g4, ho, hk, hl0⟩ hM J hJ => ?_
    by_cases hi : i < 4
    · have hi' : (i : Int) < 4 := by omega
      have e1 := lastWrite_eq (hs.keeps hk) (by omega) (i : Int)
      have st : IntKind.i64.wrap ((i : Int) + 1) = (i + 1 : Nat) := by rw [IntWalk.i64_in] <;> omega
      obtain ⟨v', h2, e2, o2, k2, l2⟩ := ho.one (lastW xs i) (by simp; omega)
      have kk := ho.far hk k2 (Nat.le_refl _)
      simp [g260_0, hM, g10, g4, hi, hi', e1, fillL, rdS_last, e2, st, -Int.natCast_add]
      exact hJ _ hi ⟨hi, by simp, v', by simp, by rw [List.range_succ, List.map_append]; exact o2, kk, by show h.length ≤ h2.length; omega⟩
    · have : i = 4 := by omega
      subst this
      simp [g260_0, hM, g10, g4]
      exact hR _ _ ⟨v4, rfl, ho.sl, hk, hl0⟩
theorem LastWritesS_ok {h : Heap} {v : V} {xs : List Ac} (hs : Sl h v xs) : ∃ r h', call p 261 [v] h = some (r, h') ∧ ∃ o, r = .tup [o, .bool (goodPl xs)] ∧ Sl h' o (if goodPl xs = true then lastsL xs else []) ∧ Keeps h h' ∧ h.length ≤ h'.length := by
  have e0 := GoodPlayS_eq hs
  refine go (fn := g261) rfl rfl fun R hR => ?_
  cases hg : goodPl xs with
  | false =>
    rw [hg] at e0 hR
    simp [g261, hs.cells, hs.cell, e0]
    exact hR _ _ ⟨.nils, rfl, .nil, Keeps.refl _, Nat.le_refl _⟩
  | true =>
    rw [hg] at e0 hR
    obtain ⟨r1, h1, e1, o1, k1, l1⟩ := l7Lasts_ok hs
    simp [g261, hs.cells, hs.cell, e0, e1]
    exact hR _ _ ⟨r1, rfl, o1.sl, k1, l1⟩
theorem ReadsFrom_ok {h : Heap} {v : V} {xs : List Ac} {F : List Nat} (hs : SdF h v xs F) : ∃ r h', call p 258 [v] h = some (r, h') ∧ ∃ o, r = .tup [o, .bool (goodPl xs)] ∧ Sl h' o (if goodPl xs = true then readsL xs else []) ∧ Keeps h h' ∧ h.length ≤ h'.length := by
  have e0 := GoodPlay_eq hs.sl
  refine go (fn := g258) rfl rfl fun R hR => ?_
  cases hg : goodPl xs with
  | false =>
    rw [hg] at e0 hR
    simp [g258, hs.cells, hs.cell, e0]
    exact hR _ _ ⟨.nils, rfl, .nil, Keeps.refl _, Nat.le_refl _⟩
  | true =>
    rw [hg] at e0 hR
    have hl := goodPl_len hg
    simp [g258, hs.cells, hs.cell, hs.len, e0]
    refine Wc_upM (M := [4, 5, 6, 7, 14, 15, 16, 17, 18, 19, 20, 21, 22, 23, 24, 25, 26, 27, 28, 29, 30, 31, 32]) rfl xs.length (fun i s => i ≤ xs.length ∧ s.σ 14 = .v (vi i) ∧ ∃ v4, s.σ 4 = .v v4 ∧ Out h.length s.h v4 ((List.range i).map (readAt xs)) ∧ Keeps h s.h ∧ h.length ≤ s.h.length) 0
      ⟨by omega, by simp, .slice h.length 0 0 (.k 0), by simp, by simpa using Out.empty (Nat.le_refl _) (by simp), Keeps.append _ _, by simp⟩ fun i s ⟨gi, g14, v4, g4, ho, hk, hl0⟩ hM J hJ => ?_
    by_cases hi : i < xs.length
    · have hss := hs.keep hk
      have ix := hss.idx 3 .i64 i hi
      have ld := hss.sl.loadC i hi
      have st := hss.step hi
      obtain ⟨u, G, eu, su, _, _⟩ := hss.sub (lo := none) (hi := some i) (i := 0) (j := i) rfl rfl (by omega) (by omega) (k := 3) rfl
      rw [List.drop_zero] at su
      have e1 := lastWrite_eq su.sl (by rw [List.length_take]; omega) xs[i].item
      have hr : readAt xs i = if xs[i].wr = true then -2 else lastW (xs.take i) xs[i].item := by rw [readAt, getD_in hi]
      obtain ⟨v', h2, e2, o2, k2, l2⟩ := ho.one (readAt xs i) (by simp; omega)
      have kk := ho.far hk k2 (Nat.le_refl _)
      have o2' : Out h.length h2 v' ((List.range (i + 1)).map (readAt xs)) := by rw [List.range_succ, List.map_append]; exact o2
      generalize xs[i] = a at *
      cases hw : a.wr with
      | true =>
        rw [hw] at ld hr
        rw [if_pos rfl] at hr
        rw [hr] at e2
        simp [g258_0, hM, g14, g4, hi, ix, ld, upd, fillL, rdS_last, e2, st]
        exact hJ _ hi ⟨hi, by simp, v', by simp, o2', kk, by show h.length ≤ h2.length; omega⟩
      | false =>
        rw [hw] at ld hr
        rw [if_neg (by simp)] at hr
        rw [hr] at e2
        simp [g258_0, hM, g14, g4, hi, ix, ld, upd, bounds, takeB, eu, e1, fillL, rdS_last, e2, st]
        exact hJ _ hi ⟨hi, by simp, v', by simp, o2', kk, by show h.length ≤ h2.length; omega⟩
    · have : i = xs.length := by omega
      subst this
      simp [g258_0, hM, g14, g4]
      exact hR _ _ ⟨v4, rfl, ho.sl, hk, hl0⟩
theorem ReadsFromS_ok {h : Heap} {v : V} {xs : List Ac} {F : List Nat} (hs : SdF h v xs F) : ∃ r h', call p 259 [v] h = some (r, h') ∧ ∃ o, r = .tup [o, .bool (goodPl xs)] ∧ Sl h' o (if goodPl xs = true then readsL xs else []) ∧ Keeps h h' ∧ h.length ≤ h'.length := by
  have e0 := GoodPlayS_eq hs.sl
  refine go (fn := g259) rfl rfl fun R hR => ?_
  cases hg : goodPl xs with
  | false =>
    rw [hg] at e0 hR
    simp [g259, hs.cells, hs.cell, e0]
    exact hR _ _ ⟨.nils, rfl, .nil, Keeps.refl _, Nat.le_refl _⟩
  | true =>
    rw [hg] at e0 hR
    have hl := goodPl_len hg
    obtain ⟨r1, h1, e1, o1, k1, l1⟩ := l7Reads_ok hs (by omega)
    simp [g259, hs.cells, hs.cell, e0, e1]
    exact hR _ _ ⟨r1, rfl, o1.sl, k1, l1⟩
end GL

namespace GL
open Go

structure Og where
  who : Int
  n : Int
deriving DecidableEq
abbrev ogv (x : Og) : V := .agg [vi x.who, vi x.n]
instance : Flat Og := ⟨2, fun x => [vi x.who, vi x.n], fun _ => rfl, fun _ => rfl, by decide⟩
theorem Sl.loadO {h : Heap} {v : V} {xs : List Og} (hs : Sl h v xs) (i : Nat) (hi : i < xs.length) : rdH h (bOf v) (oOf v + i * 2) 2 = some [vi xs[i].who, vi xs[i].n] := hs.load i hi
theorem ogv_eq (a b : Og) : eqCells [some .i64, some .i64] [vi a.who, vi a.n] [vi b.who, vi b.n] = some (decide (a = b)) := by
  obtain ⟨a1, a2⟩ := a
  obtain ⟨b1, b2⟩ := b
  simp only [Og.mk.injEq]
  by_cases h1 : a1 = b1 <;> by_cases h2 : a2 = b2 <;> simp [eqCells, h1, h2]
theorem EqualO_eq {h : Heap} {v w : V} {xs ys : List Og} (hs : Sl h v xs) (ht : Sl h w ys) : call p 350 [v, w] h = some (.bool (decide (xs = ys)), h) := by
  refine go_eq (fn := g350) rfl rfl fun R hR => ?_
  by_cases hl : xs.length = ys.length
  · have hl' : lenV w = some xs.length := by rw [hl]; exact ht.len
    simp [g350, hs.len, hl']
    refine Wc_upM (M := [4, 5, 13, 14, 15, 16, 17, 18, 19, 20, 21, 22, 23, 24, 25]) rfl xs.length (fun i s => i ≤ xs.length ∧ s.σ 13 = .v (vi i) ∧ s.h = h ∧ xs.take i = ys.take i) 0 (by simp) fun i s ⟨gi, g13, gh, hp⟩ hM J hJ => ?_
    by_cases hi : i < xs.length
    · have hy : i < ys.length := by omega
      have ix := hs.idx 2 .i64 i hi
      have iy := ht.idx 2 .i64 i hy
      have lx := hs.loadO i hi
      have ly := ht.loadO i hy
      have st := hs.step hi
      have ea := ogv_eq xs[i] ys[i]
      by_cases he : xs[i] = ys[i]
      · rw [decide_eq_true he] at ea
        simp [g350_0, hM, g13, gh, hi, ix, iy, lx, ly, ea, st]
        exact hJ _ hi ⟨hi, by simp, rfl, take_eq_succ hi hy hp he⟩
      · rw [decide_eq_false he] at ea
        rw [decide_eq_false (ne_at hi hy he)] at hR
        simp [g350_0, hM, g13, gh, hi, ix, iy, lx, ly, ea]
        exact hR
    · rw [List.take_of_length_le (by omega), List.take_of_length_le (by omega)] at hp
      rw [decide_eq_true hp] at hR
      simp [g350_0, hM, g13, gh, hi]
      exact hR
  · have hne : ¬ (xs.length : Int) = ys.length := by omega
    rw [decide_eq_false (fun h => hl (by rw [h]))] at hR
    simp [g350, hs.len, ht.len, hl, hne]
    exact hR
/-- which act of whom stands there -/
def orgAt (l : List Ac) (k : Int) : Og := if k < 0 then ⟨-1, -1⟩ else ⟨(l.getD k.toNat zAc).who, ((l.take k.toNat).filter fun a => decide (a = l.getD k.toNat zAc)).length⟩
theorem originOf_eq {h : Heap} {v : V} {xs : List Ac} {F : List Nat} (hs : SdF h v xs F) (hl : xs.length ≤ 2 ^ 20) (k : Int) (hk : k < xs.length) : call p 352 [v, vi k] h = some (ogv (orgAt xs k), h) := by
  refine go_eq (fn := g352) rfl rfl fun R hR => ?_
  by_cases h0 : k < 0
  · rw [orgAt, if_pos h0] at hR
    simp [g352, upd, h0, fillL, resV, mkV]
    exact hR
  · obtain ⟨m, rfl⟩ : ∃ m : Nat, k = m := ⟨k.toNat, by omega⟩
    have hm : m < xs.length := by omega
    have h0' : ¬ (m : Int) < 0 := h0
    rw [orgAt, if_neg h0, Int.toNat_natCast, getD_in hm] at hR
    obtain ⟨u, G, eu, su, _, _⟩ := hs.sub (lo := none) (hi := some m) (i := 0) (j := m) rfl rfl (by omega) (by omega) (k := 3) rfl
    rw [List.drop_zero] at su
    have sul := su.len
    have ltl : (xs.take m).length = m := by rw [List.length_take]; omega
    rw [ltl] at sul
    have im := hs.idx 3 .i64 m hm
    have lm := hs.sl.loadC m hm
    have lmw : rdH h (bOf v) (oOf v + m * 3) 1 = some [vi xs[m].who] := by simpa using rdH_sub lm 0 1 (by decide)
    simp [g352, upd, bounds, takeB, eu, sul]
    refine Wc_upM (M := [5, 7, 15, 16, 17, 18, 19, 20, 21, 22, 23, 24, 25, 26, 27]) rfl m (fun i s => i ≤ m ∧ s.σ 15 = .v (vi i) ∧ s.h = h ∧ s.L 4 = (1, [vi 0, vi 0]) ∧ s.σ 5 = .v (vi (((xs.take i).filter fun a => decide (a = xs[m])).length : Nat))) 0 ⟨by omega, by simp, rfl, by simp [upd], by simp⟩ fun i s ⟨gi, g15, gh, gL, g5⟩ hM J hJ => ?_
    by_cases hi : i < m
    · have hiu : i < (xs.take m).length := by omega
      have hix : i < xs.length := by omega
      have ix := su.idx 3 .i64 i hiu
      have ld := su.sl.loadC i hiu
      rw [show (xs.take m)[i] = xs[i] by simp] at ld
      have st : IntKind.i64.wrap ((i : Int) + 1) = (i + 1 : Nat) := by rw [IntWalk.i64_in] <;> omega
      have ea := acv_eq xs[i] xs[m]
      have ht : (xs.take (i + 1)).filter (fun a => decide (a = xs[m])) = (xs.take i).filter (fun a => decide (a = xs[m])) ++ (if xs[i] = xs[m] then [xs[i]] else []) := by
        rw [List.take_succ_eq_append_getElem hix, List.filter_append]
        congr 1
        by_cases h : xs[i] = xs[m] <;> simp [h]
      have hcl : ((xs.take i).filter fun a => decide (a = xs[m])).length ≤ i := Nat.le_trans (List.length_filter_le ..) (by rw [List.length_take]; omega)
      generalize hc : ((xs.take i).filter fun a => decide (a = xs[m])) = cs at *
      have wc : IntKind.i64.wrap ((cs.length : Int) + 1) = (cs.length + 1 : Nat) := by rw [IntWalk.i64_in] <;> omega
      by_cases he : xs[i] = xs[m]
      · rw [decide_eq_true he] at ea
        rw [if_pos he] at ht
        simp [g352_0, hM, g15, gh, g5, hi, ix, ld, upd, im, lm, ea, wc, st, -Int.natCast_add]
        exact hJ _ hi ⟨hi, by simp, by simp, by simp [gL], by rw [ht]; simp⟩
      · rw [decide_eq_false he] at ea
        rw [if_neg he, List.append_nil] at ht
        simp [g352_0, hM, g15, gh, g5, hi, ix, ld, upd, im, lm, ea, st, -Int.natCast_add]
        exact hJ _ hi ⟨hi, by simp, by simp, by simp [gL], by rw [ht]; simp [g5]⟩
    · have : i = m := by omega
      subst this
      simp [g352_0, hM, g15, gh, g5, gL, im, lmw, upd, fillL, resV, mkV]
      exact hR
end GL

namespace GL
open Go

theorem lastW_lt (l : List Ac) (x : Int) : lastW l x < l.length ∧ -1 ≤ lastW l x := by
  rcases lastW_cases l x with ⟨h, _⟩ | ⟨k, hk, h, _⟩ <;> omega
def isRd (a : Ac) (who : Int) : Bool := decide (a.who = who) && !a.wr
/-- what one's reads read, in order -/
def orgsL (l : List Ac) (who : Int) (n : Nat) : List Og := ((List.range n).filter fun i => isRd (l.getD i zAc) who).map fun i => orgAt l (readAt l i)
theorem orgsL_succ (l : List Ac) (who : Int) (n : Nat) : orgsL l who (n + 1) = orgsL l who n ++ (if isRd (l.getD n zAc) who = true then [orgAt l (readAt l n)] else []) := by
  rw [orgsL, List.range_succ, List.filter_append, List.map_append, orgsL]
  congr 1
  cases h : isRd (l.getD n zAc) who
  · simp only [List.filter_cons, h, Bool.false_eq_true, if_false, List.filter_nil, List.map_nil]
  · simp only [List.filter_cons, h, if_true, List.filter_nil, List.map_cons, List.map_nil]
theorem orgsL_len (l : List Ac) (who : Int) (n : Nat) : (orgsL l who n).length ≤ n := by
  rw [orgsL, List.length_map]
  exact Nat.le_trans (List.length_filter_le ..) (by simp)
theorem origins_ok {h : Heap} {v : V} {xs : List Ac} {F : List Nat} (hs : SdF h v xs F) (hl : xs.length ≤ 2 ^ 20) (who : Int) : ∃ r h', call p 349 [v, vi who] h = some (r, h') ∧ Out h.length h' r (orgsL xs who xs.length) ∧ Keeps h h' ∧ h.length ≤ h'.length := by
  refine go (fn := g349) rfl rfl fun R hR => ?_
  simp [g349, hs.len]
  refine Wc_upM (M := [5, 6, 7, 11, 12, 13, 14, 15, 16, 17, 18, 19, 20, 21, 22, 23, 24, 25, 26, 27, 28, 29, 30, 31, 32, 33, 34, 35, 36]) rfl xs.length (fun i s => i ≤ xs.length ∧ s.σ 11 = .v (vi i) ∧ ∃ v5, s.σ 5 = .v v5 ∧ Out h.length s.h v5 (orgsL xs who i) ∧ Keeps h s.h ∧ h.length ≤ s.h.length) 0
    ⟨by omega, by simp, .slice h.length 0 0 (.k 0), by simp, by simpa [orgsL] using Out.empty (Nat.le_refl _) (by simp), Keeps.append _ _, by simp⟩ fun i s ⟨gi, g11, v5, g5, ho, hk, hl0⟩ hM J hJ => ?_
  by_cases hi : i < xs.length
  · have hss := hs.keep hk
    have ix := hss.idx 3 .i64 i hi
    have ld := hss.sl.loadC i hi
    have st := hss.step hi
    have hS := orgsL_succ xs who i
    rw [getD_in hi] at hS
    have hsk : isRd xs[i] who = false → ∀ J', (J' = J) → Out h.length s.h v5 (orgsL xs who (i + 1)) := fun hq _ _ => by rw [hS, hq]; simpa using ho
    by_cases hw : xs[i].who = who
    · cases hwr : xs[i].wr with
      | true =>
        have o' := hsk (by rw [isRd, hwr]; simp) J rfl
        rw [hw, hwr] at ld
        simp [g349_0, hM, g11, g5, hi, ix, ld, upd, st]
        exact hJ _ hi ⟨hi, by simp, v5, by simp [g5], o', hk, hl0⟩
      | false =>
        have hq : isRd xs[i] who = true := by rw [isRd, hwr, decide_eq_true hw]; rfl
        rw [if_pos hq] at hS
        obtain ⟨u, G, eu, su, _, _⟩ := hss.sub (lo := none) (hi := some i) (i := 0) (j := i) rfl rfl (by omega) (by omega) (k := 3) rfl
        rw [List.drop_zero] at su
        have e1 := lastWrite_eq su.sl (by rw [List.length_take]; omega) xs[i].item
        have hr : readAt xs i = lastW (xs.take i) xs[i].item := by rw [readAt, getD_in hi, hwr]; rfl
        rw [← hr] at e1
        have hlt : readAt xs i < xs.length := by
          rw [hr]; have := (lastW_lt (xs.take i) xs[i].item).1; rw [List.length_take] at this; omega
        have e2 := originOf_eq hss hl (readAt xs i) hlt
        have hol := orgsL_len xs who i
        obtain ⟨v', h2, e3, o2, k2, l2, _⟩ := outOne ho (orgAt xs (readAt xs i)) (by omega) (k := 2) (bytes := 16) (cs := [vi (orgAt xs (readAt xs i)).who, vi (orgAt xs (readAt xs i)).n]) rfl (by decide) rfl
        have kk := ho.far hk k2 (Nat.le_refl _)
        rw [hw, hwr] at ld
        generalize orgAt xs (readAt xs i) = og at *
        generalize readAt xs i = rd at *
        simp [g349_0, hM, g11, g5, hi, ix, ld, upd, bounds, takeB, eu, e1, e2, fillL, rdS_last, e3, st]
        exact hJ _ hi ⟨hi, by simp, v', by simp, by rw [hS]; exact o2, kk, by show h.length ≤ h2.length; omega⟩
    · have o' := hsk (by rw [isRd, decide_eq_false hw]; rfl) J rfl
      simp [g349_0, hM, g11, g5, hi, ix, ld, upd, hw, st]
      exact hJ _ hi ⟨hi, by simp, v5, by simp [g5], o', hk, hl0⟩
  · have : i = xs.length := by omega
    subst this
    simp [g349_0, hM, g11, g5]
    exact hR _ _ ⟨ho, hk, hl0⟩

/-- the spec's name of what stands there -/
def nameAt (l : List Ac) (k : Int) : Int := if k < 0 then k else 100 * (l.getD k.toNat zAc).who + ((ofWho (l.take k.toNat) (l.getD k.toNat zAc).who).length : Nat)
theorem l7Name_ok {h : Heap} {v : V} {xs : List Ac} {F : List Nat} (hs : SdF h v xs F) (hg : goodPl xs = true) (k : Int) (hk : k < xs.length) : ∃ r h', call p 402 [v, vi k] h = some (r, h') ∧ r = vi (nameAt xs k) ∧ Keeps h h' ∧ h.length ≤ h'.length := by
  have hl := goodPl_len hg
  refine go (fn := g402) rfl rfl fun R hR => ?_
  by_cases h0 : k < 0
  · rw [nameAt, if_pos h0] at hR
    simp [g402, h0]
    exact hR _ _ ⟨rfl, Keeps.refl _, Nat.le_refl _⟩
  · obtain ⟨m, rfl⟩ : ∃ m : Nat, k = m := ⟨k.toNat, by omega⟩
    have hm : m < xs.length := by omega
    rw [nameAt, if_neg h0, Int.toNat_natCast, getD_in hm] at hR
    have hok : okAc xs[m] = true := by
      simp only [goodPl, Bool.and_eq_true, List.all_eq_true] at hg
      exact hg.2 _ (List.getElem_mem hm)
    simp only [okAc, Bool.and_eq_true, decide_eq_true_eq] at hok
    obtain ⟨u, G, eu, su, _, _⟩ := hs.sub (lo := none) (hi := some m) (i := 0) (j := m) rfl rfl (by omega) (by omega) (k := 3) rfl
    rw [List.drop_zero] at su
    have im := hs.idx 3 .i64 m hm
    have lm := hs.sl.loadC m hm
    have lmw : rdH h (bOf v) (oOf v + m * 3) 1 = some [vi xs[m].who] := by simpa using rdH_sub lm 0 1 (by decide)
    obtain ⟨r1, h1, e1, o1, k1, l1⟩ := l7Of_ok su.sl (by rw [List.length_take]; omega) xs[m].who
    have lmw1 : rdH h1 (bOf v) (oOf v + m * 3) 1 = some [vi xs[m].who] := by simpa using rdH_sub ((hs.keep k1).sl.loadC m hm) 0 1 (by decide)
    have hol := o1.sl.len
    have hfl : (ofWho (xs.take m) xs[m].who).length ≤ m := Nat.le_trans (List.length_filter_le ..) (by rw [List.length_take]; omega)
    generalize (ofWho (xs.take m) xs[m].who).length = c at *
    generalize xs[m].who = w at *
    have w1 : IntKind.i64.wrap (100 * w) = 100 * w := by rw [IntWalk.i64_in] <;> omega
    have w2 : IntKind.i64.wrap (100 * w + (c : Int)) = 100 * w + c := by rw [IntWalk.i64_in] <;> omega
    simp [g402, im, lmw, lmw1, bounds, takeB, eu, e1, stable, stab1, hol, w1, w2]
    exact hR _ _ ⟨rfl, k1, l1⟩
end GL

namespace GL
open Go

def sameW (a b : List Ac) (w : Nat) : Bool := decide (ofWho a w = ofWho b w) && decide (orgsL a w a.length = orgsL b w b.length)
def sameK (a b : List Ac) (k : Nat) : Bool := decide (orgAt a (lastW a k) = orgAt b (lastW b k))
def sameEff (a b : List Ac) : Bool := (List.range 4).all (sameW a b) && (List.range 4).all (sameK a b)
def effR (a b : List Ac) : V := if (goodPl a && goodPl b) = true then .tup [.bool (sameEff a b), .bool true] else .tup [.bool false, .bool false]
theorem range_all_succ (n : Nat) (q : Nat → Bool) : (List.range (n + 1)).all q = ((List.range n).all q && q n) := by simp [List.range_succ]
theorem range_all_no {n i : Nat} (hi : i < n) {q : Nat → Bool} (h : q i = false) : (List.range n).all q = false := by
  rw [List.all_eq_false]; exact ⟨i, List.mem_range.2 hi, by simp [h]⟩

theorem SameEffect_ok {h : Heap} {v w : V} {a b : List Ac} {Fa Fb : List Nat} (ha : SdF h v a Fa) (hb : SdF h w b Fb) : ∃ r h', call p 253 [v, w] h = some (r, h') ∧ r = effR a b ∧ Keeps h h' ∧ h.length ≤ h'.length := by
  have e1 := GoodPlay_eq ha.sl
  have e2 := GoodPlay_eq hb.sl
  refine go (fn := g253) rfl rfl fun R hR => ?_
  cases hga : goodPl a with
  | false =>
    rw [hga] at e1
    rw [effR, hga] at hR
    simp [g253, ha.cells, ha.cell, e1]
    exact hR _ _ ⟨rfl, Keeps.refl _, Nat.le_refl _⟩
  | true =>
    rw [hga] at e1
    cases hgb : goodPl b with
    | false =>
      rw [hgb] at e2
      rw [effR, hgb, Bool.and_false] at hR
      simp [g253, ha.cells, ha.cell, hb.cells, hb.cell, e1, e2]
      exact hR _ _ ⟨rfl, Keeps.refl _, Nat.le_refl _⟩
    | true =>
      rw [hgb] at e2
      rw [effR, hga, hgb, Bool.and_self, if_pos rfl] at hR
      have la := goodPl_len hga
      have lb := goodPl_len hgb
      simp [g253, ha.cells, ha.cell, hb.cells, hb.cell, e1, e2]
      refine Wc_upM (M := [4, 5, 6, 16, 17, 18, 19, 20, 21, 22, 23, 24, 25, 26, 27, 28, 29, 30, 31, 32, 33, 34, 35, 36, 37]) rfl 4 (fun i s => i ≤ 4 ∧ s.σ 16 = .v (vi i) ∧ Keeps h s.h ∧ h.length ≤ s.h.length ∧ (List.range i).all (sameW a b) = true) 0 ⟨by omega, by simp, Keeps.refl _, Nat.le_refl _, rfl⟩ fun i s ⟨gi, g16, hk, hl0, hall⟩ hM J hJ => ?_
      by_cases hi : i < 4
      · have hi' : (i : Int) < 4 := by omega
        have st : IntKind.i64.wrap ((i : Int) + 1) = (i + 1 : Nat) := by rw [IntWalk.i64_in] <;> omega
        have ha0 := ha.keep hk
        have hb0 := hb.keep hk
        obtain ⟨r1, h1, q1, G1, s1, k1, l1⟩ := actsOf_ok ha0.sl (by omega) (i : Int)
        obtain ⟨r2, h2, q2, G2, s2, k2, l2⟩ := actsOf_ok (hb0.keep k1).sl (by omega) (i : Int)
        have q3 := EqualA_eq (s1.keep k2).sl s2.sl
        have k12 := k1.trans k2
        have bad : sameW a b i = false → ∀ H, Keeps h H → h.length ≤ H.length → R (.tup [.bool false, .bool true]) H := fun hq H hk hl => by
          rw [sameEff, range_all_no hi hq, Bool.false_and] at hR
          exact hR _ _ ⟨rfl, hk, hl⟩
        by_cases c1 : ofWho a i = ofWho b i
        · rw [decide_eq_true c1] at q3
          obtain ⟨r3, h3, q4, o3, k3, l3⟩ := origins_ok (ha0.keep k12) (by omega) (i : Int)
          obtain ⟨r4, h4, q5, o4, k4, l4⟩ := origins_ok ((hb0.keep k12).keep k3) (by omega) (i : Int)
          have q6 := EqualO_eq (o3.sl.keeps k4) o4.sl
          have k14 := (k12.trans k3).trans k4
          by_cases c2 : orgsL a i a.length = orgsL b i b.length
          · rw [decide_eq_true c2] at q6
            simp [g253_0, hM, g16, hi, hi', q1, q2, q3, q4, q5, q6, st, -Int.natCast_add]
            exact hJ _ hi ⟨hi, by simp, hk.trans k14, by show h.length ≤ h4.length; omega, by rw [range_all_succ, hall, sameW, decide_eq_true c1, decide_eq_true c2]; rfl⟩
          · rw [decide_eq_false c2] at q6
            simp [g253_0, hM, g16, hi, hi', q1, q2, q3, q4, q5, q6]
            exact bad (by rw [sameW, decide_eq_false c2, Bool.and_false]) _ (hk.trans k14) (by omega)
        · rw [decide_eq_false c1] at q3
          simp [g253_0, hM, g16, hi, hi', q1, q2, q3]
          exact bad (by rw [sameW, decide_eq_false c1, Bool.false_and]) _ (hk.trans k12) (by omega)
      · have hi4 : i = 4 := by omega
        subst hi4
        have ha0 := ha.keep hk
        have hb0 := hb.keep hk
        simp [g253_0, hM, g16]
        refine Wc_upM (M := [4, 5, 7, 38, 39, 40, 41, 42, 43, 44, 45, 46, 47, 48, 49, 50, 51, 52]) rfl 4 (fun i t => i ≤ 4 ∧ t.σ 38 = .v (vi i) ∧ t.h = s.h ∧ (List.range i).all (sameK a b) = true) 0 ⟨by omega, by simp, rfl, rfl⟩ fun i t ⟨gi', g38, gh, hall2⟩ hM' J' hJ' => ?_
        by_cases hi : i < 4
        · have hi' : (i : Int) < 4 := by omega
          have st : IntKind.i64.wrap ((i : Int) + 1) = (i + 1 : Nat) := by rw [IntWalk.i64_in] <;> omega
          have q1 := lastWrite_eq ha0.sl (by omega) (i : Int)
          have q2 := originOf_eq ha0 (by omega) (lastW a i) (lastW_lt a i).1
          have q3 := lastWrite_eq hb0.sl (by omega) (i : Int)
          have q4 := originOf_eq hb0 (by omega) (lastW b i) (lastW_lt b i).1
          have q5 := ogv_eq (orgAt a (lastW a i)) (orgAt b (lastW b i))
          by_cases c : orgAt a (lastW a i) = orgAt b (lastW b i)
          · rw [decide_eq_true c] at q5
            simp [g253_1, hM', hM, g38, gh, hi, hi', q1, q2, q3, q4, q5, st, -Int.natCast_add]
            exact hJ' _ hi ⟨hi, by simp, by simp, by rw [range_all_succ, hall2, sameK, decide_eq_true c]; rfl⟩
          · rw [decide_eq_false c] at q5
            simp [g253_1, hM', hM, g38, gh, hi, hi', q1, q2, q3, q4, q5]
            rw [sameEff, range_all_no hi (q := sameK a b) (by rw [sameK, decide_eq_false c]), Bool.and_false] at hR
            exact hR _ _ ⟨rfl, hk, hl0⟩
        · have hi5 : i = 4 := by omega
          subst hi5
          simp [g253_1, hM', g38, gh]
          rw [sameEff, hall, hall2] at hR
          exact hR _ _ ⟨rfl, hk, hl0⟩
end GL

namespace GL
open Go

def segL (l : List Ac) (w : Int) (n : Nat) : List Int := ((List.range n).filter fun i => decide ((l.getD i zAc).who = w)).map fun i => nameAt l (readAt l i)
theorem segL_succ (l : List Ac) (w : Int) (n : Nat) : segL l w (n + 1) = segL l w n ++ (if (l.getD n zAc).who = w then [nameAt l (readAt l n)] else []) := by
  rw [segL, List.range_succ, List.filter_append, List.map_append, segL]
  congr 1
  by_cases h : (l.getD n zAc).who = w
  · simp only [List.filter_cons, h, decide_true, if_true, List.filter_nil, List.map_cons, List.map_nil]
  · simp only [List.filter_cons, h, decide_false, Bool.false_eq_true, if_false, List.filter_nil, List.map_nil]
theorem segL_len (l : List Ac) (w : Int) (n : Nat) : (segL l w n).length ≤ n := by
  rw [segL, List.length_map]
  exact Nat.le_trans (List.length_filter_le ..) (by simp)
def segsL (l : List Ac) (k : Nat) : List Int := (List.range k).flatMap fun (w : Nat) => segL l (w : Int) l.length
theorem segsL_succ (l : List Ac) (k : Nat) : segsL l (k + 1) = segsL l k ++ segL l k l.length := by simp [segsL, List.range_succ]
theorem segsL_len (l : List Ac) (k : Nat) : (segsL l k).length ≤ k * l.length := by
  induction k with
  | zero => simp [segsL]
  | succ k ih => rw [segsL_succ, List.length_append, Nat.add_mul]; have := segL_len l k l.length; omega
def effL (l : List Ac) : List Int := segsL l 4 ++ (lastsL l).map (nameAt l)

theorem l7Effect_ok {h : Heap} {v : V} {xs : List Ac} {F : List Nat} (hs : SdF h v xs F) (hg : goodPl xs = true) : ∃ r h', call p 355 [v] h = some (r, h') ∧ Sl h' r (effL xs) ∧ Keeps h h' ∧ h.length ≤ h'.length := by
  have hl := goodPl_len hg
  obtain ⟨r1, h1, e1, o1, k1, l1⟩ := l7Reads_ok hs (by omega)
  have hrl : (readsL xs).length = xs.length := by simp [readsL]
  refine go (fn := g355) rfl rfl fun R hR => ?_
  simp [g355, e1]
  refine Wc_upM (M := [3, 5, 6, 7, 12, 13, 14, 15, 16, 17, 18, 19, 20, 21, 22, 23, 24, 25, 26, 27, 28, 29, 30, 31, 32, 33, 34, 35, 36]) rfl 4 (fun w s => w ≤ 4 ∧ s.σ 5 = .v (vi w) ∧ ∃ v3, s.σ 3 = .v v3 ∧ Out h1.length s.h v3 (segsL xs w) ∧ Keeps h1 s.h ∧ h1.length ≤ s.h.length) 0
    ⟨by omega, by simp, .nils, by simp, by simpa [segsL] using Out.nil (Nat.le_refl _), Keeps.refl _, Nat.le_refl _⟩ fun w s ⟨gw, g5, v3, g3, ho, hk, hl0⟩ hM J hJ => ?_
  by_cases hw : w < 4
  · have hw' : (w : Int) < 4 := by omega
    have stw : IntKind.i64.wrap ((w : Int) + 1) = (w + 1 : Nat) := by rw [IntWalk.i64_in] <;> omega
    have hsl := segsL_len xs w
    simp [g355_1, hM, g5, hw, hw', hs.len]
    refine Wc_upM (M := [3, 6, 7, 18, 19, 20, 21, 22, 23, 24, 25, 26, 27, 28, 29, 30, 31, 32, 33, 34, 35, 36]) rfl xs.length (fun i t => i ≤ xs.length ∧ t.σ 18 = .v (vi i) ∧ ∃ v3, t.σ 3 = .v v3 ∧ Out h1.length t.h v3 (segsL xs w ++ segL xs w i) ∧ Keeps h1 t.h ∧ h1.length ≤ t.h.length) 0
      ⟨by omega, by simp, v3, by simp [g3], by simpa [segL] using ho, hk, hl0⟩ fun i t ⟨gi, g18, v3', g3', ho', hk', hl0'⟩ hM1 J1 hJ1 => ?_
    by_cases hi : i < xs.length
    · have hst := (hs.keep k1).keep hk'
      have ix := hst.idx 3 .i64 i hi
      have ld := hst.sl.loadC i hi
      have st := hst.step hi
      have hS := segL_succ xs w i
      rw [getD_in hi] at hS
      have hiR : i < (readsL xs).length := by omega
      have iy := o1.sl.idx 1 .i64 i hiR
      have ly := (o1.sl.keeps hk').loadI i hiR
      have er : (readsL xs)[i] = readAt xs i := by simp [readsL]
      rw [er] at ly
      simp only [Nat.mul_one] at iy
      have hlt : readAt xs i < xs.length := by
        rw [readAt]; split
        · omega
        · have := (lastW_lt (xs.take i) (xs.getD i zAc).item).1; rw [List.length_take] at this; omega
      have hsl2 := segL_len xs w i
      by_cases he : xs[i].who = w
      · rw [if_pos he] at hS
        obtain ⟨_, h2, e2, rfl, k2, l2⟩ := l7Name_ok hst hg (readAt xs i) hlt
        have o2 := ho'.keeps (k2.p fun _ => True) (fun _ _ => trivial) l2
        have hmul : w * xs.length ≤ 4 * 16 := Nat.mul_le_mul (by omega) hl
        obtain ⟨v', h3, e3, o3, k3, l3⟩ := o2.one (nameAt xs (readAt xs i)) (by simp; omega)
        have kk := o2.far (hk'.trans k2) k3 (Nat.le_refl _)
        rw [he] at ld
        generalize nameAt xs (readAt xs i) = nm at *
        generalize readAt xs i = rd at *
        simp [g355_0, hM1, hM, g18, g3', hi, ix, ld, upd, g5, iy, ly, e2, fillL, rdS_last, e3, st]
        exact hJ1 _ hi ⟨hi, by simp, v', by simp, by rw [hS, ← List.append_assoc]; exact o3, kk, by show h1.length ≤ h3.length; omega⟩
      · rw [if_neg he, List.append_nil] at hS
        simp [g355_0, hM1, hM, g18, g3', hi, ix, ld, upd, g5, he, st]
        exact hJ1 _ hi ⟨hi, by simp, v3', by simp [g3'], by rw [hS]; exact ho', hk', hl0'⟩
    · have : i = xs.length := by omega
      subst this
      have g5' : t.σ 5 = .v (vi w) := by rw [hM1 5 (by simp)]; simp [g5]
      simp [g355_0, hM1, hM, g18, g5, g5', stw, -Int.natCast_add]
      exact hJ _ hw ⟨hw, by simp, v3', by simp [g3'], by rw [segsL_succ]; exact ho', by exact hk', by exact hl0'⟩
  · have hw4 : w = 4 := by omega
    subst hw4
    have hss := (hs.keep k1).keep hk
    obtain ⟨r2, h2, e2, o2, k2, l2⟩ := l7Lasts_ok hss.sl
    have hll : (lastsL xs).length = 4 := by simp [lastsL]
    have o3 := ho.keeps (k2.p fun _ => True) (fun _ _ => trivial) l2
    have hsl := segsL_len xs 4
    simp [g355_1, hM, g5, e2, o2.sl.len, hll]
    refine Wc_upM (M := [3, 9, 40, 41, 42, 43, 44, 45, 46, 47, 48, 49, 50]) rfl 4 (fun i t => i ≤ 4 ∧ t.σ 40 = .v (vi i) ∧ ∃ v3, t.σ 3 = .v v3 ∧ Out h1.length t.h v3 (segsL xs 4 ++ ((lastsL xs).take i).map (nameAt xs)) ∧ Out s.h.length t.h r2 (lastsL xs) ∧ (∀ b, vB v3 b → ¬ vB r2 b) ∧ Keeps h1 t.h ∧ h2.length ≤ t.h.length) 0
      ⟨by omega, by simp, v3, by simp [g3], by simpa using o3, o2, fun b hb hb2 => by have := (ho.ge hb).2; have := (o2.ge hb2).1; omega, hk.trans k2, Nat.le_refl _⟩ fun i t ⟨gi, g40, v3', g3', ho', oL, hdis, hk', hl0'⟩ hM1 J1 hJ1 => ?_
    by_cases hi : i < 4
    · have hi' : (i : Int) < 4 := by omega
      have hil : i < (lastsL xs).length := by omega
      have st : IntKind.i64.wrap ((i : Int) + 1) = (i + 1 : Nat) := by rw [IntWalk.i64_in] <;> omega
      have ix := oL.sl.idx 1 .i64 i hil
      have ld := oL.sl.loadI i hil
      simp only [Nat.mul_one] at ix
      have ht : ((lastsL xs).take (i + 1)).map (nameAt xs) = ((lastsL xs).take i).map (nameAt xs) ++ [nameAt xs (lastsL xs)[i]] := by
        rw [List.take_succ_eq_append_getElem hil, List.map_append]; rfl
      have hlt : (lastsL xs)[i] < xs.length := by
        have : (lastsL xs)[i] = lastW xs i := by simp [lastsL]
        rw [this]; exact (lastW_lt xs i).1
      obtain ⟨_, h3, e3, rfl, k3, l3⟩ := l7Name_ok ((hs.keep k1).keep hk') hg (lastsL xs)[i] hlt
      have o4 := ho'.keeps (k3.p fun _ => True) (fun _ _ => trivial) l3
      obtain ⟨v', h4, e4, o5, k4, l4, b4⟩ := outOne o4 (nameAt xs (lastsL xs)[i]) (by simp; omega) (k := 1) (bytes := 8) (cs := [vi (nameAt xs (lastsL xs)[i])]) rfl (by decide) rfl
      have oL3 := oL.keeps (k3.p fun _ => True) (fun _ _ => trivial) l3
      have oL4 := oL3.keeps k4 (fun b hb hv => hdis b hv hb) (by omega)
      have hd4 : ∀ b, vB v' b → ¬ vB r2 b := fun b hb hb2 => by have := b4 b hb; have := (oL3.ge hb2).2; omega
      have kk := o4.far (hk'.trans k3) k4 (Nat.le_refl _)
      generalize nameAt xs (lastsL xs)[i] = nm at *
      generalize (lastsL xs)[i] = rd at *
      simp [g355_2, hM1, hM, g40, g3', hi, hi', ix, ld, e3, fillL, rdS_last, e4, st, -Int.natCast_add]
      exact hJ1 _ hi ⟨hi, by simp, v', by simp, by rw [ht, ← List.append_assoc]; exact o5, oL4, hd4, kk, by show h2.length ≤ h4.length; omega⟩
    · have : i = 4 := by omega
      subst this
      rw [List.take_of_length_le (by omega)] at ho'
      simp [g355_2, hM1, g40, g3']
      exact hR _ _ ⟨ho'.sl, k1.trans hk', by omega⟩
end GL

namespace GL
open Go

def sameO (a b : List Ac) (w : Nat) : Bool := decide (ofWho a w = ofWho b w)
def sameS (a b : List Ac) : Bool := (List.range 4).all (sameO a b) && decide (effL a = effL b)
def effRS (a b : List Ac) : V := if (goodPl a && goodPl b) = true then .tup [.bool (sameS a b), .bool true] else .tup [.bool false, .bool false]
theorem SameEffectS_ok {h : Heap} {v w : V} {a b : List Ac} {Fa Fb : List Nat} (ha : SdF h v a Fa) (hb : SdF h w b Fb) : ∃ r h', call p 256 [v, w] h = some (r, h') ∧ r = effRS a b ∧ Keeps h h' ∧ h.length ≤ h'.length := by
  have e1 := GoodPlayS_eq ha.sl
  have e2 := GoodPlayS_eq hb.sl
  refine go (fn := g256) rfl rfl fun R hR => ?_
  cases hga : goodPl a with
  | false =>
    rw [hga] at e1
    rw [effRS, hga] at hR
    simp [g256, ha.cells, ha.cell, e1]
    exact hR _ _ ⟨rfl, Keeps.refl _, Nat.le_refl _⟩
  | true =>
    rw [hga] at e1
    cases hgb : goodPl b with
    | false =>
      rw [hgb] at e2
      rw [effRS, hgb, Bool.and_false] at hR
      simp [g256, ha.cells, ha.cell, hb.cells, hb.cell, e1, e2]
      exact hR _ _ ⟨rfl, Keeps.refl _, Nat.le_refl _⟩
    | true =>
      rw [hgb] at e2
      rw [effRS, hga, hgb, Bool.and_self, if_pos rfl] at hR
      have la := goodPl_len hga
      have lb := goodPl_len hgb
      simp [g256, ha.cells, ha.cell, hb.cells, hb.cell, e1, e2]
      refine Wc_upM (M := [4, 5, 6, 7, 8, 9, 18, 19, 20, 21, 22, 23, 24, 25, 26, 27, 28, 29, 30, 31, 32, 33, 34, 35, 36, 37, 38, 39, 40, 41, 42, 43, 44, 45, 46, 47]) rfl 4 (fun i s => i ≤ 4 ∧ s.σ 6 = .v (vi i) ∧ Keeps h s.h ∧ h.length ≤ s.h.length ∧ (List.range i).all (sameO a b) = true) 0 ⟨by omega, by simp, Keeps.refl _, Nat.le_refl _, rfl⟩ fun i s ⟨gi, g6, hk, hl0, hall⟩ hM J hJ => ?_
      have ha0 := ha.keep hk
      have hb0 := hb.keep hk
      by_cases hi : i < 4
      · have hi' : (i : Int) < 4 := by omega
        have st : IntKind.i64.wrap ((i : Int) + 1) = (i + 1 : Nat) := by rw [IntWalk.i64_in] <;> omega
        obtain ⟨r1, h1, q1, s1, k1, l1⟩ := l7Of_ok ha0.sl (by omega) (i : Int)
        obtain ⟨r2, h2, q2, s2, k2, l2⟩ := l7Of_ok (hb0.keep k1).sl (by omega) (i : Int)
        have k12 := hk.trans (k1.trans k2)
        have t1 := s1.sl.keeps k2
        have t2 := s2.sl
        have bad : ofWho a i ≠ ofWho b i → R (.tup [.bool false, .bool true]) h2 := fun hq => by
          rw [sameS, range_all_no hi (q := sameO a b) (by rw [sameO, decide_eq_false hq]), Bool.false_and] at hR
          exact hR _ _ ⟨rfl, k12, by omega⟩
        have fin : ofWho a i = ofWho b i → (List.range (i + 1)).all (sameO a b) = true := fun hq => by
          rw [range_all_succ, hall, sameO, decide_eq_true hq]; rfl
        generalize ofWho a i = xs at *
        generalize ofWho b i = ys at *
        by_cases hxy : xs.length = ys.length
        · have hl' : lenV r2 = some xs.length := by rw [hxy]; exact t2.len
          simp [g256_1, hM, g6, hi, hi', q1, q2, t1.len, hl']
          refine Wc_upM (M := [4, 5, 9, 35, 36, 37, 38, 39, 40, 41, 42, 43, 44, 45, 46, 47]) rfl xs.length (fun j t => j ≤ xs.length ∧ t.σ 35 = .v (vi j) ∧ t.h = h2 ∧ xs.take j = ys.take j) 0 (by simp) fun j t ⟨gj, g35, gh, hp⟩ hM1 J1 hJ1 => ?_
          by_cases hj : j < xs.length
          · have hy : j < ys.length := by omega
            have ix := t1.idx 3 .i64 j hj
            have iy := t2.idx 3 .i64 j hy
            have lx := t1.loadC j hj
            have ly := t2.loadC j hy
            have stj := t1.step hj
            have ea := acv_eq xs[j] ys[j]
            by_cases he : xs[j] = ys[j]
            · rw [decide_eq_true he] at ea
              simp [g256_0, hM1, hM, g35, gh, hj, ix, iy, lx, ly, ea, stj]
              exact hJ1 _ hj ⟨hj, by simp, rfl, take_eq_succ hj hy hp he⟩
            · rw [decide_eq_false he] at ea
              simp [g256_0, hM1, hM, g35, gh, hj, ix, iy, lx, ly, ea]
              exact bad (ne_at hj hy he)
          · rw [List.take_of_length_le (by omega), List.take_of_length_le (by omega)] at hp
            simp [g256_0, hM1, hM, g35, g6, hj, st, -Int.natCast_add]
            exact hJ _ hi ⟨hi, by simp, by simp only [gh]; exact k12, by simp only [gh]; omega, fin hp⟩
        · have hne : ¬ (xs.length : Int) = ys.length := by omega
          simp [g256_1, hM, g6, hi, hi', q1, q2, t1.len, t2.len, hxy, hne]
          exact bad fun h => hxy (by rw [h])
      · have hi4 : i = 4 := by omega
        subst hi4
        obtain ⟨r1, h1, q1, s1, k1, l1⟩ := l7Effect_ok ha0 hga
        obtain ⟨r2, h2, q2, s2, k2, l2⟩ := l7Effect_ok (hb0.keep k1) hgb
        have q3 := l1Same_eq (s1.keeps k2) s2
        simp [g256_1, hM, g6, q1, q2, q3]
        rw [sameS, hall, Bool.true_and] at hR
        exact hR _ _ ⟨rfl, hk.trans (k1.trans k2), by omega⟩
end GL

namespace GL
open Go

theorem DC.play {h0 h : Heap} {N : Nat} (d : DC h0 h N) (hN : N < 2 ^ 55) : ∃ v h', call p 342 [.ptr h0.length 0] h = some (v, h') ∧ ∃ (xs : List Ac), Out h.length h' v xs ∧ xs.length ≤ 18 ∧ DC h0 h' (N + 1000) ∧ KeepsBut h0.length h h' ∧ h.length ≤ h'.length := by
  have hlt := d.lt
  refine go (fn := g342) rfl rfl fun R hR => ?_
  obtain ⟨a, h1, e1, ha, d1, k1, l1⟩ := d.pick (by omega) 10 (by decide)
  obtain ⟨one, h2, e2, d2, k2, l2⟩ := d1.one (by omega) 20 (by decide)
  have loop : ∀ (k : Nat) (s0 : S) (K : Ex → S → Prop), k ≤ 18 → s0.σ 0 = .v (.ptr h0.length 0) → s0.σ 3 = .v .nils → s0.σ 4 = .v (vi k) → DC h0 s0.h (N + 6) → KeepsBut h0.length h s0.h → h.length ≤ s0.h.length →
      (∀ s v (xs : List Ac), s.σ 0 = .v (.ptr h0.length 0) → s.σ 3 = .v v → Out h.length s.h v xs → xs.length ≤ 18 → DC h0 s.h (N + 500) → KeepsBut h0.length h s.h → h.length ≤ s.h.length → K (.exit 0) s) → Wc p (.loop g342_0) s0 K := by
    intro k s0 K hk g0 g3 g4 dc kb hl hK
    refine Wc_dnM (M := [3, 4, 12, 13, 14, 15, 16, 17, 18, 19, 20, 21, 22, 23, 24, 25]) rfl (fun k s => k ≤ 18 ∧ s.σ 4 = .v (vi k) ∧ ∃ (xs : List Ac) (v : V), xs.length + k ≤ 18 ∧ s.σ 3 = .v v ∧ Out h.length s.h v xs ∧ DC h0 s.h (N + 6 + 6 * xs.length) ∧ KeepsBut h0.length h s.h ∧ h.length ≤ s.h.length) k
      ⟨hk, g4, [], .nils, by simpa using hk, g3, Out.nil hl, by simpa using dc, kb, hl⟩ fun k s ⟨hk, g4, xs, v, hx, g3, ho, dc, kb, hl⟩ hM J hJ => ?_
    by_cases hk0 : 0 < k
    · have hk0' : (0 : Int) < k := by omega
      have w2 : IntKind.i64.wrap ((k : Int) - 1) = (k - 1 : Nat) := by rw [IntWalk.i64_in] <;> omega
      obtain ⟨b1, h3, e3, _, d3, k3, l3⟩ := dc.pick (by omega) 4 (by decide)
      obtain ⟨b2, h4, e4, _, d4, k4, l4⟩ := d3.pick (by omega) 3 (by decide)
      obtain ⟨b3, h5, e5, d5, k5, l5⟩ := d4.one (by omega) 2 (by decide)
      have k35 := (k3.trans k4).trans k5
      have o5 : Out h.length h5 v xs := ho.keeps k35.P (fun i hi => by have := (ho.ge hi).1; omega) (by omega)
      obtain ⟨v', h6, e6, o6, d6, k6, l6⟩ := Out.draw d5 (kb.trans k35) (ho := o5) (by omega) (by omega) (⟨b1, b2, b3⟩ : Ac) (by omega) (k := 3) (bytes := 24) (cs := [vi b1, vi b2, .bool b3]) rfl (by decide) rfl
      simp [g342_0, hM, g0, g4, g3, hk0, hk0', e3, e4, e5, fillL, rdS_last, e6, w2, -Int.natCast_add]
      exact hJ (k - 1) _ (by omega) ⟨by omega, by simp, xs ++ [⟨b1, b2, b3⟩], v', by simp; omega, by simp, o6, d6.mono (by simp; omega), k6, by show h.length ≤ h6.length; omega⟩
    · have : k = 0 := by omega
      subst this
      simp [g342_0, hM, g4]
      exact hK _ v xs (by simp [hM, g0]) (by simp [g3]) ho (by omega) (dc.mono (by omega)) kb hl
  have tail : ∀ (H : Heap) (xs : List Ac) (v : V), Out h.length H v xs → xs.length ≤ 18 → DC h0 H (N + 500) → KeepsBut h0.length h H → h.length ≤ H.length →
      (xs.length = 0 → R v H) ∧ (0 < xs.length → ∃ (q : Bool) (H2 : Heap), call p 92 [.ptr h0.length 0, vi 30] H = some (.bool q, H2) ∧ (q = false → R v H2) ∧ (q = true → ∃ (c1 c2 : Nat) (H3 H4 H5 : Heap), call p 91 [.ptr h0.length 0, vi 6] H2 = some (vi c1, H3) ∧ call p 91 [.ptr h0.length 0, vi 6] H3 = some (vi c2, H4) ∧ IntKind.i64.wrap ((c1 : Int) - 1) = c1 - 1 ∧ IntKind.i64.wrap ((c2 : Int) - 1) = c2 - 1 ∧ idxV 3 v (.int .i64 0) = some (.ptr (bOf v) (oOf v)) ∧ wrH H4 (bOf v) (oOf v) [vi ((c1 : Int) - 1), vi ((c2 : Int) - 1), .bool false] = some H5 ∧ R v H5)) := by
    intro H xs v ho hx dc kb hl
    refine ⟨fun _ => hR _ _ ⟨xs, ho, hx, dc.mono (by omega), kb, hl⟩, fun hp => ?_⟩
    obtain ⟨q, H2, e3, d3, k3, l3⟩ := dc.one (by omega) 30 (by decide)
    have o3 : Out h.length H2 v xs := ho.keeps k3.P (fun i hi => by have := (ho.ge hi).1; omega) (by omega)
    refine ⟨q, H2, e3, fun _ => hR _ _ ⟨xs, o3, hx, d3.mono (by omega), kb.trans k3, by omega⟩, fun _ => ?_⟩
    obtain ⟨c1, H3, e4, hc1, d4, k4, l4⟩ := d3.pick (by omega) 6 (by decide)
    obtain ⟨c2, H4, e5, hc2, d5, k5, l5⟩ := d4.pick (by omega) 6 (by decide)
    have o5 : Out h.length H4 v xs := o3.keeps (k4.trans k5).P (fun i hi => by have := (o3.ge hi).1; omega) (by omega)
    obtain ⟨H5, e6, o6, k6, l6⟩ := o5.set (i := 0) hp (⟨(c1 : Int) - 1, (c2 : Int) - 1, false⟩ : Ac) (o := oOf v) (cs := [vi ((c1 : Int) - 1), vi ((c2 : Int) - 1), .bool false]) (by simp) rfl
    have ix := o5.sl.idx 3 .i64 0 hp
    simp at ix
    refine ⟨c1, c2, H3, H4, H5, e4, e5, by rw [IntWalk.i64_in]; omega, by rw [IntWalk.i64_in]; omega, ix, e6, hR _ _ ⟨_, o6, by simpa using hx, (d5.far k6 fun i hi hv => by have := (o5.ge hv).1; omega).mono (by omega), (((kb.trans k3).trans k4).trans k5).far k6 fun i hi _ hv => by have := (o5.ge hv).1; omega, by omega⟩⟩
  cases one with
  | false =>
    simp [g342, e1, e2]
    refine loop a _ _ (by omega) (by simp) (by simp) (by simp) (d2.mono (by omega)) (k1.trans k2) (by show h.length ≤ h2.length; omega) fun s v xs g0 g3 ho hx dd kk ll => ?_
    obtain ⟨t1, t2⟩ := tail s.h xs v ho hx dd kk ll
    by_cases hp : 0 < xs.length
    · obtain ⟨q, H2, q1, q2, q3⟩ := t2 hp
      cases q with
      | false =>
        simp [g0, g3, ho.sl.len, hp, q1]
        exact q2 rfl
      | true =>
        obtain ⟨c1, c2, H3, H4, H5, x1, x2, x3, x4, x5, x6, x7⟩ := q3 rfl
        simp [g0, g3, ho.sl.len, hp, q1, x1, x2, x3, x4, x5, x6, fillL]
        exact x7
    · simp [g0, g3, ho.sl.len, hp]
      exact t1 (by omega)
  | true =>
    obtain ⟨b, h3, e3, hb, d3, k3, l3⟩ := d2.pick (by omega) 2 (by decide)
    have w1 : IntKind.i64.wrap (16 + (b : Int)) = (16 + b : Nat) := by rw [IntWalk.i64_in] <;> omega
    simp [g342, e1, e2, e3, w1, -Int.natCast_add]
    refine loop (16 + b) _ _ (by omega) (by simp) (by simp) (by simp) (d3.mono (by omega)) ((k1.trans k2).trans k3) (by show h.length ≤ h3.length; omega) fun s v xs g0 g3 ho hx dd kk ll => ?_
    obtain ⟨t1, t2⟩ := tail s.h xs v ho hx dd kk ll
    by_cases hp : 0 < xs.length
    · obtain ⟨q, H2, q1, q2, q3⟩ := t2 hp
      cases q with
      | false =>
        simp [g0, g3, ho.sl.len, hp, q1]
        exact q2 rfl
      | true =>
        obtain ⟨c1, c2, H3, H4, H5, x1, x2, x3, x4, x5, x6, x7⟩ := q3 rfl
        simp [g0, g3, ho.sl.len, hp, q1, x1, x2, x3, x4, x5, x6, fillL]
        exact x7
    · simp [g0, g3, ho.sl.len, hp]
      exact t1 (by omega)
end GL

namespace GL
open Go

theorem drawPlay_ok {h : Heap} {v : V} {bs : List Byte} (hs : Sl h v bs) : ∃ r h', call p 357 [v] h = some (r, h') ∧ ∃ (xs : List Ac) (F : List Nat), SdF h' r xs F ∧ xs.length ≤ 18 ∧ Keeps h h' ∧ h.length ≤ h'.length := by
  have d0 := DC.start hs
  obtain ⟨o, h1, e1, xs, o1, hx, d1, k1, l1⟩ := d0.play (by decide)
  obtain ⟨F, s1, _⟩ := o1.fr
  simp at e1 l1
  refine go (fn := g357) rfl rfl fun R hR => ?_
  simp [g357, hs.cells, hs.cell, fillL, e1]
  exact hR _ _ ⟨xs, F, s1, hx, d1.keep, by omega⟩
theorem drawReads_ok {h : Heap} {v : V} {bs : List Byte} (hs : Sl h v bs) : ∃ r h', call p 257 [v] h = some (r, h') ∧ ∃ (xs : List Ac) (F : List Nat), SdF h' r xs F ∧ xs.length ≤ 18 ∧ Keeps h h' ∧ h.length ≤ h'.length := by
  obtain ⟨o, h1, e1, xs, F, s1, hx, k1, l1⟩ := drawPlay_ok hs
  refine go (fn := g257) rfl rfl fun R hR => ?_
  simp [g257, hs.cells, hs.cell, e1]
  exact hR _ _ ⟨xs, F, s1, hx, k1, l1⟩
theorem drawSwap_ok {h : Heap} {v : V} {bs : List Byte} (hs : Sl h v bs) : ∃ r h', call p 249 [v] h = some (r, h') ∧ ∃ (o : V) (k : Int) (xs : List Ac) (F : List Nat), r = .tup [o, vi k] ∧ (-1 ≤ k ∧ k ≤ 9) ∧ SdF h' o xs F ∧ xs.length ≤ 18 ∧ Keeps h h' ∧ h.length ≤ h'.length := by
  have d0 := DC.start hs
  obtain ⟨o, h1, e1, xs, o1, hx, d1, k1, l1⟩ := d0.play (by decide)
  obtain ⟨a, h2, e2, ha, d2, k2, l2⟩ := d1.pick (by decide) 10 (by decide)
  obtain ⟨b, h3, e3, hb, d3, k3, l3⟩ := d2.pick (by decide) 9 (by decide)
  obtain ⟨F, s1, f1⟩ := o1.fr
  have lt1 := d1.lt
  have nF : ∀ b ∈ F, b ≠ h.length := fun b hb => by have := f1.ge b hb; simp at this; omega
  have s3 := s1.keeps ((k2.trans k3).P.mono nF)
  have e : (b : Int).tdiv 8 = (b / 8 : Nat) := by rw [Int.tdiv_eq_ediv_of_nonneg (by omega)]; omega
  have hb8 : b / 8 ≤ 1 := by omega
  have w1 : IntKind.i64.wrap ((b : Int) / 8) = (b / 8 : Nat) := by rw [IntWalk.i64_in] <;> omega
  have w2 : IntKind.i64.wrap ((a : Int) - ((b / 8 : Nat) : Int)) = (a : Int) - ((b / 8 : Nat) : Int) := by rw [IntWalk.i64_in] <;> omega
  simp at e1 l1
  refine go (fn := g249) rfl rfl fun R hR => ?_
  simp [g249, hs.cells, hs.cell, fillL, e1, e2, e3, w1, w2, -Int.natCast_ediv]
  exact hR _ _ ⟨o, (a : Int) - ((b / 8 : Nat) : Int), xs, F, rfl, ⟨by omega, by omega⟩, s3, hx, d3.keep, by omega⟩
end GL

namespace GL
open Go

def idxC (a b : Ac) : Nat := (4 * a.who + b.who).toNat
def bump (cs : List Int) (x : Nat) : List Int := cs.set x (cs.getD x 0 + 1)
def confIn (a : Ac) (ys : List Ac) (cs : List Int) : List Int := ys.foldl (fun cs b => if clashA a b = true then bump cs (idxC a b) else cs) cs
def confF : List Ac → List Int → List Int
  | [], cs => cs
  | a :: r, cs => confF r (confIn a r cs)
def confL (l : List Ac) : List Int := confF l (List.replicate 16 0)
theorem bump_le {cs : List Int} {x : Nat} {B : Int} (h : ∀ c ∈ cs, 0 ≤ c ∧ c ≤ B) (hB : 0 ≤ B) : ∀ c ∈ bump cs x, 0 ≤ c ∧ c ≤ B + 1 := fun c hc => by
  unfold bump at hc
  rcases List.mem_or_eq_of_mem_set hc with h1 | h1
  · have := h c h1; omega
  · by_cases hx : x < cs.length
    · rw [getD_in hx] at h1
      have := h _ (List.getElem_mem hx)
      omega
    · have : cs.getD x 0 = 0 := by simp [List.getElem?_eq_none (Nat.le_of_not_lt hx)]
      omega
theorem intsNew {h : Heap} : SdF (h ++ [⟨.own, List.replicate 16 (vi 0)⟩]) (.slice h.length 0 16 (.k 16)) (List.replicate 16 (0 : Int)) [h.length] := by
  have hr : Reps h (List.replicate 16 (0 : Int)) (List.replicate 16 (vi 0)) [] := Reps.flat.2 ⟨by rw [flats_rep0], rfl⟩
  exact SdF.lit hr 16 (by simp) (by simp)
theorem conflicts_ok {h : Heap} {v : V} {xs : List Ac} {F : List Nat} (hs : SdF h v xs F) (hg : goodPl xs = true) : ∃ r h', call p 353 [v] h = some (r, h') ∧ Sl h' r (confL xs) ∧ Keeps h h' ∧ h.length ≤ h'.length := by
  have hl := goodPl_len hg
  have hok : ∀ a ∈ xs, (0 ≤ a.who ∧ a.who ≤ 3) := fun a ha => by
    simp only [goodPl, Bool.and_eq_true, List.all_eq_true] at hg
    have := hg.2 a ha
    simp only [okAc, Bool.and_eq_true, decide_eq_true_eq] at this
    exact this.1
  have k0 : Keeps h (h ++ [⟨.own, List.replicate 16 (vi 0)⟩]) := Keeps.append _ _
  have s0 := intsNew (h := h)
  have ob : OwnB (h ++ [⟨.own, List.replicate 16 (vi 0)⟩]) h.length := ⟨_, get_last _ _⟩
  have hFlt : ∀ b ∈ F, b ≠ h.length := fun b hb => by have := hs.ltF hb; omega
  have rm : ((16 : Int) * 8 ≤ room) ∧ ((16 : Int) ≤ room) := by unfold room; omega
  refine go (fn := g353) rfl rfl fun R hR => ?_
  have hrep : (List.replicate 16 [vi 0]).flatten = List.replicate 16 (vi 0) := rfl
  obtain ⟨c0, hc0⟩ : ∃ c0, c0 = List.replicate 16 (vi 0) := ⟨_, rfl⟩
  rw [← hc0] at k0 s0 ob hrep
  simp only [g353]
  have key : ∀ (s0 : S), s0.h = h ++ [⟨.own, c0⟩] → s0.σ 3 = .v (.slice h.length 0 16 (.k 16)) → s0.σ 0 = .v v → s0.σ 9 = .v v → s0.σ 10 = .v (vi xs.length) → s0.σ 11 = .v (vi 0) → ∀ K : Ex → S → Prop, (∀ s, s.σ 3 = .v (.slice h.length 0 16 (.k 16)) → SdF s.h (.slice h.length 0 16 (.k 16)) (confL xs) [h.length] → KeepsP (fun b => b ≠ h.length) (h ++ [⟨.own, c0⟩]) s.h → s.h.length = h.length + 1 → K (.exit 0) s) → Wc p (.loop g353_1) s0 K := by
    intro s0' gh g3 g0 g9 g10 g11 K hK
    refine Wc_upM (M := [4, 5, 7, 11, 12, 13, 14, 15, 16, 17, 18, 19, 20, 21, 22, 23, 24, 25, 26, 27, 28, 29, 30, 31, 32, 33, 34, 35, 36, 37, 38, 39, 40]) rfl xs.length (fun i s => i ≤ xs.length ∧ s.σ 11 = .v (vi i) ∧ KeepsP (fun b => b ≠ h.length) (h ++ [⟨.own, c0⟩]) s.h ∧ s.h.length = h.length + 1 ∧ OwnB s.h h.length ∧ ∃ cs : List Int, cs.length = 16 ∧ (∀ c ∈ cs, 0 ≤ c ∧ c ≤ 16 * i) ∧ SdF s.h (.slice h.length 0 16 (.k 16)) cs [h.length] ∧ confF (xs.drop i) cs = confL xs) 0
      ⟨by omega, g11, by rw [gh]; exact KeepsP.refl _ _, by rw [gh]; simp, by rw [gh]; exact ob, List.replicate 16 0, by simp, by intro c hc; simp at hc; omega, by rw [gh]; exact s0, rfl⟩ fun i s ⟨gi, g11, hk, hlen, hob, cs, hcl, hcb, sc, hcf⟩ hM J hJ => ?_
    by_cases hi : i < xs.length
    · have hss : SdF s.h v xs F := (hs.keep k0).keeps (hk.mono hFlt)
      have ix := hss.idx 3 .i64 i hi
      have ld := hss.sl.loadC i hi
      have st : IntKind.i64.wrap ((i : Int) + 1) = (i + 1 : Nat) := by rw [IntWalk.i64_in] <;> omega
      obtain ⟨u, G, eu, su, hGF, _⟩ := hss.sub (lo := some (i + 1)) (hi := none) (i := i + 1) (j := xs.length) rfl rfl (by omega) (Nat.le_refl _) (k := 3) rfl
      rw [List.take_length] at su
      have sul := su.len
      rw [List.drop_eq_getElem_cons hi, confF] at hcf
      have hwi := hok _ (List.getElem_mem hi)
      generalize xs[i] = a at *
      have hyl : (xs.drop (i + 1)).length = xs.length - (i + 1) := by rw [List.length_drop]
      have hyok : ∀ b ∈ xs.drop (i + 1), 0 ≤ b.who ∧ b.who ≤ 3 := fun b hb => hok b (List.mem_of_mem_drop hb)
      generalize hys : xs.drop (i + 1) = ys at *
      simp [g353_1, hM, g11, g9, g10, g0, hi, ix, ld, upd, st, bounds, takeB, eu, sul, -Int.natCast_add]
      refine Wc_upM (M := [7, 21, 22, 23, 24, 25, 26, 27, 28, 29, 30, 31, 32, 33, 34, 35, 36, 37, 38, 39]) rfl ys.length (fun j t => j ≤ ys.length ∧ t.σ 21 = .v (vi j) ∧ KeepsP (fun b => b ≠ h.length) s.h t.h ∧ t.h.length = h.length + 1 ∧ OwnB t.h h.length ∧ t.L 5 = ((s.L 5).1 + 1, [vi a.who, vi a.item, .bool a.wr]) ∧ ∃ ds : List Int, ds.length = 16 ∧ (∀ c ∈ ds, 0 ≤ c ∧ c ≤ 16 * i + j) ∧ SdF t.h (.slice h.length 0 16 (.k 16)) ds [h.length] ∧ confIn a (ys.drop j) ds = confIn a ys cs) 0
        ⟨by omega, by simp, KeepsP.refl _ _, hlen, hob, by simp [upd], cs, hcl, fun c hc => by have := hcb c hc; omega, sc, rfl⟩ fun j t ⟨gj, g21, hk2, hlen2, hob2, tL, ds, hdl, hdb, sd, hdf⟩ hM1 J1 hJ1 => ?_
      by_cases hj : j < ys.length
      · have hst : SdF t.h u ys G := su.keeps (hk2.mono fun b hb => hFlt b (hGF b hb))
        have ix2 := hst.idx 3 .i64 j hj
        have ld2 := hst.sl.loadC j hj
        have stj := hst.step hj
        have hb := hyok _ (List.getElem_mem hj)
        rw [List.drop_eq_getElem_cons hj] at hdf
        generalize ys[j] = b at *
        have ec := clash_eq a b t.h
        have hdf2 : confIn a (ys.drop (j + 1)) (if clashA a b = true then bump ds (idxC a b) else ds) = confIn a ys cs := hdf
        cases hcl2 : clashA a b with
        | false =>
          rw [hcl2] at ec hdf2
          simp [g353_0, hM1, hM, g21, tL, hj, ix2, ld2, upd, ec, stj]
          exact hJ1 _ hj ⟨hj, by simp, hk2, hlen2, hob2, by simp [tL], ds, hdl, fun c hc => by have := hdb c hc; omega, sd, hdf2⟩
        | true =>
          rw [hcl2] at ec hdf2
          have hx : idxC a b < ds.length := by unfold idxC; omega
          have hxi : ((idxC a b : Nat) : Int) = 4 * a.who + b.who := by unfold idxC; omega
          have w1 : IntKind.i64.wrap (4 * a.who) = 4 * a.who := by rw [IntWalk.i64_in] <;> omega
          have w2 : IntKind.i64.wrap (4 * a.who + b.who) = (idxC a b : Nat) := by rw [IntWalk.i64_in] <;> omega
          have i3 : idxV 1 (.slice h.length 0 16 (.k 16)) (.int .i64 (idxC a b : Nat)) = some (.ptr h.length (idxC a b)) := by
            have := sd.idx 1 .i64 (idxC a b) hx; simpa [bOf, oOf] using this
          have l3 : rdH t.h h.length (idxC a b) 1 = some [vi ds[idxC a b]] := by
            have := sd.sl.loadI (idxC a b) hx; simpa [bOf, oOf] using this
          obtain ⟨h5, e5, s5, k5, l5, o5⟩ := sd.putI (fun c hc => by simp at hc; subst hc; exact hob2) hx (ds[idxC a b] + 1)
          have e5' : wrH t.h h.length (idxC a b) [vi (ds[idxC a b] + 1)] = some h5 := by simpa [bOf, oOf] using e5
          have hv := hdb _ (List.getElem_mem hx)
          have w3 : IntKind.i64.wrap (ds[idxC a b] + 1) = ds[idxC a b] + 1 := by rw [IntWalk.i64_in] <;> omega
          have hbm : bump ds (idxC a b) = ds.set (idxC a b) (ds[idxC a b] + 1) := by rw [bump, getD_in hx]
          have hbl := bump_le (x := idxC a b) hdb (by omega)
          rw [if_pos rfl, hbm] at hdf2
          rw [hbm] at hbl
          generalize ds[idxC a b] = q at *
          generalize idxC a b = x at *
          simp [g353_0, hM1, hM, g3, g21, tL, hj, ix2, ld2, upd, ec, w1, w2, i3, l3, w3, e5', stj]
          exact hJ1 _ hj ⟨hj, by simp, hk2.trans k5, by show h5.length = h.length + 1; omega, o5 _ hob2, by simp [tL], _, by simpa using hdl, fun c hc => by have := hbl c hc; omega, s5, hdf2⟩
      · have hjy : j = ys.length := by omega
        subst hjy
        rw [List.drop_length] at hdf
        have hdf' : ds = confIn a ys cs := hdf
        simp [g353_0, hM1, hM, g21, g11, st, -Int.natCast_add]
        exact hJ _ hi ⟨hi, by simp, by exact hk.trans hk2, by exact hlen2, by exact hob2, ds, hdl, fun c hc => by have := hdb c hc; omega, by exact sd, by rw [hdf']; exact hcf⟩
    · have : i = xs.length := by omega
      subst this
      rw [List.drop_length, confF] at hcf
      subst hcf
      simp [g353_1, hM, g11, g10]
      exact hK _ (by simp [hM, g3]) sc hk hlen
  simp [rm, hs.len, hrep, room]
  refine key _ (by rw [hc0]; rfl) (by simp) (by simp) (by simp) (by simp) (by simp) _ fun s g3 sF hk hlen => ?_
  simp [g3]
  refine hR _ _ ⟨sF.sl, fun b blk hb hst => ?_, by omega⟩
  have := get_lt hb
  exact hk b blk (by omega) (k0 _ _ hb hst) hst
end GL

namespace GL
open Go

theorem ConflictsOf_ok {h : Heap} {v : V} {xs : List Ac} {F : List Nat} (hs : SdF h v xs F) : ∃ r h', call p 254 [v] h = some (r, h') ∧ ∃ o, r = .tup [o, .bool (goodPl xs)] ∧ Sl h' o (if goodPl xs = true then confL xs else []) ∧ Keeps h h' ∧ h.length ≤ h'.length := by
  have e0 := GoodPlay_eq hs.sl
  refine go (fn := g254) rfl rfl fun R hR => ?_
  cases hg : goodPl xs with
  | false =>
    rw [hg] at e0 hR
    simp [g254, hs.cells, hs.cell, e0]
    exact hR _ _ ⟨.nils, rfl, .nil, Keeps.refl _, Nat.le_refl _⟩
  | true =>
    rw [hg] at e0 hR
    obtain ⟨r1, h1, e1, s1, k1, l1⟩ := conflicts_ok hs hg
    simp [g254, hs.cells, hs.cell, e0, e1]
    exact hR _ _ ⟨r1, rfl, s1, k1, l1⟩
end GL

namespace GL

/-! what a play does, act by act from the end -/
theorem orgAt_take {l : List Ac} {k : Int} {n : Nat} (h : k < n) : orgAt (l.take n) k = orgAt l k := by
  unfold orgAt
  split
  · rfl
  · have h1 : k.toNat < n := by omega
    have e1 : (l.take n).getD k.toNat zAc = l.getD k.toNat zAc := by
      simp only [List.getD_eq_getElem?_getD, List.getElem?_take, h1, if_true]
    have e2 : (l.take n).take k.toNat = l.take k.toNat := by rw [List.take_take, Nat.min_eq_left (by omega)]
    rw [e1, e2]
/-- from what an item was last written -/
def orgW (l : List Ac) (x : Int) : Og := orgAt l (lastW l x)
def cntA (l : List Ac) (a : Ac) : Nat := (l.filter fun b => decide (b = a)).length
theorem orgW_snoc (l : List Ac) (a : Ac) (x : Int) : orgW (l ++ [a]) x = if wrQ a x = true then ⟨a.who, cntA l a⟩ else orgW l x := by
  have e := lastW_take_succ (xs := l ++ [a]) (i := l.length) (by simp) x
  rw [List.take_of_length_le (by simp)] at e
  simp only [List.take_left', List.getElem_concat_length] at e
  rw [orgW, e]
  split
  · simp [orgAt, cntA]
  · have hl := (lastW_lt l x).1
    rw [orgW]
    conv => rhs; rw [show l = (l ++ [a]).take l.length by simp]
    rw [orgAt_take (by simpa using hl)]
    simp
theorem readAt_lt (l : List Ac) {i : Nat} (hi : i ≤ l.length) : readAt l i < (i : Nat) := by
  unfold readAt
  split
  · omega
  · have := (lastW_lt (l.take i) (l.getD i zAc).item).1
    rw [List.length_take, Nat.min_eq_left hi] at this
    exact this
theorem orgsL_pre (l : List Ac) (a : Ac) (w : Int) (n : Nat) (hn : n ≤ l.length) : orgsL (l ++ [a]) w n = orgsL l w n := by
  induction n with
  | zero => rfl
  | succ n ih =>
    have hn' : n < l.length := by omega
    have e1 : (l ++ [a]).getD n zAc = l.getD n zAc := by
      rw [getD_in (by simp; omega), getD_in hn', List.getElem_append_left hn']
    have e2 : readAt (l ++ [a]) n = readAt l n := by
      unfold readAt
      rw [e1, List.take_append_of_le_length (by omega)]
    have e3 : orgAt (l ++ [a]) (readAt l n) = orgAt l (readAt l n) := by
      have h := readAt_lt l (i := n) (by omega)
      conv => rhs; rw [show l = (l ++ [a]).take l.length by simp]
      rw [orgAt_take (by simp; omega)]
      simp
    rw [orgsL_succ, orgsL_succ, ih (by omega), e1, e2, e3]
theorem orgsL_snoc (l : List Ac) (a : Ac) (w : Int) : orgsL (l ++ [a]) w (l ++ [a]).length = orgsL l w l.length ++ (if isRd a w = true then [orgW l a.item] else []) := by
  rw [show (l ++ [a]).length = l.length + 1 by simp, orgsL_succ, orgsL_pre _ _ _ _ (Nat.le_refl _)]
  have e1 : (l ++ [a]).getD l.length zAc = a := by rw [getD_in (by simp)]; simp
  rw [e1]
  congr 1
  split
  · rename_i h
    have hr : a.wr = false := by simp [isRd] at h; exact h.2
    have e2 : readAt (l ++ [a]) l.length = lastW l a.item := by
      unfold readAt; rw [e1, hr]; simp
    have h := (lastW_lt l a.item).1
    rw [e2, orgW]
    congr 1
    conv => rhs; rw [show l = (l ++ [a]).take l.length by simp]
    rw [orgAt_take (by simpa using h)]
    simp
  · rfl
/-- plays that are as good as each other -/
structure Alike (a b : List Ac) : Prop where
  perm : a.Perm b
  of : ∀ w, ofWho a w = ofWho b w
  reads : ∀ w, orgsL a w a.length = orgsL b w b.length
  last : ∀ x, orgW a x = orgW b x
theorem Alike.refl (a : List Ac) : Alike a a := ⟨.refl _, fun _ => rfl, fun _ => rfl, fun _ => rfl⟩
theorem Alike.trans {a b c : List Ac} (h : Alike a b) (k : Alike b c) : Alike a c := ⟨h.perm.trans k.perm, fun w => (h.of w).trans (k.of w), fun w => (h.reads w).trans (k.reads w), fun x => (h.last x).trans (k.last x)⟩
theorem Alike.symm {a b : List Ac} (h : Alike a b) : Alike b a := ⟨h.perm.symm, fun w => (h.of w).symm, fun w => (h.reads w).symm, fun x => (h.last x).symm⟩
theorem cntA_perm {a b : List Ac} (h : a.Perm b) (x : Ac) : cntA a x = cntA b x := (h.filter _).length_eq
theorem Alike.snoc {a b : List Ac} (h : Alike a b) (x : Ac) : Alike (a ++ [x]) (b ++ [x]) :=
  ⟨h.perm.append_right _, fun w => by have e := h.of w; simp only [ofWho] at e ⊢; rw [List.filter_append, List.filter_append, e],
   fun w => by rw [orgsL_snoc, orgsL_snoc, h.reads, h.last], fun y => by rw [orgW_snoc, orgW_snoc, h.last, cntA_perm h.perm]⟩
theorem Alike.append {a b : List Ac} (h : Alike a b) (r : List Ac) : Alike (a ++ r) (b ++ r) := by
  induction r generalizing a b with
  | nil => simpa using h
  | cons x r ih => have := ih (h.snoc x); simpa using this
theorem cntA_snoc (l : List Ac) (a x : Ac) : cntA (l ++ [a]) x = cntA l x + if a = x then 1 else 0 := by
  simp only [cntA, List.filter_append, List.length_append, List.filter_cons, List.filter_nil]
  by_cases h : a = x <;> simp [h]
/-- two acts beside each other that do not clash -/
theorem Alike.swap (r : List Ac) {x y : Ac} (hw : x.who ≠ y.who) (hc : clashA x y = false) : Alike (r ++ [x, y]) (r ++ [y, x]) := by
  have e1 : r ++ [x, y] = (r ++ [x]) ++ [y] := by simp
  have e2 : r ++ [y, x] = (r ++ [y]) ++ [x] := by simp
  have hxy : x ≠ y := fun h => hw (by rw [h])
  have hc' : x.item = y.item → x.wr = false ∧ y.wr = false := fun h => by simpa [clashA, hw, h] using hc
  refine ⟨(List.Perm.swap y x []).append_left r, fun w => ?_, fun w => ?_, fun z => ?_⟩
  · simp only [ofWho, List.filter_append]
    congr 1
    by_cases h1 : x.who = w
    · have h2 : ¬ y.who = w := fun h => hw (h1.trans h.symm)
      simp [h1, h2]
    · by_cases h2 : y.who = w <;> simp [h1, h2]
  · rw [e1, e2, orgsL_snoc, orgsL_snoc, orgsL_snoc, orgsL_snoc, List.append_assoc, List.append_assoc]
    congr 1
    rw [orgW_snoc, orgW_snoc]
    cases h1 : isRd x w with
    | true =>
      have h1' : x.who = w ∧ x.wr = false := by simpa [isRd] using h1
      have h2 : isRd y w = false := by simp [isRd]; intro h; exact absurd (h1'.1.trans h.symm) hw
      have h3 : wrQ y x.item = false := by
        by_cases h : x.item = y.item
        · simp [wrQ, (hc' h).2]
        · simp [wrQ, show ¬ y.item = x.item from fun k => h k.symm]
      rw [h2, h3]; simp
    | false =>
      cases h2 : isRd y w with
      | false => simp
      | true =>
        have h3 : wrQ x y.item = false := by
          by_cases h : x.item = y.item
          · simp [wrQ, (hc' h).1]
          · simp [wrQ, h]
        rw [h3]; simp
  · rw [e1, e2, orgW_snoc, orgW_snoc, orgW_snoc, orgW_snoc, cntA_snoc, cntA_snoc, if_neg hxy, if_neg (Ne.symm hxy)]
    by_cases h1 : wrQ x z = true
    · have h1' : x.wr = true ∧ x.item = z := by simpa [wrQ] using h1
      have h2 : wrQ y z = false := by
        cases h : wrQ y z with
        | false => rfl
        | true =>
          have h' : y.wr = true ∧ y.item = z := by simpa [wrQ] using h
          have := hc' (h1'.2.trans h'.2.symm)
          rw [this.1] at h1'; exact absurd h1'.1 (by simp)
      simp [h1, h2]
    · simp [h1]
theorem Alike.eff {a b : List Ac} (h : Alike a b) : sameEff a b = true := by
  simp only [sameEff, Bool.and_eq_true, List.all_eq_true, sameW, sameK, decide_eq_true_eq]
  exact ⟨fun w _ => ⟨h.of _, h.reads _⟩, fun k _ => h.last k⟩
theorem clashA_comm (a b : Ac) : clashA a b = clashA b a := by
  simp only [clashA]
  rw [show decide (a.who ≠ b.who) = decide (b.who ≠ a.who) by rw [decide_eq_decide]; exact ne_comm, show decide (a.item = b.item) = decide (b.item = a.item) by rw [decide_eq_decide]; exact eq_comm, Bool.or_comm]

/-! two acts that change places -/
theorem swapL_parts {l : List Ac} {k : Nat} (hk : k + 1 < l.length) : l = l.take k ++ [l[k], l[k + 1]] ++ l.drop (k + 2) ∧ swapL l k = l.take k ++ [l[k + 1], l[k]] ++ l.drop (k + 2) := by
  have e : l = l.take k ++ l[k] :: l[k + 1] :: l.drop (k + 2) := by
    conv => lhs; rw [← List.take_append_drop k l]
    rw [List.drop_eq_getElem_cons (by omega : k < l.length), List.drop_eq_getElem_cons hk]
  constructor
  · conv => lhs; rw [e]
    simp
  · rw [swapL, getD_in hk, getD_in (by omega)]
    apply List.ext_getElem?
    intro i
    have hl : (l.take k).length = k := by rw [List.length_take]; omega
    simp only [List.getElem?_set, List.getElem?_append, List.length_append, hl, List.length_set, List.length_cons, List.length_nil]
    by_cases h1 : i < k
    · simp [h1, show ¬ k + 1 = i by omega, show ¬ k = i by omega, show i < k + 2 by omega]
    · by_cases h2 : i = k
      · subst h2; simp [show i < l.length by omega]
      · by_cases h3 : i = k + 1
        · subst h3; simp [hk, show ¬ k + 1 < k by omega]
        · simp [show ¬ k + 1 = i by omega, show ¬ k = i by omega, show ¬ i < k + 2 by omega, show k + 2 + (i - (k + 2)) = i by omega]
theorem okSw_facts {l : List Ac} {k : Int} (h : okSw l k = true) : ∃ n : Nat, k = n ∧ ∃ hn : n + 1 < l.length, goodPl l = true ∧ l[n].who ≠ l[n + 1].who ∧ clashA l[n] l[n + 1] = false := by
  simp only [okSw, Bool.and_eq_true, Bool.not_eq_true', decide_eq_true_eq, decide_eq_false_iff_not] at h
  obtain ⟨⟨⟨h1, h2⟩, h3⟩, h4⟩ := h
  obtain ⟨n, rfl⟩ : ∃ n : Nat, k = n := ⟨k.toNat, by omega⟩
  have hn : n + 1 < l.length := by omega
  rw [Int.toNat_natCast, getD_in hn, getD_in (by omega)] at h3 h4
  exact ⟨n, rfl, hn, h1, h3, h4⟩
theorem goodPl_perm {a b : List Ac} (h : a.Perm b) : goodPl a = goodPl b := by
  simp only [goodPl, h.length_eq, h.all_eq]
theorem swap_facts {l : List Ac} {k : Int} (h : okSw l k = true) : ∃ n : Nat, k = n ∧ Alike l (swapL l n) ∧ okSw (swapL l n) k = true ∧ swapL (swapL l n) n = l ∧ goodPl l = true ∧ goodPl (swapL l n) = true := by
  obtain ⟨n, rfl, hn, hg, hw, hc⟩ := okSw_facts h
  obtain ⟨e1, e2⟩ := swapL_parts hn
  have hA : Alike l (swapL l n) := by
    rw [e2]
    conv => lhs; rw [e1]
    exact (Alike.swap _ hw hc).append _
  have hg' : goodPl (swapL l n) = true := by rw [← goodPl_perm hA.perm]; exact hg
  have g0 : (swapL l n).getD n zAc = l[n + 1] := by
    rw [getD_in (by rw [swapL_len]; omega)]
    simp [swapL, hn]
  have g1 : (swapL l n).getD (n + 1) zAc = l[n] := by
    rw [getD_in (by rw [swapL_len]; omega)]
    simp [swapL, show n < l.length by omega]
  refine ⟨n, rfl, hA, ?_, ?_, hg, hg'⟩
  · rw [okSw, hg', Int.toNat_natCast, g0, g1, swapL_len, clashA_comm, hc, decide_eq_true (by omega), decide_eq_false (Ne.symm hw)]; rfl
  · rw [swapL, g0, g1]
    apply List.ext_getElem?
    intro i
    simp only [swapL, getD_in hn, getD_in (show n < l.length by omega), List.getElem?_set, List.length_set]
    by_cases h1 : n + 1 = i
    · subst h1; simp [hn]
    · by_cases h2 : n = i
      · subst h2; simp [show n < l.length by omega]
      · simp [h1, h2]
end GL

namespace GL

/-! two lists that tell who read what are told alike or not at once -/
theorem map_iff {A B : Nat → Ac} {F G : Nat → Int} {F' G' : Nat → Og} : ∀ (P Q : List Nat), P.map A = Q.map B → (∀ i ∈ P, ∀ j ∈ Q, A i = B j → (A i).wr = true → F i = G j) → (∀ i ∈ P, ∀ j ∈ Q, A i = B j → (A i).wr = false → (F i = G j ↔ F' i = G' j)) →
    (P.map F = Q.map G ↔ (P.filter fun i => !(A i).wr).map F' = (Q.filter fun j => !(B j).wr).map G')
  | [], [], _, _, _ => by simp
  | [], j :: Q, h, _, _ => by simp at h
  | i :: P, [], h, _, _ => by simp at h
  | i :: P, j :: Q, h, h1, h2 => by
    simp only [List.map_cons, List.cons.injEq] at h
    have ih := map_iff (F := F) (G := G) (F' := F') (G' := G') P Q h.2 (fun a ha b hb => h1 a (by simp [ha]) b (by simp [hb])) (fun a ha b hb => h2 a (by simp [ha]) b (by simp [hb]))
    have k1 := h1 i (by simp) j (by simp) h.1
    have k2 := h2 i (by simp) j (by simp) h.1
    rw [List.map_cons, List.map_cons, List.cons.injEq, ih]
    cases hw : (A i).wr with
    | true =>
      have hb : (B j).wr = true := by rw [← h.1]; exact hw
      simp [hw, hb, k1 hw]
    | false =>
      have hb : (B j).wr = false := by rw [← h.1]; exact hw
      simp [hw, hb, k2 hw]
def posL (l : List Ac) (w : Int) : List Nat := (List.range l.length).filter fun i => decide ((l.getD i zAc).who = w)
theorem posL_ofWho (l : List Ac) (w : Int) : (posL l w).map (fun i => l.getD i zAc) = ofWho l w := by
  have e : (List.range l.length).map (fun i => l.getD i zAc) = l := by
    apply List.ext_getElem
    · simp
    · intro i h1 h2; simp at h1; simp [h1]
  have e2 : ofWho l w = ((List.range l.length).map (fun i => l.getD i zAc)).filter fun a => decide (a.who = w) := by rw [e]; rfl
  rw [e2, List.filter_map, posL]; rfl
theorem segL_pos (l : List Ac) (w : Int) : segL l w l.length = (posL l w).map fun i => nameAt l (readAt l i) := rfl
theorem orgsL_pos (l : List Ac) (w : Int) : orgsL l w l.length = ((posL l w).filter fun i => !(l.getD i zAc).wr).map fun i => orgAt l (readAt l i) := by
  rw [orgsL, posL, List.filter_filter]
  congr 1
  apply List.filter_congr
  intro i _
  rw [isRd, Bool.and_comm]
/-! names and origins of writes tell the same -/
theorem filter_take {l : List Ac} {n : Nat} (w : Int) : ofWho (l.take n) w = (ofWho l w).take (ofWho (l.take n) w).length := by
  conv => rhs; rw [show l = l.take n ++ l.drop n by simp]
  simp only [ofWho, List.filter_append]
  rw [List.take_left' (by simp)]
theorem ofWho_at {l : List Ac} {n : Nat} (hn : n < l.length) : ∃ h : (ofWho (l.take n) l[n].who).length < (ofWho l l[n].who).length, (ofWho l l[n].who)[(ofWho (l.take n) l[n].who).length] = l[n] := by
  have e : ofWho l l[n].who = ofWho (l.take n) l[n].who ++ l[n] :: ofWho (l.drop (n + 1)) l[n].who := by
    have e0 : l = l.take n ++ l[n] :: l.drop (n + 1) := by rw [← List.drop_eq_getElem_cons hn]; simp
    generalize l[n] = z at *
    conv => lhs; rw [e0]
    simp [ofWho]
  have h : (ofWho (l.take n) l[n].who).length < (ofWho l l[n].who).length := by rw [e]; simp
  refine ⟨h, ?_⟩
  have := List.getElem_of_eq e h
  rw [this, List.getElem_append_right (Nat.le_refl _)]
  simp
theorem cnt_ofWho (l : List Ac) (a : Ac) : cntA l a = cntA (ofWho l a.who) a := by
  simp only [cntA, ofWho, List.filter_filter]
  congr 1
  apply List.filter_congr
  intro b _
  by_cases h : b = a
  · subst h; simp
  · simp [h]
theorem cnt_lt {L : List Ac} {m n : Nat} (hmn : m < n) (hm : m < L.length) : cntA (L.take m) L[m] < cntA (L.take n) L[m] := by
  have e : L.take n = L.take m ++ L[m] :: (L.take n).drop (m + 1) := by
    have h1 : m < (L.take n).length := by rw [List.length_take]; omega
    have h2 : (L.take n)[m] = L[m] := List.getElem_take
    rw [← h2, ← List.drop_eq_getElem_cons h1]
    conv => lhs; rw [← List.take_append_drop m (L.take n)]
    rw [List.take_take, Nat.min_eq_left (by omega)]
  rw [e]
  simp only [cntA, List.filter_append, List.length_append, List.filter_cons, decide_true, if_true, List.length_cons]
  omega
theorem name_iff {a b : List Ac} (hof : ∀ w : Int, 0 ≤ w ∧ w ≤ 3 → ofWho a w = ofWho b w) (ha : goodPl a = true) (hb : goodPl b = true) (x : Int) (m n : Nat) :
    nameAt a (lastW (a.take m) x) = nameAt b (lastW (b.take n) x) ↔ orgAt a (lastW (a.take m) x) = orgAt b (lastW (b.take n) x) := by
  have key : ∀ {l : List Ac}, goodPl l = true → ∀ m : Nat, (lastW (l.take m) x = -1) ∨ ∃ k, ∃ hk : k < l.length, lastW (l.take m) x = k ∧ l[k].wr = true ∧ l[k].item = x ∧ 0 ≤ l[k].who ∧ l[k].who ≤ 3 := by
    intro l hl m
    rcases lastW_cases (l.take m) x with ⟨h, _⟩ | ⟨k, hk, h1, h2, _⟩
    · exact .inl h
    · have hk' : k < l.length := by rw [List.length_take] at hk; omega
      rw [List.getElem_take] at h2
      have hok : okAc l[k] = true := by
        simp only [goodPl, Bool.and_eq_true, List.all_eq_true] at hl
        exact hl.2 _ (List.getElem_mem hk')
      simp only [okAc, Bool.and_eq_true, decide_eq_true_eq] at hok
      simp only [wrQ, Bool.and_eq_true, decide_eq_true_eq] at h2
      exact .inr ⟨k, hk', h1, h2.1, h2.2, hok.1.1, hok.1.2⟩
  have hla := goodPl_len ha
  have hlb := goodPl_len hb
  rcases key ha m with h1 | ⟨i, hi, h1, wi, ii, pi⟩ <;> rcases key hb n with h2 | ⟨j, hj, h2, wj, ij, pj⟩ <;> rw [h1, h2]
  · simp [nameAt, orgAt]
  · simp only [nameAt, orgAt, Int.toNat_natCast, getD_in hj, if_neg (show ¬ (j : Int) < 0 by omega), if_pos (show (-1 : Int) < 0 by decide), Og.mk.injEq]
    constructor
    · intro h; omega
    · intro h; omega
  · simp only [nameAt, orgAt, Int.toNat_natCast, getD_in hi, if_neg (show ¬ (i : Int) < 0 by omega), if_pos (show (-1 : Int) < 0 by decide), Og.mk.injEq]
    constructor
    · intro h; omega
    · intro h; omega
  · simp only [nameAt, orgAt, Int.toNat_natCast, getD_in hi, getD_in hj, if_neg (show ¬ (j : Int) < 0 by omega), if_neg (show ¬ (i : Int) < 0 by omega), Og.mk.injEq]
    have li : (ofWho (a.take i) a[i].who).length ≤ 16 := by
      have := List.length_filter_le (fun q : Ac => decide (q.who = a[i].who)) (a.take i)
      rw [List.length_take] at this; unfold ofWho; omega
    have lj : (ofWho (b.take j) b[j].who).length ≤ 16 := by
      have := List.length_filter_le (fun q : Ac => decide (q.who = b[j].who)) (b.take j)
      rw [List.length_take] at this; unfold ofWho; omega
    obtain ⟨o1, o2⟩ := ofWho_at hi
    obtain ⟨q1, q2⟩ := ofWho_at hj
    have c1 := filter_take (l := a) (n := i) a[i].who
    have c2 := filter_take (l := b) (n := j) b[j].who
    have d1 := cnt_ofWho (a.take i) a[i]
    have d2 := cnt_ofWho (b.take j) b[j]
    have r1 : ((a.take i).filter fun q => decide (q = a[i])).length = cntA (a.take i) a[i] := rfl
    have r2 : ((b.take j).filter fun q => decide (q = b[j])).length = cntA (b.take j) b[j] := rfl
    rw [r1, r2]
    have hwho : a[i].who = b[j].who → a[i] = b[j] := fun h => by
      have e : ∀ y z : Ac, y.who = z.who → y.item = z.item → y.wr = z.wr → y = z := fun ⟨_, _, _⟩ ⟨_, _, _⟩ h1 h2 h3 => by simp at h1 h2 h3; simp [h1, h2, h3]
      exact e _ _ h (ii.trans ij.symm) (wi.trans wj.symm)
    have hL := hof a[i].who pi
    generalize hna : (ofWho (a.take i) a[i].who).length = na at *
    generalize hnb : (ofWho (b.take j) b[j].who).length = nb at *
    generalize a[i] = y at *
    generalize b[j] = z at *
    constructor
    · intro h
      have hw : y.who = z.who := by omega
      have hn : na = nb := by omega
      have hyz := hwho hw
      subst hyz
      subst hn
      refine ⟨rfl, ?_⟩
      rw [d1, d2, c1, c2, hL]
    · intro ⟨hw, hn⟩
      have hyz := hwho hw
      subst hyz
      rw [d1, d2, c1, c2] at hn
      have hn' : cntA ((ofWho b y.who).take na) y = cntA ((ofWho b y.who).take nb) y := by rw [← hL] at hn ⊢; exact Int.ofNat.inj hn
      have hna' : na < (ofWho b y.who).length := by rw [← hL]; exact o1
      have ea : (ofWho b y.who)[na] = y := (List.getElem_of_eq hL.symm _).trans o2
      have hEq : na = nb := by
        rcases Nat.lt_trichotomy na nb with h | h | h
        · have := cnt_lt h hna'; rw [ea] at this; omega
        · exact h
        · have := cnt_lt h q1; rw [q2] at this; omega
      subst hEq; rfl
theorem app_inj {a b c d : List Int} (h : a.length = c.length) : a ++ b = c ++ d ↔ a = c ∧ b = d := ⟨fun e => List.append_inj e h, fun ⟨e, f⟩ => by rw [e, f]⟩
theorem segs_iff {a b : List Ac} (n : Nat) (h : ∀ w : Nat, w < n → (segL a w a.length).length = (segL b w b.length).length) : segsL a n = segsL b n ↔ ∀ w : Nat, w < n → segL a w a.length = segL b w b.length := by
  induction n with
  | zero => simp [segsL]
  | succ n ih =>
    have hl : ∀ (k : Nat), k ≤ n → (segsL a k).length = (segsL b k).length := by
      intro k
      induction k with
      | zero => intro _; rfl
      | succ k ihk => intro hk; rw [segsL_succ, segsL_succ, List.length_append, List.length_append, ihk (by omega), h k (by omega)]
    rw [segsL_succ, segsL_succ, app_inj (hl n (Nat.le_refl _)), ih fun w hw => h w (by omega)]
    constructor
    · intro ⟨h1, h2⟩ w hw
      rcases Nat.lt_succ_iff_lt_or_eq.1 hw with h | h
      · exact h1 w h
      · subst h; exact h2
    · intro h1; exact ⟨fun w hw => h1 w (by omega), h1 n (by omega)⟩
theorem lasts_iff (n : Nat) (f g : Nat → Int) : (List.range n).map f = (List.range n).map g ↔ ∀ k, k < n → f k = g k := by
  simp [List.map_inj_left]
theorem same_effect {a b : List Ac} (ha : goodPl a = true) (hb : goodPl b = true) : sameEff a b = sameS a b := by
  rw [Bool.eq_iff_iff]
  simp only [sameEff, sameS, sameW, sameK, sameO, Bool.and_eq_true, List.all_eq_true, decide_eq_true_eq, List.mem_range]
  by_cases hof : ∀ w : Nat, w < 4 → ofWho a w = ofWho b w
  · have hof' : ∀ w : Int, 0 ≤ w ∧ w ≤ 3 → ofWho a w = ofWho b w := fun w hw => by
      have := hof w.toNat (by omega)
      rwa [Int.toNat_of_nonneg hw.1] at this
    have hseg : ∀ w : Nat, w < 4 → (segL a w a.length = segL b w b.length ↔ orgsL a w a.length = orgsL b w b.length) := fun w hw => by
      rw [segL_pos, segL_pos, orgsL_pos, orgsL_pos]
      refine map_iff _ _ (by rw [posL_ofWho, posL_ofWho]; exact hof w hw) (fun i hi j hj e hwr => ?_) (fun i hi j hj e hwr => ?_)
      · have hwr' := hwr; rw [e] at hwr'
        rw [readAt, readAt, if_pos hwr, if_pos hwr']; rfl
      · have hwr' := hwr; rw [e] at hwr'
        rw [readAt, readAt, if_neg (by rw [hwr]; simp), if_neg (by rw [hwr']; simp), ← e]
        exact name_iff hof' ha hb _ _ _
    have hlen : ∀ w : Nat, w < 4 → (segL a w a.length).length = (segL b w b.length).length := fun w hw => by
      rw [segL_pos, segL_pos, List.length_map, List.length_map]
      have := congrArg List.length (hof w hw)
      rw [← posL_ofWho, ← posL_ofWho, List.length_map, List.length_map] at this
      exact this
    have hsl : (segsL a 4).length = (segsL b 4).length := by
      simp only [segsL_succ, List.length_append, hlen 0 (by decide), hlen 1 (by decide), hlen 2 (by decide), hlen 3 (by decide)]
      rfl
    have hlast : (lastsL a).map (nameAt a) = (lastsL b).map (nameAt b) ↔ ∀ k : Nat, k < 4 → orgAt a (lastW a k) = orgAt b (lastW b k) := by
      rw [lastsL, lastsL, List.map_map, List.map_map, lasts_iff]
      refine forall_congr' fun k => forall_congr' fun _ => ?_
      have := name_iff hof' ha hb (k : Int) a.length b.length
      rw [List.take_length, List.take_length] at this
      exact this
    rw [effL, effL, app_inj hsl, segs_iff 4 hlen, hlast]
    constructor
    · intro ⟨h1, h2⟩
      exact ⟨hof, fun w hw => (hseg w hw).2 (h1 w hw).2, h2⟩
    · intro ⟨_, h1, h2⟩
      exact ⟨fun w hw => ⟨hof w hw, (hseg w hw).1 (h1 w hw)⟩, h2⟩
  · constructor
    · intro ⟨h, _⟩; exact absurd (fun w hw => (h w hw).1) hof
    · intro ⟨h, _⟩; exact absurd h hof
end GL

namespace GL

/-! clashes, counted in any order -/
def pairsL : List Ac → List Nat
  | [] => []
  | a :: r => (r.filter (clashA a)).map (idxC a) ++ pairsL r
theorem bump_comm (cs : List Int) (x y : Nat) : bump (bump cs x) y = bump (bump cs y) x := by
  by_cases h : x = y
  · subst h; rfl
  · apply List.ext_getElem?
    intro i
    simp only [bump, List.getElem?_set, List.length_set, List.getD_eq_getElem?_getD, if_neg h, if_neg (Ne.symm h)]
    by_cases h1 : x = i
    · by_cases h2 : y = i
      · exact absurd (h1.trans h2.symm) h
      · simp [h1, h2]
    · by_cases h2 : y = i <;> simp [h1, h2]
theorem confIn_pairs (a : Ac) (ys : List Ac) (cs : List Int) : confIn a ys cs = ((ys.filter (clashA a)).map (idxC a)).foldl bump cs := by
  induction ys generalizing cs with
  | nil => rfl
  | cons y ys ih =>
    have e : confIn a (y :: ys) cs = confIn a ys (if clashA a y = true then bump cs (idxC a y) else cs) := rfl
    rw [e, ih]
    cases h : clashA a y <;> simp [h]
theorem confF_pairs (l : List Ac) (cs : List Int) : confF l cs = (pairsL l).foldl bump cs := by
  induction l generalizing cs with
  | nil => rfl
  | cons a r ih => rw [confF, ih, confIn_pairs, pairsL, List.foldl_append]
theorem bump_perm {x y : List Nat} (h : x.Perm y) (cs : List Int) : x.foldl bump cs = y.foldl bump cs := by
  induction h generalizing cs with
  | nil => rfl
  | cons a _ ih => simp only [List.foldl_cons]; exact ih _
  | swap a b l => simp only [List.foldl_cons]; rw [bump_comm]
  | trans _ _ ih1 ih2 => rw [ih1, ih2]
theorem pairs_swap (r : List Ac) {x y : Ac} (q : List Ac) (hc : clashA x y = false) : (pairsL (r ++ [x, y] ++ q)).Perm (pairsL (r ++ [y, x] ++ q)) := by
  induction r with
  | nil =>
    simp only [List.nil_append, List.cons_append, pairsL, List.filter_cons, hc, clashA_comm y x, Bool.false_eq_true, if_false, ← List.append_assoc]
    exact List.Perm.append_right _ List.perm_append_comm
  | cons a r ih =>
    simp only [List.cons_append, pairsL]
    refine List.Perm.append (List.Perm.map _ (List.Perm.filter _ ?_)) ih
    exact ((List.Perm.swap y x []).append_left r).append_right q
theorem confL_swap {l : List Ac} {k : Int} (h : okSw l k = true) : confL (swapL l k.toNat) = confL l := by
  obtain ⟨n, rfl, hn, hg, hw, hc⟩ := okSw_facts h
  obtain ⟨e1, e2⟩ := swapL_parts hn
  rw [Int.toNat_natCast, confL, confL, confF_pairs, confF_pairs, e2]
  conv => rhs; rw [e1]
  exact (bump_perm (pairs_swap _ _ hc) _).symm
end GL

namespace GL
open Go

theorem l7Conflicts_ok {h : Heap} {v : V} {xs : List Ac} {F : List Nat} (hs : SdF h v xs F) (hg : goodPl xs = true) : ∃ r h', call p 361 [v] h = some (r, h') ∧ Sl h' r (confL xs) ∧ Keeps h h' ∧ h.length ≤ h'.length := by
  have hl := goodPl_len hg
  have hok : ∀ a ∈ xs, (0 ≤ a.who ∧ a.who ≤ 3) := fun a ha => by
    simp only [goodPl, Bool.and_eq_true, List.all_eq_true] at hg
    have := hg.2 a ha
    simp only [okAc, Bool.and_eq_true, decide_eq_true_eq] at this
    exact this.1
  have k0 : Keeps h (h ++ [⟨.own, List.replicate 16 (vi 0)⟩]) := Keeps.append _ _
  have s0 := intsNew (h := h)
  have ob : OwnB (h ++ [⟨.own, List.replicate 16 (vi 0)⟩]) h.length := ⟨_, get_last _ _⟩
  have hFlt : ∀ b ∈ F, b ≠ h.length := fun b hb => by have := hs.ltF hb; omega
  have rm : ((16 : Int) * 8 ≤ room) ∧ ((16 : Int) ≤ room) := by unfold room; omega
  refine go (fn := g361) rfl rfl fun R hR => ?_
  have hrep : (List.replicate 16 [vi 0]).flatten = List.replicate 16 (vi 0) := rfl
  obtain ⟨c0, hc0⟩ : ∃ c0, c0 = List.replicate 16 (vi 0) := ⟨_, rfl⟩
  rw [← hc0] at k0 s0 ob hrep
  simp only [g361]
  have key : ∀ (s0 : S), s0.h = h ++ [⟨.own, c0⟩] → s0.σ 3 = .v (.slice h.length 0 16 (.k 16)) → s0.σ 0 = .v v → s0.σ 9 = .v v → s0.σ 10 = .v (vi xs.length) → s0.σ 11 = .v (vi 0) → ∀ K : Ex → S → Prop, (∀ s, s.σ 3 = .v (.slice h.length 0 16 (.k 16)) → SdF s.h (.slice h.length 0 16 (.k 16)) (confL xs) [h.length] → KeepsP (fun b => b ≠ h.length) (h ++ [⟨.own, c0⟩]) s.h → s.h.length = h.length + 1 → K (.exit 0) s) → Wc p (.loop g361_1) s0 K := by
    intro s0' gh g3 g0 g9 g10 g11 K hK
    refine Wc_upM (M := [4, 5, 7, 11, 12, 13, 14, 15, 16, 17, 18, 19, 20, 21, 22, 23, 24, 25, 26, 27, 28, 29, 30, 31, 32, 33, 34, 35, 36, 37, 38, 39, 40]) rfl xs.length (fun i s => i ≤ xs.length ∧ s.σ 11 = .v (vi i) ∧ KeepsP (fun b => b ≠ h.length) (h ++ [⟨.own, c0⟩]) s.h ∧ s.h.length = h.length + 1 ∧ OwnB s.h h.length ∧ ∃ cs : List Int, cs.length = 16 ∧ (∀ c ∈ cs, 0 ≤ c ∧ c ≤ 16 * i) ∧ SdF s.h (.slice h.length 0 16 (.k 16)) cs [h.length] ∧ confF (xs.drop i) cs = confL xs) 0
      ⟨by omega, g11, by rw [gh]; exact KeepsP.refl _ _, by rw [gh]; simp, by rw [gh]; exact ob, List.replicate 16 0, by simp, by intro c hc; simp at hc; omega, by rw [gh]; exact s0, rfl⟩ fun i s ⟨gi, g11, hk, hlen, hob, cs, hcl, hcb, sc, hcf⟩ hM J hJ => ?_
    by_cases hi : i < xs.length
    · have hss : SdF s.h v xs F := (hs.keep k0).keeps (hk.mono hFlt)
      have ix := hss.idx 3 .i64 i hi
      have ld := hss.sl.loadC i hi
      have st : IntKind.i64.wrap ((i : Int) + 1) = (i + 1 : Nat) := by rw [IntWalk.i64_in] <;> omega
      obtain ⟨u, G, eu, su, hGF, _⟩ := hss.sub (lo := some (i + 1)) (hi := none) (i := i + 1) (j := xs.length) rfl rfl (by omega) (Nat.le_refl _) (k := 3) rfl
      rw [List.take_length] at su
      have sul := su.len
      rw [List.drop_eq_getElem_cons hi, confF] at hcf
      have hwi := hok _ (List.getElem_mem hi)
      generalize xs[i] = a at *
      have hyl : (xs.drop (i + 1)).length = xs.length - (i + 1) := by rw [List.length_drop]
      have hyok : ∀ b ∈ xs.drop (i + 1), 0 ≤ b.who ∧ b.who ≤ 3 := fun b hb => hok b (List.mem_of_mem_drop hb)
      generalize hys : xs.drop (i + 1) = ys at *
      simp [g361_1, hM, g11, g9, g10, g0, hi, ix, ld, upd, st, bounds, takeB, eu, sul, -Int.natCast_add]
      refine Wc_upM (M := [7, 21, 22, 23, 24, 25, 26, 27, 28, 29, 30, 31, 32, 33, 34, 35, 36, 37, 38, 39]) rfl ys.length (fun j t => j ≤ ys.length ∧ t.σ 21 = .v (vi j) ∧ KeepsP (fun b => b ≠ h.length) s.h t.h ∧ t.h.length = h.length + 1 ∧ OwnB t.h h.length ∧ t.L 5 = ((s.L 5).1 + 1, [vi a.who, vi a.item, .bool a.wr]) ∧ ∃ ds : List Int, ds.length = 16 ∧ (∀ c ∈ ds, 0 ≤ c ∧ c ≤ 16 * i + j) ∧ SdF t.h (.slice h.length 0 16 (.k 16)) ds [h.length] ∧ confIn a (ys.drop j) ds = confIn a ys cs) 0
        ⟨by omega, by simp, KeepsP.refl _ _, hlen, hob, by simp [upd], cs, hcl, fun c hc => by have := hcb c hc; omega, sc, rfl⟩ fun j t ⟨gj, g21, hk2, hlen2, hob2, tL, ds, hdl, hdb, sd, hdf⟩ hM1 J1 hJ1 => ?_
      by_cases hj : j < ys.length
      · have hst : SdF t.h u ys G := su.keeps (hk2.mono fun b hb => hFlt b (hGF b hb))
        have ix2 := hst.idx 3 .i64 j hj
        have ld2 := hst.sl.loadC j hj
        have stj := hst.step hj
        have hb := hyok _ (List.getElem_mem hj)
        rw [List.drop_eq_getElem_cons hj] at hdf
        generalize ys[j] = b at *
        have ec := l7Clash_eq a b t.h
        have hdf2 : confIn a (ys.drop (j + 1)) (if clashA a b = true then bump ds (idxC a b) else ds) = confIn a ys cs := hdf
        cases hcl2 : clashA a b with
        | false =>
          rw [hcl2] at ec hdf2
          simp [g361_0, hM1, hM, g21, tL, hj, ix2, ld2, upd, ec, stj]
          exact hJ1 _ hj ⟨hj, by simp, hk2, hlen2, hob2, by simp [tL], ds, hdl, fun c hc => by have := hdb c hc; omega, sd, hdf2⟩
        | true =>
          rw [hcl2] at ec hdf2
          have hx : idxC a b < ds.length := by unfold idxC; omega
          have hxi : ((idxC a b : Nat) : Int) = 4 * a.who + b.who := by unfold idxC; omega
          have w1 : IntKind.i64.wrap (4 * a.who) = 4 * a.who := by rw [IntWalk.i64_in] <;> omega
          have w2 : IntKind.i64.wrap (4 * a.who + b.who) = (idxC a b : Nat) := by rw [IntWalk.i64_in] <;> omega
          have i3 : idxV 1 (.slice h.length 0 16 (.k 16)) (.int .i64 (idxC a b : Nat)) = some (.ptr h.length (idxC a b)) := by
            have := sd.idx 1 .i64 (idxC a b) hx; simpa [bOf, oOf] using this
          have l3 : rdH t.h h.length (idxC a b) 1 = some [vi ds[idxC a b]] := by
            have := sd.sl.loadI (idxC a b) hx; simpa [bOf, oOf] using this
          obtain ⟨h5, e5, s5, k5, l5, o5⟩ := sd.putI (fun c hc => by simp at hc; subst hc; exact hob2) hx (ds[idxC a b] + 1)
          have e5' : wrH t.h h.length (idxC a b) [vi (ds[idxC a b] + 1)] = some h5 := by simpa [bOf, oOf] using e5
          have hv := hdb _ (List.getElem_mem hx)
          have w3 : IntKind.i64.wrap (ds[idxC a b] + 1) = ds[idxC a b] + 1 := by rw [IntWalk.i64_in] <;> omega
          have hbm : bump ds (idxC a b) = ds.set (idxC a b) (ds[idxC a b] + 1) := by rw [bump, getD_in hx]
          have hbl := bump_le (x := idxC a b) hdb (by omega)
          rw [if_pos rfl, hbm] at hdf2
          rw [hbm] at hbl
          generalize ds[idxC a b] = q at *
          generalize idxC a b = x at *
          simp [g361_0, hM1, hM, g3, g21, tL, hj, ix2, ld2, upd, ec, w1, w2, i3, l3, w3, e5', stj]
          exact hJ1 _ hj ⟨hj, by simp, hk2.trans k5, by show h5.length = h.length + 1; omega, o5 _ hob2, by simp [tL], _, by simpa using hdl, fun c hc => by have := hbl c hc; omega, s5, hdf2⟩
      · have hjy : j = ys.length := by omega
        subst hjy
        rw [List.drop_length] at hdf
        have hdf' : ds = confIn a ys cs := hdf
        simp [g361_0, hM1, hM, g21, g11, st, -Int.natCast_add]
        exact hJ _ hi ⟨hi, by simp, by exact hk.trans hk2, by exact hlen2, by exact hob2, ds, hdl, fun c hc => by have := hdb c hc; omega, by exact sd, by rw [hdf']; exact hcf⟩
    · have : i = xs.length := by omega
      subst this
      rw [List.drop_length, confF] at hcf
      subst hcf
      simp [g361_1, hM, g11, g10]
      exact hK _ (by simp [hM, g3]) sc hk hlen
  simp [rm, hs.len, hrep, room]
  refine key _ (by rw [hc0]; rfl) (by simp) (by simp) (by simp) (by simp) (by simp) _ fun s g3 sF hk hlen => ?_
  simp [g3]
  refine hR _ _ ⟨sF.sl, fun b blk hb hst => ?_, by omega⟩
  have := get_lt hb
  exact hk b blk (by omega) (k0 _ _ hb hst) hst
end GL

namespace GL
open Go

/-! an order in which nobody stands ahead of whom it is behind -/
def colQ (cs out : List Int) (k x : Nat) : Bool := decide ((x : Int) ∈ out) || decide (cs.getD (4 * x + k) 0 = 0)
def freeQ (cs out : List Int) (k : Nat) : Bool := !decide ((k : Int) ∈ out) && (List.range 4).all (colQ cs out k)
def noV (o : Option Nat) : Int := match o with
  | some k => k
  | none => -1
def nextQ (cs out : List Int) : Option Nat := (List.range 4).find? (freeQ cs out)
def serG (cs : List Int) : Nat → List Int → Option (List Int)
  | 0, out => some out
  | m + 1, out => match nextQ cs out with
    | none => none
    | some k => serG cs m (out ++ [(k : Int)])
def serL (cs : List Int) : Option (List Int) := serG cs 4 []
end GL

namespace GL
open Go

theorem serS_in {s0 : S} {v4 v5 : V} {cs out : List Int} (s4 : Sl s0.h v4 cs) (hc : cs.length = 16) (s5 : Sl s0.h v5 out) (who : Nat) (hw : who < 4) (b0 : Bool) (g0 : s0.σ 0 = .v v4) (g3 : s0.σ 3 = .v v5) (g5 : s0.σ 5 = .v (vi who)) (g6 : s0.σ 6 = .v (.bool b0)) (g7 : s0.σ 7 = .v (vi 0)) {K : Ex → S → Prop}
    (hK : ∀ s, s.h = s0.h → (∀ k, k ∉ [6, 7, 23, 24, 25, 26, 27, 28, 29, 30, 31, 32, 33, 34, 35, 36, 37, 38, 39, 40, 41, 42] → s.σ k = s0.σ k) → s.σ 6 = .v (.bool (b0 && (List.range 4).all (colQ cs out who))) → K (.exit 4) s) : Wc p (.loop g362_0) s0 K := by
  refine Wc_upM (M := [6, 7, 23, 24, 25, 26, 27, 28, 29, 30, 31, 32, 33, 34, 35, 36, 37, 38, 39, 40, 41, 42]) rfl 4 (fun j s => j ≤ 4 ∧ s.σ 7 = .v (vi j) ∧ s.h = s0.h ∧ s.σ 6 = .v (.bool (b0 && (List.range j).all (colQ cs out who)))) 0 ⟨by omega, by simpa using g7, rfl, by simpa using g6⟩ fun j s ⟨gj, g7, gh, g6⟩ hM J hJ => ?_
  by_cases hj : j < 4
  · have hj' : (j : Int) < 4 := by omega
    have hx : 4 * j + who < cs.length := by omega
    have ec := l1Has_eq s5 (j : Int)
    have ix := s4.idx 1 .i64 _ hx
    have ld := s4.loadI _ hx
    simp only [Nat.mul_one] at ix
    have w1 : IntKind.i64.wrap (4 * (j : Int)) = (4 * j : Nat) := by rw [IntWalk.i64_in] <;> omega
    have w2 : IntKind.i64.wrap (((4 * j : Nat) : Int) + who) = (4 * j + who : Nat) := by rw [IntWalk.i64_in] <;> omega
    have w3 : IntKind.i64.wrap ((j : Int) + 1) = (j + 1 : Nat) := by rw [IntWalk.i64_in] <;> omega
    have hS := range_all_succ j (colQ cs out who)
    have hq : colQ cs out who j = (decide ((j : Int) ∈ out) || decide (cs[4 * j + who] = 0)) := by rw [colQ, getD_in hx]
    generalize (List.range j).all (colQ cs out who) = b at *
    generalize colQ cs out who j = c at *
    generalize cs[4 * j + who] = z at *
    cases hb : (b0 && b) with
    | false =>
      rw [hb] at g6
      simp [g362_0, hM, g7, g6, hj, hj', w3, -Int.natCast_add]
      exact hJ _ hj ⟨hj, by simp, gh, by rw [hS, ← Bool.and_assoc, hb]; simp⟩
    | true =>
      rw [hb] at g6
      cases hm : decide ((j : Int) ∈ out) with
      | true =>
        rw [hm] at ec hq
        simp [g362_0, hM, g7, g6, g3, gh, ec, hj, hj', w3, -Int.natCast_add]
        exact hJ _ hj ⟨hj, by simp, rfl, by rw [hS, ← Bool.and_assoc, hb, hq]; simp⟩
      | false =>
        rw [hm] at ec hq
        by_cases hz : z = 0
        · simp [g362_0, hM, g7, g6, g5, g3, g0, gh, ec, hj, hj', w1, w2, w3, ix, ld, hz, -Int.natCast_add, -Int.natCast_mul]
          exact hJ _ hj ⟨hj, by simp, rfl, by rw [hS, ← Bool.and_assoc, hb, hq]; simp [hz]⟩
        · simp [g362_0, hM, g7, g6, g5, g3, g0, gh, ec, hj, hj', w1, w2, w3, ix, ld, hz, -Int.natCast_add, -Int.natCast_mul]
          exact hJ _ hj ⟨hj, by simp, rfl, by rw [hS, ← Bool.and_assoc, hb, hq]; simp [hz]⟩
  · have : j = 4 := by omega
    subst this
    simp [g362_0, hM, g7]
    exact hK _ (by simpa using gh) (fun k hk => by have hk' := hk; simp only [List.mem_cons, not_or] at hk'; simp [hk', hM k hk]) g6
theorem serS_mid {s0 : S} {v4 v5 : V} {cs out : List Int} (s4 : Sl s0.h v4 cs) (hc : cs.length = 16) (s5 : Sl s0.h v5 out) (g0 : s0.σ 0 = .v v4) (g3 : s0.σ 3 = .v v5) (g4 : s0.σ 4 = .v (vi (-1))) (g5 : s0.σ 5 = .v (vi 0)) {K : Ex → S → Prop}
    (hK : ∀ s, s.h = s0.h → (∀ k, k ∉ [4, 5, 6, 7, 11, 12, 13, 14, 15, 16, 17, 18, 19, 20, 21, 22, 23, 24, 25, 26, 27, 28, 29, 30, 31, 32, 33, 34, 35, 36, 37, 38, 39, 40, 41, 42, 43, 44] → s.σ k = s0.σ k) → s.σ 4 = .v (vi (noV (nextQ cs out))) → K (.exit 2) s) : Wc p (.loop g362_1) s0 K := by
  refine Wc_upM (M := [4, 5, 6, 7, 11, 12, 13, 14, 15, 16, 17, 18, 19, 20, 21, 22, 23, 24, 25, 26, 27, 28, 29, 30, 31, 32, 33, 34, 35, 36, 37, 38, 39, 40, 41, 42, 43, 44]) rfl 4 (fun m s => m ≤ 4 ∧ s.σ 5 = .v (vi m) ∧ s.h = s0.h ∧ s.σ 4 = .v (vi (noV ((List.range m).find? (freeQ cs out))))) 0
    ⟨by omega, by simpa using g5, rfl, g4⟩ fun m s ⟨hk, g5, gh, g4⟩ hM J hJ => ?_
  by_cases hm : m < 4
  · have hm0 : (m : Int) < 4 := by omega
    have ec := l1Has_eq s5 (m : Int)
    have w3 : IntKind.i64.wrap ((m : Int) + 1) = (m + 1 : Nat) := by rw [IntWalk.i64_in] <;> omega
    have hf : (List.range (m + 1)).find? (freeQ cs out) = ((List.range m).find? (freeQ cs out)).or (if freeQ cs out m = true then some m else none) := by
      rw [List.range_succ, List.find?_append]; simp [List.find?_cons]; cases freeQ cs out m <;> rfl
    have hfq : freeQ cs out m = (!decide ((m : Int) ∈ out) && (List.range 4).all (colQ cs out m)) := rfl
    generalize (List.range m).find? (freeQ cs out) = o at *
    have key : ∀ (b0 : Bool) (s1 : S), b0 = (decide (o = none) && !decide ((m : Int) ∈ out)) → s1.h = s0.h → s1.σ 0 = .v v4 → s1.σ 3 = .v v5 → s1.σ 4 = .v (vi (noV o)) → s1.σ 5 = .v (vi m) → s1.σ 6 = .v (.bool b0) → s1.σ 7 = .v (vi 0) → ∀ K : Ex → S → Prop, (∀ t, t.h = s0.h → t.σ 4 = .v (vi (noV o)) → t.σ 5 = .v (vi m) → t.σ 6 = .v (.bool (decide (o = none) && freeQ cs out m)) → K (.exit 4) t) → Wc p (.loop g362_0) s1 K := by
      intro b0 s1 hb0 q0 q1 q2 q3 q4 q5 q6 K hK
      refine serS_in (v4 := v4) (v5 := v5) (cs := cs) (out := out) (by rw [q0]; exact s4) hc (by rw [q0]; exact s5) m hm b0 q1 q2 q4 q5 q6 fun t ht hMt t6 => ?_
      refine hK t (ht.trans q0) (by rw [hMt 4 (by decide)]; exact q3) (by rw [hMt 5 (by decide)]; exact q4) ?_
      rw [t6, hb0, hfq, Bool.and_assoc]
    have fin : ∀ (t : S), t.h = s0.h → ∀ z, z = noV (o.or (if freeQ cs out m = true then some m else none)) → t.σ 4 = .v (vi z) → t.σ 5 = .v (vi (m + 1 : Nat)) → J t := fun t ht z hz t4 t5 =>
      hJ _ hm ⟨by omega, t5, ht, by rw [hf, ← hz]; exact t4⟩
    cases o with
    | none =>
      have g4' : s.σ 4 = .v (vi (-1)) := g4
      simp [g362_1, hM, g4', g5, gh, g3, hm, hm0, ec]
      refine key (!decide ((m : Int) ∈ out)) _ (by simp) (by simp [gh]) (by simp [hM, g0]) (by simp [hM, g3]) (by simp [g4', noV]) (by simp [g5]) (by simp) (by simp) _ fun t ht t4 t5 t6 => ?_
      cases hfr : freeQ cs out m with
      | false =>
        rw [hfr] at t6
        simp at t6
        simp [t4, t5, t6, w3, -Int.natCast_add]
        exact fin _ (by simpa using ht) (-1) (by rw [hfr]; rfl) (by simp [t4, noV]) (by simp)
      | true =>
        rw [hfr] at t6
        simp at t6
        simp [t4, t5, t6, w3, -Int.natCast_add]
        exact fin _ (by simpa using ht) (m : Int) (by rw [hfr]; rfl) (by simp) (by simp)
    | some q =>
      have g4' : s.σ 4 = .v (vi q) := g4
      have hq0 : ¬ (q : Int) < 0 := by omega
      simp [g362_1, hM, g4', g5, gh, g3, hm, hm0, ec, hq0]
      refine key false _ (by simp) (by simp [gh]) (by simp [hM, g0]) (by simp [hM, g3]) (by simp [g4', noV]) (by simp [g5]) (by simp) (by simp) _ fun t ht t4 t5 t6 => ?_
      simp at t6
      simp [t4, t5, t6, w3, -Int.natCast_add]
      exact fin _ (by simpa using ht) (q : Int) rfl (by simp [t4, noV]) (by simp)
  · have : m = 4 := by omega
    subst this
    simp [g362_1, hM, g5]
    exact hK _ (by simpa using gh) (fun k hk => by have hk' := hk; simp only [List.mem_cons, not_or] at hk'; simp [hk', hM k hk]) (by simpa [nextQ] using g4)
theorem l7Serial_ok {h : Heap} {v : V} {cs : List Int} (s1 : Sl h v cs) (hcl : cs.length = 16) : ∃ r h', call p 362 [v] h = some (r, h') ∧ Out h.length h' r ((serL cs).getD []) ∧ Keeps h h' ∧ h.length ≤ h'.length := by
  refine go (fn := g362) rfl rfl fun R hR => ?_
  simp [g362]
  refine Wc_upM (M := [2, 3, 4, 5, 6, 7, 8, 9, 10, 11, 12, 13, 14, 15, 16, 17, 18, 19, 20, 21, 22, 23, 24, 25, 26, 27, 28, 29, 30, 31, 32, 33, 34, 35, 36, 37, 38, 39, 40, 41, 42, 43, 44, 45, 46, 47, 48, 49, 50]) rfl 4 (fun i s => i ≤ 4 ∧ Keeps h s.h ∧ h.length ≤ s.h.length ∧ ∃ v5 out, s.σ 3 = .v v5 ∧ Out h.length s.h v5 out ∧ out.length = i ∧ serG cs (4 - i) out = serL cs) 0
    ⟨by omega, Keeps.refl _, Nat.le_refl _, .nils, [], by simp, Out.nil (Nat.le_refl _), rfl, rfl⟩ fun i s ⟨gi, hk, hl, v5, out, g3, ho, hol, hser⟩ hM J hJ => ?_
  by_cases hi : i < 4
  · have hi' : (i : Int) < 4 := by omega
    have hol' := ho.sl.len
    rw [hol] at hol'
    simp [g362_2, hM, g3, hol', hi, hi']
    refine serS_mid (v4 := v) (v5 := v5) (cs := cs) (out := out) (by simpa using s1.keeps hk) hcl (by simpa using ho.sl) (by simp [hM]) (by simp [g3]) (by simp) (by simp) fun t ht hMt t4 => ?_
    have t3 : t.σ 3 = .v v5 := by rw [hMt 3 (by decide)]; simp [g3]
    simp only at ht
    have ho' : Out h.length t.h v5 out := by rw [ht]; exact ho
    have hk' : Keeps h t.h := by rw [ht]; exact hk
    have hl' : h.length ≤ t.h.length := by rw [ht]; exact hl
    obtain ⟨m, hm⟩ : ∃ m, 4 - i = m + 1 := ⟨3 - i, by omega⟩
    rw [hm, serG] at hser
    cases hn : nextQ cs out with
    | none =>
      rw [hn] at t4 hser
      have hser' : serL cs = none := hser.symm
      simp [t4, noV]
      exact hR _ _ ⟨by rw [hser']; exact Out.nil (by omega), hk', by omega⟩
    | some q =>
      rw [hn] at t4 hser
      have t4' : t.σ 4 = .v (vi q) := t4
      have hq0 : ¬ (q : Int) < 0 := by omega
      obtain ⟨v6, h2, e2, o2, k2, l2⟩ := ho'.one (q : Int) (by omega)
      simp [t4', hq0, t3, rdS_last, e2]
      exact hJ _ hi ⟨hi, ho'.far hk' k2 (Nat.le_refl _), by show h.length ≤ h2.length; omega, v6, _, by simp, o2, by simp [hol], by rw [show 4 - (i + 1) = m by omega]; exact hser⟩
  · have : i = 4 := by omega
    subst this
    have hser' : serL cs = some out := hser.symm
    have hol' := ho.sl.len
    rw [hol] at hol'
    simp [g362_2, hM, g3, hol']
    exact hR _ _ ⟨by rw [hser']; exact ho, hk, by omega⟩
end GL

namespace GL
open Go

theorem confL_len (l : List Ac) : (confL l).length = 16 := by
  have key : ∀ (ps : List Nat) (cs : List Int), (ps.foldl bump cs).length = cs.length := by
    intro ps
    induction ps with
    | nil => intro cs; rfl
    | cons x ps ih => intro cs; rw [List.foldl_cons, ih]; simp [bump]
  rw [confL, confF_pairs, key]; rfl
theorem serG_len {cs : List Int} : ∀ (n : Nat) (out r : List Int), serG cs n out = some r → r.length = out.length + n
  | 0, out, r, h => by cases h; rfl
  | n + 1, out, r, h => by
    rw [serG] at h
    split at h
    · cases h
    · have := serG_len n _ r h
      simp at this; omega
def sOf (l : List Ac) : Option (List Int) := if goodPl l = true then serL (confL l) else none
theorem sOf_len {l : List Ac} {r : List Int} (h : sOf l = some r) : r.length = 4 := by
  rw [sOf] at h
  split at h
  · exact serG_len 4 [] r h
  · cases h
theorem SerialOfS_ok {h : Heap} {v : V} {xs : List Ac} {F : List Nat} (hs : SdF h v xs F) : ∃ r h', call p 265 [v] h = some (r, h') ∧ ∃ o, r = .tup [o, .bool (sOf xs).isSome] ∧ Out h.length h' o ((sOf xs).getD []) ∧ Keeps h h' ∧ h.length ≤ h'.length := by
  have e0 := GoodPlayS_eq hs.sl
  refine go (fn := g265) rfl rfl fun R hR => ?_
  cases hg : goodPl xs with
  | false =>
    rw [hg] at e0
    rw [sOf, hg] at hR
    simp [g265, hs.cells, hs.cell, e0]
    exact hR _ _ ⟨.nils, rfl, Out.nil (Nat.le_refl _), Keeps.refl _, Nat.le_refl _⟩
  | true =>
    rw [hg] at e0
    have hlen : ∀ r, sOf xs = some r → r.length = 4 := fun r h => sOf_len h
    rw [sOf, hg] at hR
    have hlen' : ∀ r, serL (confL xs) = some r → r.length = 4 := fun r h => hlen r (by rw [sOf, hg]; exact h)
    obtain ⟨o1, h1, e1, s1, k1, l1⟩ := l7Conflicts_ok hs hg
    obtain ⟨o2, h2, e2, s2, k2, l2⟩ := l7Serial_ok s1 (confL_len xs)
    have s2l := s2.sl.len
    have s2m : Out h.length h2 o2 ((serL (confL xs)).getD []) := s2.mono (by omega)
    clear s2
    have s2 := s2m
    clear s2m
    simp only [if_true] at hR
    cases hr : serL (confL xs) with
    | none =>
      rw [hr] at s2l s2 hR
      have s2l' : lenV o2 = some 0 := s2l
      simp [g265, hs.cells, hs.cell, e0, e1, e2, s2l']
      exact hR _ _ ⟨o2, rfl, s2, k1.trans k2, by omega⟩
    | some r =>
      rw [hr] at s2l s2 hR
      have s2l' : lenV o2 = some 4 := by rw [s2l]; simp [hlen' r hr]
      simp [g265, hs.cells, hs.cell, e0, e1, e2, s2l']
      exact hR _ _ ⟨o2, rfl, s2, k1.trans k2, by omega⟩
end GL

namespace GL
open Go

/-! orders of all four, and a play one by one -/
def isOrd (o : List Int) : Bool := decide (srtI o = [0, 1, 2, 3])
theorem isOrd_perm {o : List Int} (h : isOrd o = true) : o.Perm [0, 1, 2, 3] := by
  have h' : srtI o = [0, 1, 2, 3] := of_decide_eq_true h
  rw [← h']; exact (srtI_perm o).symm
theorem perm_isOrd {o : List Int} (h : o.Perm [0, 1, 2, 3]) : isOrd o = true := by
  refine decide_eq_true (srtI_ext (h.nodup_iff.2 (by decide)) (by decide) fun x => h.mem_iff.symm).symm
theorem isOrd_iff {o : List Int} : isOrd o = true ↔ o.length = 4 ∧ ∀ k : Nat, k < 4 → (k : Int) ∈ o := by
  constructor
  · intro h
    have hp := isOrd_perm h
    exact ⟨hp.length_eq, fun k hk => hp.mem_iff.2 (by
      rcases (by omega : k = 0 ∨ k = 1 ∨ k = 2 ∨ k = 3) with rfl | rfl | rfl | rfl <;> decide)⟩
  · intro ⟨hl, hm⟩
    have m0 : (0 : Int) ∈ o := hm 0 (by decide)
    have m1 : (1 : Int) ∈ o := hm 1 (by decide)
    have m2 : (2 : Int) ∈ o := hm 2 (by decide)
    have m3 : (3 : Int) ∈ o := hm 3 (by decide)
    have p0 := List.perm_cons_erase m0
    have m1' : (1 : Int) ∈ o.erase 0 := (List.mem_erase_of_ne (by decide)).2 m1
    have m2' : (2 : Int) ∈ o.erase 0 := (List.mem_erase_of_ne (by decide)).2 m2
    have m3' : (3 : Int) ∈ o.erase 0 := (List.mem_erase_of_ne (by decide)).2 m3
    have p1 := List.perm_cons_erase m1'
    have m2'' : (2 : Int) ∈ (o.erase 0).erase 1 := (List.mem_erase_of_ne (by decide)).2 m2'
    have m3'' : (3 : Int) ∈ (o.erase 0).erase 1 := (List.mem_erase_of_ne (by decide)).2 m3'
    have p2 := List.perm_cons_erase m2''
    have m3''' : (3 : Int) ∈ ((o.erase 0).erase 1).erase 2 := (List.mem_erase_of_ne (by decide)).2 m3''
    have p3 := List.perm_cons_erase m3'''
    have p : o.Perm (0 :: 1 :: 2 :: 3 :: (((o.erase 0).erase 1).erase 2).erase 3) := p0.trans ((p1.trans ((p2.trans (p3.cons 2)).cons 1)).cons 0)
    have hle := p.length_eq
    have : (((o.erase 0).erase 1).erase 2).erase 3 = [] := by
      apply List.eq_nil_of_length_eq_zero
      simp only [List.length_cons] at hle
      omega
    rw [this] at p
    exact perm_isOrd p
theorem l7Order_eq {h : Heap} {v : V} {o : List Int} (hs : Sl h v o) : call p 366 [v] h = some (.bool (isOrd o), h) := by
  have ea := l1All_eq hs 0 3
  refine go_eq (fn := g366) rfl rfl fun R hR => ?_
  by_cases hl : o.length = 4
  · have hl' : (o.length : Int) = 4 := by omega
    cases hall : o.all fun n => decide (0 ≤ n ∧ n ≤ 3) with
    | false =>
      rw [hall] at ea
      have hb : isOrd o = false := by
        cases h : isOrd o with
        | false => rfl
        | true =>
          have hp := isOrd_perm h
          have : (o.all fun n => decide (0 ≤ n ∧ n ≤ 3)) = true := by rw [hp.all_eq]; decide
          rw [this] at hall; cases hall
      rw [hb] at hR
      simp [g366, hs.len, hl', ea]
      exact hR
    | true =>
      rw [hall] at ea
      simp [g366, hs.len, hl', ea]
      refine Wc_upM (M := [2, 3, 12, 13, 14, 15, 16, 17, 18, 19]) rfl 4 (fun k s => k ≤ 4 ∧ s.σ 3 = .v (vi k) ∧ s.h = h ∧ ∀ j : Nat, j < k → (j : Int) ∈ o) 0 ⟨by omega, by simp, rfl, fun j hj => by omega⟩ fun k s ⟨gk, g3, gh, hj⟩ hM J hJ => ?_
      by_cases hk : k < 4
      · have hk' : (k : Int) < 4 := by omega
        have ec := l1Has_eq hs (k : Int)
        have w3 : IntKind.i64.wrap ((k : Int) + 1) = (k + 1 : Nat) := by rw [IntWalk.i64_in] <;> omega
        by_cases hm : (k : Int) ∈ o
        · rw [decide_eq_true hm] at ec
          simp [g366_0, hM, g3, gh, hk, hk', ec, w3, -Int.natCast_add]
          exact hJ _ hk ⟨hk, by simp, rfl, fun j hj' => by
            rcases Nat.lt_succ_iff_lt_or_eq.1 hj' with h | h
            · exact hj j h
            · rw [h]; exact hm⟩
        · rw [decide_eq_false hm] at ec
          have hb : isOrd o = false := by
            cases h : isOrd o with
            | false => rfl
            | true => exact absurd ((isOrd_iff.1 h).2 k hk) hm
          rw [hb] at hR
          simp [g366_0, hM, g3, gh, hk, hk', ec]
          exact hR
      · have : k = 4 := by omega
        subst this
        rw [isOrd_iff.2 ⟨hl, hj⟩] at hR
        simp [g366_0, hM, g3, gh]
        exact hR
  · have hl' : ¬ (o.length : Int) = 4 := by omega
    have hb : isOrd o = false := by
      cases h : isOrd o with
      | false => rfl
      | true => exact absurd (isOrd_iff.1 h).1 hl
    rw [hb] at hR
    simp [g366, hs.len, hl', hl]
    exact hR

def oneL (l : List Ac) (o : List Int) : List Ac := o.flatMap (ofWho l)
theorem ofWho_le (l : List Ac) (w : Int) : (ofWho l w).length ≤ l.length := List.length_filter_le ..
theorem oneL_take (l : List Ac) {o : List Int} {i : Nat} (hi : i < o.length) : oneL l (o.take (i + 1)) = oneL l (o.take i) ++ ofWho l o[i] := by
  unfold oneL
  rw [List.take_succ_eq_append_getElem hi, List.flatMap_append]
  simp only [List.flatMap_cons, List.flatMap_nil, List.append_nil]
theorem oneL_le (l : List Ac) (o : List Int) : (oneL l o).length ≤ o.length * l.length := by
  induction o with
  | nil => simp [oneL]
  | cons a o ih =>
    have e : oneL l (a :: o) = ofWho l a ++ oneL l o := by simp [oneL]
    rw [e, List.length_append, List.length_cons, Nat.add_mul]
    have := ofWho_le l a
    omega
def playB (l : List Ac) (o : List Int) : Bool := goodPl l && isOrd o
theorem OneByOneS_ok {h : Heap} {v w : V} {xs : List Ac} {F : List Nat} {o : List Int} (hs : SdF h v xs F) (ho : Sl h w o) : ∃ r h', call p 270 [v, w] h = some (r, h') ∧ ∃ u, r = .tup [u, .bool (playB xs o)] ∧ (∃ G, SdF h' u (if playB xs o = true then oneL xs o else []) G) ∧ Keeps h h' ∧ h.length ≤ h'.length := by
  have e0 := GoodPlayS_eq hs.sl
  have e1 := l7Order_eq ho
  refine go (fn := g270) rfl rfl fun R hR => ?_
  cases hg : goodPl xs with
  | false =>
    rw [hg] at e0
    rw [playB, hg] at hR
    simp [g270, hs.cells, hs.cell, e0]
    exact hR _ _ ⟨.nils, rfl, ⟨[], .nil⟩, Keeps.refl _, Nat.le_refl _⟩
  | true =>
    rw [hg] at e0
    have hxl := goodPl_len hg
    rw [playB, hg] at hR
    cases hi : isOrd o with
    | false =>
      rw [hi] at e1 hR
      simp [g270, hs.cells, hs.cell, ho.cells, ho.cell, e0, e1]
      exact hR _ _ ⟨.nils, rfl, ⟨[], .nil⟩, Keeps.refl _, Nat.le_refl _⟩
    | true =>
      rw [hi] at e1 hR
      have hol4 := (isOrd_iff.1 hi).1
      simp [g270, hs.cells, hs.cell, ho.cells, ho.cell, e0, e1, ho.len]
      refine Wc_upM (M := [6, 8, 19, 20, 21, 22, 23, 24, 25, 26, 27, 28]) rfl o.length (fun i s => i ≤ o.length ∧ s.σ 19 = .v (vi i) ∧ ∃ v6, s.σ 6 = .v v6 ∧ Out h.length s.h v6 (oneL xs (o.take i)) ∧ Keeps h s.h ∧ h.length ≤ s.h.length) 0
        ⟨by omega, by simp, _, by simp; rfl, by simpa [oneL] using Out.nil (Nat.le_refl h.length), Keeps.refl _, Nat.le_refl _⟩ fun i s ⟨gi, g19, v6, g6, hO, hk, hln⟩ hM J hJ => ?_
      by_cases hn : i < o.length
      · have ix := ho.idx 1 .i64 i hn
        have ld := (ho.keeps hk).loadI i hn
        simp only [Nat.mul_one] at ix
        obtain ⟨r2, h2, e2, s2, k2, l2⟩ := l7Of_ok (hs.keep hk).sl (by omega) o[i]
        have hT := oneL_take xs hn
        have hle := oneL_le xs (o.take i)
        have hle2 := ofWho_le xs o[i]
        have hmul : (o.take i).length * xs.length ≤ 4 * 16 := Nat.mul_le_mul (by rw [List.length_take]; omega) hxl
        have hO3 : Out h.length h2 v6 (oneL xs (o.take i)) := hO.keeps (k2.p fun _ => True) (fun _ _ => trivial) l2
        obtain ⟨ys, v7, h3, e3, e4, o3, k3, l3⟩ := hO3.appS s2.sl (bytes := 24) (by decide) (by omega) (k := 3) rfl (n := (ofWho xs o[i]).length) rfl
        have st := ho.step hn
        generalize o[i] = q at *
        simp [g270_0, hM, g19, g6, hn, ix, ld, e2, s2.sl.len, e3, e4, st]
        exact hJ _ hn ⟨hn, by simp, v7, by simp, by rw [hT]; exact o3, (hk.trans k2).far k3 (Nat.le_refl _) fun i hi hv => by have := (hO3.ge hv).1; omega, by show h.length ≤ h3.length; omega⟩
      · have : i = o.length := by omega
        subst this
        rw [List.take_length] at hO
        obtain ⟨G, sG, _⟩ := hO.fr
        simp [g270_0, hM, g19, g6]
        exact hR _ _ ⟨v6, rfl, ⟨G, sG⟩, hk, by omega⟩
end GL

namespace GL
open Go

theorem drawSame_ok {h : Heap} {v : V} {bs : List Byte} (hs : Sl h v bs) : ∃ r h', call p 255 [v] h = some (r, h') ∧ ∃ (o u : V) (xs ys : List Ac) (F G : List Nat), r = .tup [o, u] ∧ SdF h' o xs F ∧ SdF h' u ys G ∧ Keeps h h' ∧ h.length ≤ h'.length := by
  have d0 := DC.start hs
  obtain ⟨o, h1, e1, xs, o1, hx, d1, k1, l1⟩ := d0.play (by decide)
  obtain ⟨F, s1, f1⟩ := o1.fr
  obtain ⟨_, h2, e2, o2, rfl, s2, k2, l2⟩ := SerialOfS_ok s1
  have d2 := d1.keeps k2
  have sx := s1.keep k2
  have nF : ∀ b ∈ F, b ≠ h.length := fun b hb => by have := f1.ge b hb; simp at this; omega
  simp at e1 l1
  refine go (fn := g255) rfl rfl fun R hR => ?_
  have tail : ∀ (H : Heap) (N : Nat), N ≤ 5000 → DC h H N → SdF H o xs F → h.length ≤ H.length → ∃ (c : Nat) (H2 H3 : Heap) (o3 : V) (b : Bool), call p 91 [.ptr h.length 0, vi 8] H = some (vi c, H2) ∧ call p 251 [o, vi c] H2 = some (.tup [o3, .bool b], H3) ∧
      (b = true → R (.tup [o, o3]) H3) ∧ (b = false → ∃ o4 H4, call p 342 [.ptr h.length 0] H3 = some (o4, H4) ∧ R (.tup [o, o4]) H4) := by
    intro H N hN d sH hl
    obtain ⟨c, H2, e3, hc, d3, k3, l3⟩ := d.pick (by omega) 8 (by decide)
    have s3 := sH.keeps (k3.P.mono nF)
    obtain ⟨_, H3, e4, o3, G, rfl, s4, f4, k4, l4⟩ := SwapAtS_ok s3.sl (by omega) (c : Int) (by omega)
    have d4 := d3.keeps k4
    refine ⟨c, H2, H3, o3, _, e3, e4, fun _ => ?_, fun hb => ?_⟩
    · exact hR _ _ ⟨o, o3, xs, _, F, G, rfl, s3.keep k4, s4, d4.keep, by omega⟩
    · obtain ⟨o5, H5, e5, ys, q5, hy, d5, k5, l5⟩ := d4.play (by omega)
      obtain ⟨G5, s5, f5⟩ := q5.fr
      exact ⟨o5, H5, e5, hR _ _ ⟨o, o5, xs, ys, F, G5, rfl, (s3.keep k4).keeps (k5.P.mono nF), s5, d5.keep, by omega⟩⟩
  cases hr : sOf xs with
  | none =>
    rw [hr] at e2
    obtain ⟨c, H2, H3, o3, b, e3, e4, t1, t2⟩ := tail h2 _ (by omega) d2 sx (by omega)
    cases b with
    | true =>
      simp [g255, hs.cells, hs.cell, fillL, e1, e2, e3, e4]
      exact t1 rfl
    | false =>
      obtain ⟨o4, H4, e5, t3⟩ := t2 rfl
      simp [g255, hs.cells, hs.cell, fillL, e1, e2, e3, e4, e5]
      exact t3
  | some r =>
    rw [hr] at e2 s2
    obtain ⟨q, h3, e3, d3, k3, l3⟩ := d2.one (by omega) 2 (by decide)
    have sx3 := sx.keeps (k3.P.mono nF)
    cases q with
    | false =>
      obtain ⟨c, H2, H3, o3, b, e4, e5, t1, t2⟩ := tail h3 _ (by omega) d3 sx3 (by omega)
      cases b with
      | true =>
        simp [g255, hs.cells, hs.cell, fillL, e1, e2, e3, e4, e5]
        exact t1 rfl
      | false =>
        obtain ⟨o4, H4, e6, t3⟩ := t2 rfl
        simp [g255, hs.cells, hs.cell, fillL, e1, e2, e3, e4, e5, e6]
        exact t3
    | true =>
      have so3 : Sl h3 o2 r := (k3.out s2 (by omega) (by omega)).sl
      obtain ⟨_, h4, e4, u, rfl, ⟨G, s4⟩, k4, l4⟩ := OneByOneS_ok sx3 so3
      have d4 := d3.keeps k4
      cases hb : playB xs r with
      | true =>
        rw [hb] at e4
        simp [g255, hs.cells, hs.cell, fillL, e1, e2, e3, e4]
        exact hR _ _ ⟨o, u, xs, _, F, G, rfl, sx3.keep k4, s4, d4.keep, by omega⟩
      | false =>
        rw [hb] at e4
        obtain ⟨c, H2, H3, o3, b, e5, e6, t1, t2⟩ := tail h4 _ (by omega) d4 (sx3.keep k4) (by omega)
        cases b with
        | true =>
          simp [g255, hs.cells, hs.cell, fillL, e1, e2, e3, e4, e5, e6]
          exact t1 rfl
        | false =>
          obtain ⟨o4, H4, e7, t3⟩ := t2 rfl
          simp [g255, hs.cells, hs.cell, fillL, e1, e2, e3, e4, e5, e6, e7]
          exact t3
end GL

namespace GL
open Go

theorem swapped_tail {h : Heap} {v : V} {bs : List Byte} (hs : Sl h v bs) : ∃ (o1 o2 u r r2 w w2 : V) (e g g2 : Bool) (h1 h2 h3 h4 h5 h6 h7 h8 : Heap), call p 255 [v] h = some (.tup [o1, o2], h1) ∧ call p 253 [o1, o2] h1 = some (.tup [.bool e, .bool g], h2) ∧ call p 256 [o1, o2] h2 = some (.tup [.bool e, .bool g], h3) ∧
    call p 257 [v] h3 = some (u, h4) ∧ call p 258 [u] h4 = some (.tup [r, .bool g2], h5) ∧ call p 259 [u] h5 = some (.tup [r2, .bool g2], h6) ∧ call p 260 [u] h6 = some (.tup [w, .bool g2], h7) ∧ call p 261 [u] h7 = some (.tup [w2, .bool g2], h8) ∧ call p 24 [r, r2] h8 = some (.bool true, h8) ∧ call p 24 [w, w2] h8 = some (.bool true, h8) := by
  obtain ⟨_, h1, e1, o1, o2, xs, ys, F, G, rfl, s1, s2, k1, l1⟩ := drawSame_ok hs
  obtain ⟨_, h2, e2, rfl, k2, l2⟩ := SameEffect_ok s1 s2
  obtain ⟨_, h3, e3, rfl, k3, l3⟩ := SameEffectS_ok (s1.keep k2) (s2.keep k2)
  have k13 := (k1.trans k2).trans k3
  obtain ⟨u, h4, e4, zs, H, s4, hz, k4, l4⟩ := drawReads_ok (hs.keeps k13)
  obtain ⟨_, h5, e5, r, rfl, s5, k5, l5⟩ := ReadsFrom_ok s4
  have s4b := s4.keep k5
  obtain ⟨_, h6, e6, r2, rfl, s6, k6, l6⟩ := ReadsFromS_ok s4b
  have s4c := s4b.keep k6
  obtain ⟨_, h7, e7, w, rfl, s7, k7, l7⟩ := LastWrites_ok s4c.sl
  have s4d := s4c.keep k7
  obtain ⟨_, h8, e8, w2, rfl, s8, k8, l8⟩ := LastWritesS_ok s4d.sl
  have f1 := sameInts_eq ((s5.keeps k6).keeps (k7.trans k8)) (s6.keeps (k7.trans k8))
  have f2 := sameInts_eq (s7.keeps k8) s8
  rw [decide_eq_true rfl] at f1 f2
  have hE : effRS xs ys = effR xs ys := by
    rw [effR, effRS]
    cases hg : (goodPl xs && goodPl ys) with
    | false => rfl
    | true =>
      simp only [Bool.and_eq_true] at hg
      rw [same_effect hg.1 hg.2]
  rw [hE] at e3
  obtain ⟨e, g, hR⟩ : ∃ e g, effR xs ys = .tup [.bool e, .bool g] := by
    rw [effR]; split
    · exact ⟨_, _, rfl⟩
    · exact ⟨_, _, rfl⟩
  rw [hR] at e2 e3
  exact ⟨o1, o2, u, r, r2, w, w2, e, g, _, h1, h2, h3, h4, h5, h6, h7, h8, e1, e2, e3, e4, e5, e6, e7, e8, f1, f2⟩

set_option maxRecDepth 20000 in
theorem FnSwapped_ok {h : Heap} {va vb : V} {as bs : List Byte} (ha : Sl h va as) (hb : Sl h vb bs) : ∃ r h', call p 248 [va, vb] h = some (r, h') ∧ r = .bool true := by
  refine go (fn := g248) rfl rfl fun R hR => ?_
  by_cases hbig : (1048576 : Int) < IntKind.i64.wrap ((as.length : Int) + bs.length)
  · simp [g248, ha.len, hb.len, hbig]
    exact hR _ _ rfl
  · obtain ⟨_, h1, e1, o, k, xs, F, rfl, hk, s1, hx, k1, l1⟩ := drawSwap_ok ha
    obtain ⟨_, h2, e2, o2, G2, rfl, s2, f2, k2, l2⟩ := SwapAt_ok s1.sl (by omega) k (by omega)
    have s1b := s1.keep k2
    obtain ⟨_, h3, e3, o3, G3, rfl, s3, f3, k3, l3⟩ := SwapAtS_ok s1b.sl (by omega) k (by omega)
    have s1c := s1b.keep k3
    have s2c := s2.keep k3
    have q1 := sameActs_eq s2c.sl s3.sl
    rw [decide_eq_true rfl] at q1
    have k13 := (k1.trans k2).trans k3
    cases hok : okSw xs k with
    | false =>
      rw [hok] at e2 e3
      obtain ⟨u1, u2, u, r, r2, w, w2, e, g, g2, g3, g4, g5, g6, g7, g8, g9, g10, c1, c2, c3, c4, c5, c6, c7, c8, c9, c10⟩ := swapped_tail (hb.keeps k13)
      simp [g248, ha.len, hb.len, hbig, s1.cells, s1.cell, s2.cells, s2.cell, s3.cells, s3.cell, e1, e2, e3, q1, c1, c2, c3, c4, c5, c6, c7, c8, c9, c10]
      exact hR _ _ rfl
    | true =>
      obtain ⟨n, rfl, hA, hok2, hback, hg, hg2⟩ := swap_facts hok
      have hconf := confL_swap hok
      rw [Int.toNat_natCast] at hconf
      rw [hok] at e2 e3
      rw [hok, if_pos rfl, Int.toNat_natCast] at s2c
      obtain ⟨_, h4, e4, rfl, k4, l4⟩ := SameEffect_ok s1c s2c
      have hE : effR xs (swapL xs n) = .tup [.bool true, .bool true] := by rw [effR, hg, hg2, hA.eff]; rfl
      rw [hE] at e4
      have s2d := s2c.keep k4
      have s1d := s1c.keep k4
      obtain ⟨_, h5, e5, o5, G5, rfl, s5, f5, k5, l5⟩ := SwapAt_ok s2d.sl (by rw [swapL_len]; omega) n (by omega)
      rw [hok2] at e5
      rw [hok2, if_pos rfl, Int.toNat_natCast, hback] at s5
      have s1e := s1d.keep k5
      have s2e := s2d.keep k5
      obtain ⟨_, h6, e6, o6, rfl, s6, k6, l6⟩ := ConflictsOf_ok s1e
      have s1f := s1e.keep k6
      have s2f := s2e.keep k6
      obtain ⟨_, h7, e7, o7, rfl, s7, k7, l7⟩ := ConflictsOf_ok s2f
      rw [hg] at e6 s6
      rw [hg2] at e7 s7
      rw [if_pos rfl] at s6 s7
      rw [hconf] at s7
      have q2 := sameActs_eq (s5.keep (k6.trans k7)).sl (s1f.keep k7).sl
      have q3 := sameInts_eq (s6.keeps k7) s7
      rw [decide_eq_true rfl] at q2 q3
      have k47 := ((k4.trans k5).trans k6).trans k7
      obtain ⟨u1, u2, u, r, r2, w, w2, e, g, g2, g3, g4, g5, g6, g7, g8, g9, g10, c1, c2, c3, c4, c5, c6, c7, c8, c9, c10⟩ := swapped_tail (hb.keeps (k13.trans k47))
      simp [g248, ha.len, hb.len, hbig, s1.cells, s1.cell, s2c.cells, s2c.cell, s3.cells, s3.cell, e1, e2, e3, q1, e4, e5, e6, e7, q2, q3, s5.cells, s5.cell, s6.cells, s6.cell, s7.cells, s7.cell, c1, c2, c3, c4, c5, c6, c7, c8, c9, c10]
      exact hR _ _ rfl
end GL

