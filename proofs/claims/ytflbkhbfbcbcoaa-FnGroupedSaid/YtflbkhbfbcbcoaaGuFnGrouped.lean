import Derived.ChangeArms
import Derived.IntWalk
import Derived.WideShapes
import Derived.Test.YtflbkhbfbcbcoaaGuFnGroupedA
/- What the functions of the law do, on the machine. -/
set_option linter.unusedSimpArgs false
set_option linter.unusedVariables false
set_option linter.unnecessarySimpa false
namespace GL
open Go

/-! the closure of columns under dependencies -/
def Cld (fs : List Dp) (s : List Int) : Prop := ∀ f ∈ fs, (∀ x ∈ f.l, x ∈ s) → ∀ x ∈ f.r, x ∈ s
def InK (k : Nat) (xs : List Int) : Prop := ∀ x ∈ xs, 0 ≤ x ∧ x < k
def DepsIn (k : Nat) (fs : List Dp) : Prop := ∀ f ∈ fs, InK k f.l ∧ InK k f.r ∧ f.l.Pairwise (· < ·) ∧ f.r.Pairwise (· < ·)
section
variable {k : Nat} {fs : List Dp} {xs : List Int}
structure CurOK (k : Nat) (fs : List Dp) (xs cur : List Int) : Prop where
  ris : cur.Pairwise (· < ·)
  ink : InK k cur
  sub : ∀ x ∈ xs, x ∈ cur
  min : ∀ x ∈ cur, ∀ s : List Int, (∀ x ∈ xs, x ∈ s) → Cld fs s → x ∈ s
theorem CurOK.start (h1 : xs.Pairwise (· < ·)) (h2 : InK k xs) : CurOK k fs xs xs := ⟨h1, h2, fun _ h => h, fun x hx s h1 _ => h1 x hx⟩
theorem CurOK.len {cur : List Int} (h : CurOK k fs xs cur) : cur.length ≤ k := rising_len h.ris h.ink
theorem CurOK.grow {cur ys : List Int} (h : CurOK k fs xs cur) (hd : DepsIn k fs) {f : Dp} (hf : f ∈ fs) (hl : ∀ x ∈ f.l, x ∈ cur) (hr : ys.Pairwise (· < ·)) (hm : ∀ x, x ∈ ys ↔ x ∈ cur ∨ x ∈ f.r) : CurOK k fs xs ys :=
  ⟨hr, fun x hx => by
    rcases (hm x).1 hx with h1 | h1
    · exact h.ink x h1
    · exact (hd f hf).2.1 x h1, fun x hx => (hm x).2 (.inl (h.sub x hx)), fun x hx s h1 h2 => by
    rcases (hm x).1 hx with h3 | h3
    · exact h.min x h3 s h1 h2
    · exact h2 f hf (fun y hy => h.min y (hl y hy) s h1 h2) x h3⟩
theorem longer {cur ys : List Int} (hn : cur.Pairwise (· < ·)) (hs : ∀ x ∈ cur, x ∈ ys) {z : Int} (hz : z ∈ ys) (hc : z ∉ cur) : cur.length < ys.length := by
  have := sub_len (l := z :: cur) (m := ys) (List.nodup_cons.2 ⟨hc, hn.imp fun h => Int.ne_of_lt h⟩) fun x hx => by
    rcases List.mem_cons.1 hx with rfl | h
    · exact hz
    · exact hs x h
  simp only [List.length_cons] at this; omega
end

end GL

namespace GL
open Go

end GL

namespace GL
open Go

end GL

namespace GL
open Go

end GL

namespace GL
open Go

end GL

namespace GL
open Go

/-! keys: lists that settle all, and no part of which does -/
def Bx (h : Heap) (b : Nat) (x : V) : Prop := ∃ st, st ≠ .dead ∧ h[b]? = some ⟨st, [x]⟩
theorem Bx.rd {h : Heap} {b : Nat} {x : V} (hb : Bx h b x) : rdH h b 0 1 = some [x] := by
  obtain ⟨st, h1, h2⟩ := hb
  rw [rdH_at h2 h1]; rfl
theorem Bx.keeps {h h' : Heap} {b : Nat} {x : V} {P : Nat → Prop} (hb : Bx h b x) (k : KeepsP P h h') (hp : P b) : Bx h' b x := by
  obtain ⟨st, h1, h2⟩ := hb
  exact ⟨st, h1, k _ _ hp h2 h1⟩
theorem Bx.keep {h h' : Heap} {b : Nat} {x : V} (hb : Bx h b x) (k : Keeps h h') : Bx h' b x := hb.keeps (k.p fun _ => True) trivial
theorem Bx.last (h : Heap) (x : V) : Bx (h ++ [⟨.own, [x]⟩]) h.length x := ⟨.own, by simp, get_last _ _⟩
theorem Bx.lt {h : Heap} {b : Nat} {x : V} (hb : Bx h b x) : b < h.length := by obtain ⟨_, _, h2⟩ := hb; exact get_lt h2

end GL

namespace GL
open Go

theorem OdF.od {α : Type} [Data α] {lo : Nat} {h : Heap} {v : V} {xs : List α} {G : List Nat} (o : OdF lo h v xs G) : Od lo h v xs G := o.1

end GL

namespace GL
open Go

end GL

namespace GL
open Go

end GL

namespace GL
open Go

end GL

namespace GL
open Go

theorem DepsIn.sub {k : Nat} {fs gs : List Dp} (h : DepsIn k fs) (hs : ∀ f ∈ gs, f ∈ fs) : DepsIn k gs := fun f hf => h f (hs f hf)
end GL

namespace GL
open Go

end GL

namespace GL
open Go

end GL

namespace GL
open Go

end GL

namespace GL
open Go

/-! relations: columns and rows -/
structure Rl where
  c : List Int
  rows : List (List Int)
def RlV (h : Heap) (v : V) (r : Rl) : Prop := ∃ x y F1 F2, v = .agg [x, y] ∧ SdF h x r.c F1 ∧ SdF h y r.rows F2
theorem RlV.keep {h h' : Heap} {v : V} {r : Rl} (hr : RlV h v r) (k : Keeps h h') : RlV h' v r := by
  obtain ⟨x, y, F1, F2, rfl, h1, h2⟩ := hr
  exact ⟨x, y, F1, F2, rfl, h1.keep k, h2.keep k⟩

def ltL : List Int → List Int → Bool
  | [], _ => false
  | _ :: _, [] => false
  | x :: xs, y :: ys => if x = y then ltL xs ys else decide (x < y)

end GL

namespace GL
open Go

def smallQ (n : Int) : Bool := decide (-1000 ≤ n ∧ n ≤ 1000)
def rowQ2 (n : Nat) (rows : List (List Int)) (j : Nat) : Bool := decide ((rows.getD j []).length = n) && (rows.getD j []).all smallQ && (decide (j = 0) || ltL (rows.getD (j - 1) []) (rows.getD j []))
def rowsP2 (n : Nat) (rows : List (List Int)) (i : Nat) : Bool := (List.range i).all (rowQ2 n rows)
def goodRl (r : Rl) : Bool := decide (r.c.length ≤ 6) && risB 0 20 r.c && decide (r.rows.length ≤ 60) && rowsP2 r.c.length r.rows r.rows.length
end GL

namespace GL
open Go

end GL

namespace GL
open Go

end GL

namespace GL
open Go

def DpV (h : Heap) (v : V) (f : Dp) : Prop := ∃ x y F1 F2, v = .agg [x, y] ∧ SdF h x f.l F1 ∧ SdF h y f.r F2
theorem DpV.keep {h h' : Heap} {v : V} {f : Dp} (hr : DpV h v f) (k : Keeps h h') : DpV h' v f := by
  obtain ⟨x, y, F1, F2, rfl, h1, h2⟩ := hr
  exact ⟨x, y, F1, F2, rfl, h1.keep k, h2.keep k⟩
end GL

namespace GL
open Go

end GL

namespace GL
open Go

end GL

namespace GL
open Go

end GL

namespace GL
open Go

end GL

namespace GL
open Go

end GL

namespace GL
open Go

end GL

namespace GL
open Go

end GL

namespace GL
open Go

/-! plays: acts in order -/
def toA3 (a : Ac) : Act3 := (a.who, a.item, a.wr)
def wrQ (a : Ac) (x : Int) : Bool := a.wr && decide (a.item = x)
/-- the number of the last Write of an item, or -1 -/
def lastW (xs : List Ac) (x : Int) : Int := lastT (xs.map toA3) x
theorem wrQ_at {xs : List Ac} {q : Nat} (hq : q < xs.length) (x : Int) : isWr (actAt (xs.map toA3) q) x = wrQ xs[q] x := by
  simp [actAt, hq, isWr, wrQ, toA3]
/-- what the last Write is -/
theorem lastW_cases (xs : List Ac) (x : Int) : (lastW xs x = -1 ∧ ∀ q (hq : q < xs.length), wrQ xs[q] x = false) ∨ ∃ k, ∃ hk : k < xs.length, lastW xs x = k ∧ wrQ xs[k] x = true ∧ ∀ q (hq : q < xs.length), k < q → wrQ xs[q] x = false := by
  have key : ∀ n, n ≤ xs.length → (lastN (xs.map toA3) x n = -1 ∧ ∀ q (hq : q < xs.length), q < n → wrQ xs[q] x = false) ∨ ∃ k, ∃ hk : k < xs.length, k < n ∧ lastN (xs.map toA3) x n = k ∧ wrQ xs[k] x = true ∧ ∀ q (hq : q < xs.length), k < q → q < n → wrQ xs[q] x = false := by
    intro n
    induction n with
    | zero => exact fun _ => .inl ⟨rfl, fun q _ h => by omega⟩
    | succ n ih =>
      intro hn
      have hn' : n < xs.length := by omega
      have e := wrQ_at hn' x
      rw [lastN, actAt_getD, e]
      cases hw : wrQ xs[n] x with
      | true => exact .inr ⟨n, hn', by omega, by simp, hw, fun q hq h1 h2 => by omega⟩
      | false =>
        simp only [Bool.false_eq_true, if_false]
        rcases ih (by omega) with ⟨h1, h2⟩ | ⟨k, hk, h1, h2, h3, h4⟩
        · refine .inl ⟨h1, fun q hq hl => ?_⟩
          by_cases e : q = n
          · subst e; exact hw
          · exact h2 q hq (by omega)
        · refine .inr ⟨k, hk, by omega, h2, h3, fun q hq h5 h6 => ?_⟩
          by_cases e : q = n
          · subst e; exact hw
          · exact h4 q hq h5 (by omega)
  have hl : (xs.map toA3).length = xs.length := by simp
  rcases key xs.length (Nat.le_refl _) with ⟨h1, h2⟩ | ⟨k, hk, _, h2, h3, h4⟩
  · exact .inl ⟨by rw [lastW, lastT, hl]; exact h1, fun q hq => h2 q hq hq⟩
  · exact .inr ⟨k, hk, by rw [lastW, lastT, hl]; exact h2, h3, fun q hq h => h4 q hq h hq⟩
end GL

namespace GL
open Go

def clashA (a b : Ac) : Bool := decide (a.who ≠ b.who) && decide (a.item = b.item) && (a.wr || b.wr)
end GL

namespace GL
open Go

/-- all acts of one -/
def ofWho (xs : List Ac) (who : Int) : List Ac := xs.filter fun a => decide (a.who = who)
end GL

namespace GL
open Go

def zAc : Ac := ⟨0, 0, false⟩
end GL

namespace GL
open Go

end GL

namespace GL
open Go

end GL

namespace GL
open Go

theorem lastN_take (zs : List Act3) (x : Int) (m : Nat) : ∀ n, n ≤ m → lastN (zs.take m) x n = lastN zs x n
  | 0, _ => rfl
  | n + 1, h => by
    have e : (zs.take m).getD n (0, 0, false) = zs.getD n (0, 0, false) := by
      simp only [List.getD_eq_getElem?_getD, List.getElem?_take]
      rw [if_pos (by omega)]
    rw [lastN, lastN, e, lastN_take zs x m n (by omega)]
theorem lastW_take_succ {xs : List Ac} {i : Nat} (hi : i < xs.length) (x : Int) : lastW (xs.take (i + 1)) x = if wrQ xs[i] x = true then (i : Int) else lastW (xs.take i) x := by
  have l1 : (xs.take (i + 1)).length = i + 1 := by rw [List.length_take]; omega
  have l2 : (xs.take i).length = i := by rw [List.length_take]; omega
  have h1 : lastW (xs.take (i + 1)) x = lastN (xs.map toA3) x (i + 1) := by
    rw [lastW, lastT, List.length_map, l1, List.map_take, lastN_take _ _ _ _ (Nat.le_refl _)]
  have h2 : lastW (xs.take i) x = lastN (xs.map toA3) x i := by
    rw [lastW, lastT, List.length_map, l2, List.map_take, lastN_take _ _ _ _ (Nat.le_refl _)]
  rw [h1, h2, lastN, actAt_getD, wrQ_at hi]
def readAt (l : List Ac) (i : Nat) : Int := if (l.getD i zAc).wr = true then -2 else lastW (l.take i) (l.getD i zAc).item
end GL

namespace GL
open Go

end GL

namespace GL
open Go

structure Og where
  who : Int
  n : Int
deriving DecidableEq
instance : Flat Og := ⟨2, fun x => [vi x.who, vi x.n], fun _ => rfl, fun _ => rfl, by decide⟩
/-- which act of whom stands there -/
def orgAt (l : List Ac) (k : Int) : Og := if k < 0 then ⟨-1, -1⟩ else ⟨(l.getD k.toNat zAc).who, ((l.take k.toNat).filter fun a => decide (a = l.getD k.toNat zAc)).length⟩
end GL

namespace GL
open Go

theorem lastW_lt (l : List Ac) (x : Int) : lastW l x < l.length ∧ -1 ≤ lastW l x := by
  rcases lastW_cases l x with ⟨h, _⟩ | ⟨k, hk, h, _⟩ <;> omega
def isRd (a : Ac) (who : Int) : Bool := decide (a.who = who) && !a.wr
/-- what one's reads read, in order -/
def orgsL (l : List Ac) (who : Int) (n : Nat) : List Og := ((List.range n).filter fun i => isRd (l.getD i zAc) who).map fun i => orgAt l (readAt l i)
theorem orgsL_succ (l : List Ac) (who : Int) (n : Nat) : orgsL l who (n + 1) = orgsL l who n ++ (if isRd (l.getD n zAc) who = true then [orgAt l (readAt l n)] else []) := by
  rw [orgsL, List.range_succ, List.filter_append, List.map_append, orgsL]
  congr 1
  cases h : isRd (l.getD n zAc) who
  · simp only [List.filter_cons, h, Bool.false_eq_true, if_false, List.filter_nil, List.map_nil]
  · simp only [List.filter_cons, h, if_true, List.filter_nil, List.map_cons, List.map_nil]
end GL

namespace GL
open Go

end GL

namespace GL
open Go

end GL

namespace GL
open Go

end GL

namespace GL
open Go

end GL

namespace GL
open Go

end GL

namespace GL
open Go

end GL

namespace GL
open Go

end GL

namespace GL

/-! what a play does, act by act from the end -/
theorem orgAt_take {l : List Ac} {k : Int} {n : Nat} (h : k < n) : orgAt (l.take n) k = orgAt l k := by
  unfold orgAt
  split
  · rfl
  · have h1 : k.toNat < n := by omega
    have e1 : (l.take n).getD k.toNat zAc = l.getD k.toNat zAc := by
      simp only [List.getD_eq_getElem?_getD, List.getElem?_take, h1, if_true]
    have e2 : (l.take n).take k.toNat = l.take k.toNat := by rw [List.take_take, Nat.min_eq_left (by omega)]
    rw [e1, e2]
/-- from what an item was last written -/
def orgW (l : List Ac) (x : Int) : Og := orgAt l (lastW l x)
def cntA (l : List Ac) (a : Ac) : Nat := (l.filter fun b => decide (b = a)).length
theorem orgW_snoc (l : List Ac) (a : Ac) (x : Int) : orgW (l ++ [a]) x = if wrQ a x = true then ⟨a.who, cntA l a⟩ else orgW l x := by
  have e := lastW_take_succ (xs := l ++ [a]) (i := l.length) (by simp) x
  rw [List.take_of_length_le (by simp)] at e
  simp only [List.take_left', List.getElem_concat_length] at e
  rw [orgW, e]
  split
  · simp [orgAt, cntA]
  · have hl := (lastW_lt l x).1
    rw [orgW]
    conv => rhs; rw [show l = (l ++ [a]).take l.length by simp]
    rw [orgAt_take (by simpa using hl)]
    simp
theorem readAt_lt (l : List Ac) {i : Nat} (hi : i ≤ l.length) : readAt l i < (i : Nat) := by
  unfold readAt
  split
  · omega
  · have := (lastW_lt (l.take i) (l.getD i zAc).item).1
    rw [List.length_take, Nat.min_eq_left hi] at this
    exact this
theorem orgsL_pre (l : List Ac) (a : Ac) (w : Int) (n : Nat) (hn : n ≤ l.length) : orgsL (l ++ [a]) w n = orgsL l w n := by
  induction n with
  | zero => rfl
  | succ n ih =>
    have hn' : n < l.length := by omega
    have e1 : (l ++ [a]).getD n zAc = l.getD n zAc := by
      rw [getD_in (by simp; omega), getD_in hn', List.getElem_append_left hn']
    have e2 : readAt (l ++ [a]) n = readAt l n := by
      unfold readAt
      rw [e1, List.take_append_of_le_length (by omega)]
    have e3 : orgAt (l ++ [a]) (readAt l n) = orgAt l (readAt l n) := by
      have h := readAt_lt l (i := n) (by omega)
      conv => rhs; rw [show l = (l ++ [a]).take l.length by simp]
      rw [orgAt_take (by simp; omega)]
      simp
    rw [orgsL_succ, orgsL_succ, ih (by omega), e1, e2, e3]
theorem orgsL_snoc (l : List Ac) (a : Ac) (w : Int) : orgsL (l ++ [a]) w (l ++ [a]).length = orgsL l w l.length ++ (if isRd a w = true then [orgW l a.item] else []) := by
  rw [show (l ++ [a]).length = l.length + 1 by simp, orgsL_succ, orgsL_pre _ _ _ _ (Nat.le_refl _)]
  have e1 : (l ++ [a]).getD l.length zAc = a := by rw [getD_in (by simp)]; simp
  rw [e1]
  congr 1
  split
  · rename_i h
    have hr : a.wr = false := by simp [isRd] at h; exact h.2
    have e2 : readAt (l ++ [a]) l.length = lastW l a.item := by
      unfold readAt; rw [e1, hr]; simp
    have h := (lastW_lt l a.item).1
    rw [e2, orgW]
    congr 1
    conv => rhs; rw [show l = (l ++ [a]).take l.length by simp]
    rw [orgAt_take (by simpa using h)]
    simp
  · rfl
/-- plays that are az good az each other -/
structure Alike (a b : List Ac) : Prop where
  perm : a.Perm b
  of : ∀ w, ofWho a w = ofWho b w
  reads : ∀ w, orgsL a w a.length = orgsL b w b.length
  last : ∀ x, orgW a x = orgW b x
theorem Alike.refl (a : List Ac) : Alike a a := ⟨.refl _, fun _ => rfl, fun _ => rfl, fun _ => rfl⟩
theorem Alike.trans {a b c : List Ac} (h : Alike a b) (k : Alike b c) : Alike a c := ⟨h.perm.trans k.perm, fun w => (h.of w).trans (k.of w), fun w => (h.reads w).trans (k.reads w), fun x => (h.last x).trans (k.last x)⟩
theorem Alike.symm {a b : List Ac} (h : Alike a b) : Alike b a := ⟨h.perm.symm, fun w => (h.of w).symm, fun w => (h.reads w).symm, fun x => (h.last x).symm⟩
theorem cntA_perm {a b : List Ac} (h : a.Perm b) (x : Ac) : cntA a x = cntA b x := (h.filter _).length_eq
theorem Alike.snoc {a b : List Ac} (h : Alike a b) (x : Ac) : Alike (a ++ [x]) (b ++ [x]) :=
  ⟨h.perm.append_right _, fun w => by have e := h.of w; simp only [ofWho] at e ⊢; rw [List.filter_append, List.filter_append, e],
   fun w => by rw [orgsL_snoc, orgsL_snoc, h.reads, h.last], fun y => by rw [orgW_snoc, orgW_snoc, h.last, cntA_perm h.perm]⟩
theorem Alike.append {a b : List Ac} (h : Alike a b) (r : List Ac) : Alike (a ++ r) (b ++ r) := by
  induction r generalizing a b with
  | nil => simpa using h
  | cons x r ih => have := ih (h.snoc x); simpa using this
theorem cntA_snoc (l : List Ac) (a x : Ac) : cntA (l ++ [a]) x = cntA l x + if a = x then 1 else 0 := by
  simp only [cntA, List.filter_append, List.length_append, List.filter_cons, List.filter_nil]
  by_cases h : a = x <;> simp [h]
/-- two acts beside each other that do not clash -/
theorem Alike.swap (r : List Ac) {x y : Ac} (hw : x.who ≠ y.who) (hc : clashA x y = false) : Alike (r ++ [x, y]) (r ++ [y, x]) := by
  have e1 : r ++ [x, y] = (r ++ [x]) ++ [y] := by simp
  have e2 : r ++ [y, x] = (r ++ [y]) ++ [x] := by simp
  have hxy : x ≠ y := fun h => hw (by rw [h])
  have hc' : x.item = y.item → x.wr = false ∧ y.wr = false := fun h => by simpa [clashA, hw, h] using hc
  refine ⟨(List.Perm.swap y x []).append_left r, fun w => ?_, fun w => ?_, fun z => ?_⟩
  · simp only [ofWho, List.filter_append]
    congr 1
    by_cases h1 : x.who = w
    · have h2 : ¬ y.who = w := fun h => hw (h1.trans h.symm)
      simp [h1, h2]
    · by_cases h2 : y.who = w <;> simp [h1, h2]
  · rw [e1, e2, orgsL_snoc, orgsL_snoc, orgsL_snoc, orgsL_snoc, List.append_assoc, List.append_assoc]
    congr 1
    rw [orgW_snoc, orgW_snoc]
    cases h1 : isRd x w with
    | true =>
      have h1' : x.who = w ∧ x.wr = false := by simpa [isRd] using h1
      have h2 : isRd y w = false := by simp [isRd]; intro h; exact absurd (h1'.1.trans h.symm) hw
      have h3 : wrQ y x.item = false := by
        by_cases h : x.item = y.item
        · simp [wrQ, (hc' h).2]
        · simp [wrQ, show ¬ y.item = x.item from fun k => h k.symm]
      rw [h2, h3]; simp
    | false =>
      cases h2 : isRd y w with
      | false => simp
      | true =>
        have h3 : wrQ x y.item = false := by
          by_cases h : x.item = y.item
          · simp [wrQ, (hc' h).1]
          · simp [wrQ, h]
        rw [h3]; simp
  · rw [e1, e2, orgW_snoc, orgW_snoc, orgW_snoc, orgW_snoc, cntA_snoc, cntA_snoc, if_neg hxy, if_neg (Ne.symm hxy)]
    by_cases h1 : wrQ x z = true
    · have h1' : x.wr = true ∧ x.item = z := by simpa [wrQ] using h1
      have h2 : wrQ y z = false := by
        cases h : wrQ y z with
        | false => rfl
        | true =>
          have h' : y.wr = true ∧ y.item = z := by simpa [wrQ] using h
          have := hc' (h1'.2.trans h'.2.symm)
          rw [this.1] at h1'; exact absurd h1'.1 (by simp)
      simp [h1, h2]
    · simp [h1]
/-- an act that may go behind all of a list -/
theorem Alike.past (r : List Ac) (a : Ac) (q : List Ac) (h : ∀ b ∈ q, a.who ≠ b.who ∧ clashA a b = false) : Alike (r ++ a :: q) (r ++ q ++ [a]) := by
  induction q generalizing r with
  | nil => simpa using Alike.refl _
  | cons b q ih =>
    have h1 := (Alike.swap r (h b (by simp)).1 (h b (by simp)).2).append q
    have h2 := ih (r ++ [b]) fun c hc => h c (by simp [hc])
    simp only [List.append_assoc, List.cons_append, List.nil_append] at h1 h2 ⊢
    exact h1.trans h2
end GL

namespace GL

end GL

namespace GL

end GL

namespace GL
open Go

end GL

namespace GL
open Go

end GL

namespace GL
open Go

end GL

namespace GL
open Go

end GL

namespace GL
open Go

end GL

namespace GL
open Go

end GL

namespace GL
open Go

end GL

namespace GL
open Go

end GL

namespace GL
open Go

end GL

namespace GL
open Go

/-! a list of one's own that holds lists, cell by cell -/
structure Ls (h : Heap) (b : Nat) (vs : List V) (xs : List (List Int)) : Prop where
  blk : h[b]? = some ⟨.own, vs⟩
  len : vs.length = xs.length
  el : ∀ i (hi : i < xs.length), ∃ G, SdF h (vs.getD i .nils) xs[i] G ∧ b ∉ G
theorem reps_of : ∀ {h : Heap} {xs : List (List Int)} {vs : List V}, vs.length = xs.length → (∀ i (hi : i < xs.length), ∃ G, SdF h (vs.getD i .nils) xs[i] G) → ∃ F, Reps h xs vs F
  | h, [], vs, hl, _ => ⟨[], by simp at hl; exact ⟨hl, rfl⟩⟩
  | h, x :: xs, [], hl, _ => by simp at hl
  | h, x :: xs, v :: vs, hl, he => by
    obtain ⟨G, hG⟩ := he 0 (by simp)
    obtain ⟨F, hF⟩ := reps_of (h := h) (xs := xs) (vs := vs) (by simpa using hl) fun i hi => by
      obtain ⟨G, hG⟩ := he (i + 1) (by simpa using hi)
      exact ⟨G, by simpa using hG⟩
    exact ⟨G ++ F, [v], vs, G, F, rfl, rfl, ⟨v, rfl, by simpa using hG⟩, hF⟩
theorem sd_cells {h : Heap} {b m : Nat} {cells : List V} {ys : List (List Int)} (hb : h[b]? = some ⟨.own, cells⟩) (hm : m = ys.length) (hl : m ≤ cells.length) (hl2 : m ≤ 2 ^ 40) (he : ∀ i (hi : i < ys.length), ∃ G, SdF h (cells.getD i .nils) ys[i] G) : ∃ F, SdF h (.slice b 0 m (.o 1)) ys F := by
  subst hm
  have h1 : ∀ i (hi : i < ys.length), (cells.take ys.length).getD i .nils = cells.getD i .nils := fun i hi => by
    simp only [List.getD_eq_getElem?_getD, List.getElem?_take, hi, if_true]
  obtain ⟨F, hF⟩ := reps_of (h := h) (xs := ys) (vs := cells.take ys.length) (by rw [List.length_take]; omega) fun i hi => by
    rw [h1 i hi]; exact he i hi
  refine ⟨b :: F, by omega, .inr ⟨b, 0, .o 1, rfl, rfl, .inr ⟨_, cells.take ys.length, F, rfl, hb, by simp, ?_, hF⟩⟩⟩
  have hsz : Data.sz (List Int) = 1 := rfl
  simp only [cut, hsz, Nat.mul_one, Nat.zero_add, if_pos hl, List.drop_zero]
theorem Ls.sd {h : Heap} {b m : Nat} {vs : List V} {xs : List (List Int)} (L : Ls h b vs xs) (hm : m ≤ xs.length) (hl : xs.length ≤ 2 ^ 40) : ∃ F, SdF h (.slice b 0 m (.o 1)) (xs.take m) F := by
  refine sd_cells L.blk (by rw [List.length_take]; omega) (by rw [L.len]; exact hm) (by omega) fun i hi => ?_
  rw [List.length_take] at hi
  obtain ⟨G, hG, _⟩ := L.el i (by omega)
  exact ⟨G, by rw [List.getElem_take]; exact hG⟩
theorem Ls.rd {h : Heap} {b : Nat} {vs : List V} {xs : List (List Int)} (L : Ls h b vs xs) {i : Nat} (hi : i < xs.length) : rdH h b i 1 = some [vs.getD i .nils] := by
  have hv : i < vs.length := by rw [L.len]; exact hi
  rw [rdH_at L.blk (by simp), cut, if_pos (by show i + 1 ≤ vs.length; omega)]
  rw [List.drop_eq_getElem_cons hv, getD_in hv]; rfl
theorem Ls.get {h : Heap} {b : Nat} {vs : List V} {xs : List (List Int)} (L : Ls h b vs xs) {i : Nat} (hi : i < xs.length) : ∃ z G, rdH h b i 1 = some [z] ∧ SdF h z xs[i] G ∧ b ∉ G ∧ vs.getD i .nils = z := by
  obtain ⟨G, hG, hn⟩ := L.el i hi
  exact ⟨_, G, L.rd hi, hG, hn, rfl⟩
theorem Ls.at' {h h' : Heap} {b : Nat} {vs : List V} {xs : List (List Int)} (L : Ls h b vs xs) (hk : KeepsP (fun c => c ≠ b) h h') (hb : h'[b]? = some ⟨.own, vs⟩) : Ls h' b vs xs :=
  ⟨hb, L.len, fun i hi => by
    obtain ⟨G, hG, hn⟩ := L.el i hi
    exact ⟨G, hG.keeps (hk.mono fun c hc e => hn (e ▸ hc)), hn⟩⟩
theorem Ls.wr {h : Heap} {b : Nat} {vs ws : List V} {xs ys : List (List Int)} (L : Ls h b vs xs) (hl : ws.length = ys.length) (he : ∀ i (hi : i < ys.length), ∃ j, ∃ hj : j < xs.length, ws.getD i .nils = vs.getD j .nils ∧ ys[i] = xs[j]) : Ls (h.set b ⟨.own, ws⟩) b ws ys :=
  ⟨by simp [get_lt L.blk], hl, fun i hi => by
    obtain ⟨j, hj, e1, e2⟩ := he i hi
    obtain ⟨G, hG, hn⟩ := L.el j hj
    refine ⟨G, ?_, hn⟩
    rw [e1, e2]
    exact hG.keeps fun c blk hc hh _ => by rw [List.getElem?_set_ne (fun e => hn (by rw [e]; exact hc))]; exact hh⟩
theorem Ls.set {h : Heap} {b i j : Nat} {vs : List V} {xs : List (List Int)} (L : Ls h b vs xs) (hi : i < xs.length) (hj : j < xs.length) : wrH h b i [vs.getD j .nils] = some (h.set b ⟨.own, vs.set i (vs.getD j .nils)⟩) ∧ Ls (h.set b ⟨.own, vs.set i (vs.getD j .nils)⟩) b (vs.set i (vs.getD j .nils)) (xs.set i xs[j]) := by
  have hv : i < vs.length := by rw [L.len]; exact hi
  refine ⟨?_, L.wr (by simp [L.len]) fun q hq => ?_⟩
  · rw [wrH_at L.blk rfl, lay, if_pos (by show i + 1 ≤ vs.length; omega)]
    have : vs.take i ++ [vs.getD j .nils] ++ vs.drop (i + 1) = vs.set i (vs.getD j .nils) := by rw [List.set_eq_take_append_cons_drop, if_pos hv]; simp
    rw [show i + [vs.getD j .nils].length = i + 1 from rfl, this]; rfl
  · rw [List.length_set] at hq
    by_cases e : i = q
    · subst e
      exact ⟨j, hj, by rw [getD_in (by rw [List.length_set]; exact hv), List.getElem_set_self], by simp⟩
    · refine ⟨q, hq, ?_, by rw [List.getElem_set_ne e]⟩
      simp only [List.getD_eq_getElem?_getD, List.getElem?_set_ne e]
end GL

namespace GL
open Go

end GL

namespace GL
open Go

end GL

namespace GL
open Go

end GL

namespace GL
open Go

end GL

namespace GL
open Go

end GL

namespace GL
open Go

end GL

namespace GL
open Go

end GL

namespace GL
open Go

end GL

namespace GL
open Go

/-- what an operation on relations hands on -/
def RelR (h : Heap) (o : V) (b : Bool) (q : Rl) : Prop := ∃ x y Fx Fy, o = .tup [.agg [x, y], .bool (b && goodRl q)] ∧ SdF h x (if (b && goodRl q) = true then q.c else []) Fx ∧ SdF h y (if (b && goodRl q) = true then q.rows else []) Fy
theorem RelR.bad {h : Heap} {q : Rl} : RelR h (.tup [.agg [.nils, .nils], .bool false]) false q := ⟨.nils, .nils, [], [], rfl, .nil, .nil⟩
end GL

namespace GL
open Go

end GL

namespace GL
open Go

theorem Ls.keep {h h' : Heap} {b : Nat} {vs : List V} {xs : List (List Int)} (L : Ls h b vs xs) (hk : Keeps h h') : Ls h' b vs xs := L.at' (hk.p _) (hk b _ L.blk (by simp))
end GL

namespace GL
open Go

end GL

namespace GL
open Go

/-- a list of lists that is made az long az it will be, and filled -/
def GsL (h : Heap) (lo : Nat) (w : V) (zs : List (List Int)) (n : Nat) : Prop :=
  (n = 0 ∧ zs = [] ∧ w = .nils) ∨ ∃ b vs F, w = .slice b 0 zs.length (.o 1) ∧ lo ≤ b ∧ h[b]? = some ⟨.own, vs ++ List.replicate (n - zs.length) V.nils⟩ ∧ zs.length ≤ n ∧ Reps h zs vs F ∧ b ∉ F
theorem Reps.lenL {h : Heap} {xs : List (List Int)} {cs : List V} {F : List Nat} (hr : Reps h xs cs F) : cs.length = xs.length := by
  have := hr.len; rwa [show Data.sz (List Int) = 1 from rfl, Nat.mul_one] at this
theorem GsL.sd {h : Heap} {lo : Nat} {w : V} {zs : List (List Int)} {n : Nat} (g : GsL h lo w zs n) (hn : zs.length = n) (hl : n ≤ 2 ^ 40) : ∃ F, SdF h w zs F := by
  rcases g with ⟨_, rfl, rfl⟩ | ⟨b, vs, F, rfl, hb, hc, _, hv, _⟩
  · exact ⟨[], SdF.nil⟩
  · rw [hn, Nat.sub_self, List.replicate_zero, List.append_nil] at hc
    subst hn
    have hvl := hv.lenL
    refine ⟨b :: F, by omega, .inr ⟨b, 0, .o 1, rfl, rfl, .inr ⟨_, vs, F, rfl, hc, by simp, ?_, hv⟩⟩⟩
    simp only [cut, show Data.sz (List Int) = 1 from rfl, Nat.mul_one, Nat.zero_add]
    rw [if_pos (by show zs.length ≤ vs.length; omega), List.drop_zero, List.take_of_length_le (by show vs.length ≤ _; omega)]
end GL

namespace GL
open Go

end GL

namespace GL
open Go

end GL

namespace GL
open Go

end GL

namespace GL
open Go

end GL

namespace GL
open Go

end GL

namespace GL
open Go

end GL

namespace GL
open Go

end GL

namespace GL
open Go

abbrev CC (x y : V) : Prop := x.cells = [x] ∧ x.cell = true ∧ y.cells = [y] ∧ y.cell = true
/-- a relation handed on, or none -/
def givR (b : Bool) (q : Rl) : Rl := if (b && goodRl q) = true then q else ⟨[], []⟩
theorem RelR.get {h : Heap} {o : V} {b : Bool} {q : Rl} (hR : RelR h o b q) : ∃ x y Fx Fy, o = .tup [.agg [x, y], .bool (b && goodRl q)] ∧ SdF h x (givR b q).c Fx ∧ SdF h y (givR b q).rows Fy ∧ CC x y := by
  obtain ⟨x, y, Fx, Fy, e, hx, hy⟩ := hR
  refine ⟨x, y, Fx, Fy, e, ?_, ?_, hx.cells, hx.cell, hy.cells, hy.cell⟩
  · unfold givR
    by_cases hb : (b && goodRl q) = true
    · rw [if_pos hb] at hx ⊢; exact hx
    · rw [if_neg hb] at hx ⊢; exact hx
  · unfold givR
    by_cases hb : (b && goodRl q) = true
    · rw [if_pos hb] at hy ⊢; exact hy
    · rw [if_neg hb] at hy ⊢; exact hy
theorem RelR.good {h : Heap} {o : V} {b : Bool} {q : Rl} (hR : RelR h o b q) (hb : b = true) (hg : goodRl q = true) : ∃ x y Fx Fy, o = .tup [.agg [x, y], .bool true] ∧ SdF h x q.c Fx ∧ SdF h y q.rows Fy ∧ CC x y := by
  obtain ⟨x, y, Fx, Fy, e, hx, hy, hc⟩ := hR.get
  rw [givR, hb, hg, Bool.and_true, if_pos rfl] at hx hy
  rw [hb, hg] at e
  exact ⟨x, y, Fx, Fy, e, hx, hy, hc⟩
end GL

namespace GL
open Go

end GL

namespace GL
open Go

end GL

namespace GL
open Go

end GL

namespace GL
open Go

end GL

namespace GL
open Go

theorem Rl.eq_iff {a b : Rl} : a = b ↔ a.c = b.c ∧ a.rows = b.rows := by
  cases a; cases b; simp
instance : DecidableEq Rl := fun _ _ => decidable_of_iff _ Rl.eq_iff.symm
end GL

namespace GL
open Go

end GL

namespace GL
open Go

end GL

namespace GL
open Go

/-! lists of relations -/
instance rlData : Data Rl where
  sz := 2
  pos := by decide
  rep := fun h c cs F => ∃ x y F1 F2, cs = [x, y] ∧ F = F1 ++ F2 ∧ SdF h x c.c F1 ∧ SdF h y c.rows F2
  len := by rintro h a cs F ⟨x, y, F1, F2, rfl, _⟩; rfl
  ok := by rintro h a cs F ⟨x, y, F1, F2, rfl, _, h1, h2⟩; simp [allCell, h1.cell, h2.cell]
  keeps := by
    rintro h h' a cs F ⟨x, y, F1, F2, rfl, rfl, h1, h2⟩ hk
    exact ⟨x, y, F1, F2, rfl, rfl, h1.keeps (hk.mono fun b hb => List.mem_append_left _ hb), h2.keeps (hk.mono fun b hb => List.mem_append_right _ hb)⟩
  lt := by
    rintro h a cs F b ⟨x, y, F1, F2, rfl, rfl, h1, h2⟩ hb
    rcases List.mem_append.1 hb with hb | hb
    · exact h1.lt hb
    · exact h2.lt hb
theorem Od.blk {α : Type} [Data α] {lo : Nat} {h : Heap} {v : V} {xs : List α} {F : List Nat} (o : Od lo h v xs F) : (∀ i, ¬ vB v i) ∨ ∃ q blk, h[q]? = some blk ∧ ∀ i, vB v i ↔ i = q := by
  obtain ⟨_, _, ⟨rfl, _, _⟩ | ⟨b, cs, rfl, hb, _⟩ | ⟨b, rfl, _, _, _, hb⟩⟩ := o
  · exact .inl fun i ⟨_, _, _, e⟩ => by cases e
  · exact .inr ⟨b, _, hb, fun i => ⟨fun ⟨_, _, _, e⟩ => by cases e; rfl, fun e => e ▸ ⟨_, _, _, rfl⟩⟩⟩
  · exact .inr ⟨b, h[b], List.getElem?_eq_getElem hb, fun i => ⟨fun ⟨_, _, _, e⟩ => by cases e; rfl, fun e => e ▸ ⟨_, _, _, rfl⟩⟩⟩
end GL

namespace GL
open Go

end GL

namespace GL
open Go

def ptR (h : Heap) (o : V) (q : Option Rl) : Prop := ∃ x y Fx Fy, o = .tup [.agg [x, y], .bool q.isSome] ∧ SdF h x (q.getD ⟨[], []⟩).c Fx ∧ SdF h y (q.getD ⟨[], []⟩).rows Fy ∧ CC x y
theorem ptR.bad {h : Heap} : ptR h (.tup [.agg [.nils, .nils], .bool false]) none := ⟨.nils, .nils, [], [], rfl, .nil, .nil, rfl, rfl, rfl, rfl⟩
end GL

namespace GL
open Go

end GL

namespace GL
open Go

end GL

namespace GL
open Go

end GL

namespace GL
open Go

end GL

namespace GL
open Go

end GL

namespace GL
open Go

end GL

namespace GL
open Go

end GL

namespace GL
open Go

end GL

namespace GL
open Go

/-! values in order -/
deriving instance DecidableEq for Val
theorem valv_eq (a b : Val) : eqCells [none, some .i64] [.bool a.null, vi a.n] [.bool b.null, vi b.n] = some (decide (a = b)) := by
  obtain ⟨a1, a2⟩ := a
  obtain ⟨b1, b2⟩ := b
  simp only [Val.mk.injEq]
  cases a1 <;> cases b1 <;> by_cases h2 : a2 = b2 <;> simp [eqCells, h2]
def befV (a b : Val) : Bool := (a.null && !b.null) || (!b.null && decide (a.n < b.n))
theorem l4Before_eq (a b : Val) (h : Heap) : call p 154 [vv a, vv b] h = some (.bool (befV a b), h) := by
  refine go_eq (fn := g154) rfl rfl fun R hR => ?_
  obtain ⟨a1, a2⟩ := a
  obtain ⟨b1, b2⟩ := b
  rw [befV] at hR
  cases a1 <;> cases b1 <;> by_cases h2 : a2 < b2 <;> (simp [h2] at hR; simp [g154, upd, fillL, h2]; exact hR)
/-- a column of a table -/
def colL (rows : List Rw) (c : Nat) : List Val := rows.map fun r => r.cols.getD c ⟨false, 0⟩
theorem column_ok {h : Heap} {v : V} {rows : List Rw} {F : List Nat} (hs : SdF h v rows F) (c : Nat) (hc : ∀ r ∈ rows, c < r.cols.length) (hl : rows.length ≤ 2 ^ 20) :
    ∃ r h', call p 135 [v, vi c] h = some (r, h') ∧ Out h.length h' r (colL rows c) ∧ Keeps h h' ∧ h.length ≤ h'.length := by
  refine go (fn := g135) rfl rfl fun R hR => ?_
  simp [g135, hs.len]
  refine Wc_upM (M := [5, 7, 11, 12, 13, 14, 15, 16, 17, 18, 19, 20, 21, 22, 23]) rfl rows.length (fun i s => i ≤ rows.length ∧ s.σ 11 = .v (vi i) ∧ Keeps h s.h ∧ h.length ≤ s.h.length ∧ ∃ v5, s.σ 5 = .v v5 ∧ Out h.length s.h v5 (colL (rows.take i) c)) 0
    ⟨by omega, by simp, Keeps.append _ _, by simp, .slice h.length 0 0 (.k 0), by simp, by simpa [colL] using Out.empty (Nat.le_refl _) (by simp)⟩ fun i s ⟨gi, g11, hk, hl0, v5, g5, o5⟩ hM J hJ => ?_
  by_cases hi : i < rows.length
  · have hs' := hs.keep hk
    obtain ⟨x, F2, ex, hx, _⟩ := hs'.loadR i hi
    have ix := hs'.idx 2 .i64 i hi
    have st := hs'.step hi
    have hci := hc _ (List.getElem_mem hi)
    have iy := hx.idx 2 .i64 c hci
    have ly := hx.sl.loadV c hci
    have hT : colL (rows.take (i + 1)) c = colL (rows.take i) c ++ [rows[i].cols[c]] := by
      rw [List.take_succ_eq_append_getElem hi, colL, List.map_append, colL]
      simp [hci]
    obtain ⟨v', h2, e2, o2, k2, l2⟩ := o5.oneV rows[i].cols[c] (by simp [colL]; omega)
    have kf := o5.far hk k2 (Nat.le_refl _)
    generalize rows[i].cols[c] = y at *
    simp [g135_0, hM, g11, g5, hi, ix, ex, hx.cells, hx.cell, upd, iy, ly, fillL, rdS_last, e2, st]
    exact hJ _ hi ⟨hi, by simp, kf, by show h.length ≤ h2.length; omega, v', by simp, by rw [hT]; exact o2⟩
  · have : i = rows.length := by omega
    subst this
    rw [List.take_length] at o5
    simp [g135_0, hM, g11, g5]
    exact hR _ _ ⟨o5, hk, hl0⟩
end GL

namespace GL
open Go

def cntB (l : List Val) (k : Int) (x : Val) : Bool := l.all okV && decide (l.length ≤ 40) && decide (0 ≤ k ∧ k ≤ 2) && okV x
def cntN (l : List Val) (k : Int) (x : Val) : Nat := (l.filter fun y => decide (cmpV k y x = 2)).length
def cntR (l : List Val) (k : Int) (x : Val) : V := if cntB l k x = true then .tup [vi (cntN l k x), .bool true] else .tup [vi 0, .bool false]
theorem cnt_take (l : List Val) (k : Int) (x : Val) {i : Nat} (hi : i < l.length) : cntN (l.take (i + 1)) k x = cntN (l.take i) k x + if cmpV k l[i] x = 2 then 1 else 0 := by
  rw [List.take_succ_eq_append_getElem hi, cntN, List.filter_append, List.length_append, cntN]
  congr 1
  by_cases h : cmpV k l[i] x = 2 <;> simp [h]
theorem CountWhere_eq {h : Heap} {v : V} {l : List Val} (hs : Sl h v l) (k : Int) (x : Val) : call p 84 [v, vi k, vv x] h = some (cntR l k x, h) := by
  have e1 := areValues_eq hs
  refine go_eq (fn := g84) rfl rfl fun R hR => ?_
  by_cases h40 : (40 : Int) < l.length
  · have hB : cntB l k x = false := by rw [cntB, decide_eq_false (show ¬ l.length ≤ 40 by omega)]; simp
    rw [cntR, hB] at hR
    simp [g84, upd, hs.len, h40, fillL]
    exact hR
  · cases ha : l.all okV with
    | false =>
      have hB : cntB l k x = false := by rw [cntB, ha]; rfl
      rw [cntR, hB] at hR
      rw [ha] at e1
      simp [g84, upd, hs.len, h40, e1, fillL]
      exact hR
    | true =>
      rw [ha] at e1
      by_cases hk : 0 ≤ k ∧ k ≤ 2
      · cases hx : okV x with
        | false =>
          have hB : cntB l k x = false := by rw [cntB, hx, Bool.and_false]
          rw [cntR, hB] at hR
          simp [g84, upd, hs.len, h40, e1, hk, hx, fillL]
          exact hR
        | true =>
          have hB : cntB l k x = true := by rw [cntB, ha, hx, decide_eq_true hk, decide_eq_true (show l.length ≤ 40 by omega)]; rfl
          rw [cntR, hB, if_pos rfl] at hR
          simp [g84, upd, hs.len, h40, e1, hk, hx, fillL]
          refine Wc_upM (M := [8, 10, 31, 32, 33, 34, 35, 36, 37, 38, 39, 40, 41, 42]) rfl l.length (fun i s => i ≤ l.length ∧ s.σ 31 = .v (vi i) ∧ s.h = h ∧ s.L 5 = (1, [.bool x.null, vi x.n]) ∧ s.σ 8 = .v (vi (cntN (l.take i) k x))) 0 ⟨by omega, by simp, rfl, by simp [upd], by simp [cntN]⟩ fun i s ⟨gi, g31, gh, gL, g8⟩ hM J hJ => ?_
          by_cases hi : i < l.length
          · have ix := hs.idx 2 .i64 i hi
            have ld := hs.loadV i hi
            have st := hs.step hi
            have ec := compare_eq k l[i] x h
            have hT := cnt_take l k x hi
            have hcl : cntN (l.take i) k x ≤ 40 := by
              have := List.length_filter_le (fun y => decide (cmpV k y x = 2)) (l.take i)
              rw [List.length_take] at this
              unfold cntN; omega
            have w1 : IntKind.i64.wrap ((cntN (l.take i) k x : Int) + 1) = (cntN (l.take i) k x + 1 : Nat) := by rw [IntWalk.i64_in] <;> omega
            generalize l[i] = y at *
            generalize cntN (l.take i) k x = c at *
            by_cases hc : cmpV k y x = 2
            · rw [if_pos hc] at hT
              rw [hc] at ec
              simp [g84_0, hM, g31, g8, gh, gL, upd, hi, ix, ld, ec, w1, st, fillL, -Int.natCast_add]
              exact hJ _ hi ⟨hi, by simp, rfl, by simp [gL, upd], by simp [hT]⟩
            · rw [if_neg hc, Nat.add_zero] at hT
              generalize cmpV k y x = cv at *
              simp [g84_0, hM, g31, g8, gh, gL, upd, hi, ix, ld, ec, hc, st, fillL, -Int.natCast_add]
              exact hJ _ hi ⟨hi, by simp, rfl, by simp [gL, upd], by simp [g8, hT]⟩
          · have : i = l.length := by omega
            subst this
            rw [List.take_length] at g8
            simp [g84_0, hM, g31, g8, gh]
            exact hR
      · have hB : cntB l k x = false := by rw [cntB, decide_eq_false hk, Bool.and_false, Bool.false_and]
        rw [cntR, hB] at hR
        simp [g84, upd, hs.len, h40, e1, hk, fillL, -Bool.decide_and]
        exact hR
end GL

namespace GL
open Go

end GL

namespace GL
open Go

end GL

namespace GL
open Go

theorem sameRow_same {h : Heap} {v w : V} {r : Rw} {F G : List Nat} (hr : RwV h v r F) (ht : RwV h w r G) : call p 65 [v, w] h = some (.bool true, h) := by
  obtain ⟨x, rfl, hx⟩ := hr
  obtain ⟨y, rfl, hy⟩ := ht
  refine go_eq (fn := g65) rfl rfl fun R hR => ?_
  simp [g65, fillL, upd, hx.cells, hx.cell, hy.cells, hy.cell, hx.len, hy.len]
  refine Wc_upM (M := [4, 5, 23, 24, 25, 26, 27, 28, 29, 30, 31, 32, 33, 34, 35, 36, 37]) rfl r.cols.length (fun i s => s.σ 23 = .v (vi i) ∧ s.h = h ∧ s.L 2 = (1, [vi r.key, x]) ∧ s.L 3 = (1, [vi r.key, y])) 0 (by simp [upd]) fun i s ⟨g23, gh, c2, c3⟩ hM J hJ => ?_
  by_cases hn : i < r.cols.length
  · simp [g65_0, hM, g23, gh, c2, c3, hn, upd, eqCells, hx.idx, hy.idx, hx.sl.loadV i hn, hy.sl.loadV i hn, hx.step hn]
    exact hJ _ hn ⟨by simp, rfl, c2, c3⟩
  · simp [g65_0, hM, g23, gh, hn]
    exact hR

theorem sameTable_same {h : Heap} {v w : V} {xs : List Rw} {F G : List Nat} (hs : SdF h v xs F) (ht : SdF h w xs G) : call p 61 [v, w] h = some (.bool true, h) := by
  refine go_eq (fn := g61) rfl rfl fun R hR => ?_
  simp [g61, hs.len, ht.len]
  refine Wc_upM (M := [4, 5, 13, 14, 15, 16, 17, 18, 19, 20, 21, 22, 23, 24, 25, 26]) rfl xs.length (fun i s => s.σ 13 = .v (vi i) ∧ s.h = h) 0 (by simp) fun i s ⟨g13, gh⟩ hM J hJ => ?_
  by_cases hn : i < xs.length
  · obtain ⟨x, F2, e1, hx, _⟩ := hs.loadR i hn
    obtain ⟨y, G2, e2, hy, _⟩ := ht.loadR i hn
    have e3 := sameRow_same (r := xs[i]) ⟨x, rfl, hx⟩ ⟨y, rfl, hy⟩
    simp [g61_0, hM, g13, gh, hn, hs.idx, ht.idx, e1, e2, e3, upd, hs.step hn]
    exact hJ _ hn ⟨by simp, rfl⟩
  · simp [g61_0, hM, g13, gh, hn]
    exact hR

end GL

namespace GL
open Go

end GL

namespace GL
open Go

section
variable {α : Type} [Data α] {h : Heap} {v w : V} {xs zs : List α} {lo : Nat} {F G : List Nat}
theorem Od.appS (ho : Od lo h v xs F) (hs : SdF h w zs G) (hG : ∀ b ∈ G, ¬ vB v b) {bytes : Nat} (hb : bytes ≤ 2 ^ 8) (hl : xs.length + zs.length ≤ 2 ^ 30) {k : Nat} (hk : k = Data.sz α) :
    ∃ ys v' h' G', GL.rdS h k w zs.length = some ys ∧ appH k bytes v zs.length ys h = some (v', h') ∧ Od lo h' v' (xs ++ zs) (F ++ G') ∧ (∀ b ∈ G', b ∈ G) ∧ KeepsP (fun i => ¬ vB v i) h h' ∧ h.length ≤ h'.length := by
  obtain ⟨cs, G', e, hr, hm⟩ := hs.rdS
  subst hk
  by_cases h0 : zs.length = 0
  · have hz : zs = [] := List.length_eq_zero_iff.1 h0
    subst hz
    obtain ⟨rfl, rfl⟩ := hr
    obtain ⟨F', hsd, _⟩ := ho.sd
    have := hsd.len
    exact ⟨[], v, h, [], e, by simp [appH, this], by simpa using ho, by simp, KeepsP.refl _ _, Nat.le_refl _⟩
  · obtain ⟨v', h', e1, o', k', l', _⟩ := ho.app (zs := zs) (by omega) hr (fun b hb => hG b (hm b hb)) hb hl rfl rfl
    exact ⟨cs, v', h', G', e, e1, o', hm, k', by omega⟩
end

def insR (xs : List Rw) (r : Rw) : List Rw := (xs.filter fun x => decide (x.key < r.key)) ++ [r] ++ xs.filter fun x => decide (r.key < x.key)
theorem ins_eq {xs : List Rw} {r : Rw} (hup : xs.Pairwise upR) {k : Nat} (h1 : ∀ x ∈ (xs.filter fun x => decide (x.key ≠ r.key)).take k, x.key < r.key)
    (h2 : ∀ (hk : k < (xs.filter fun x => decide (x.key ≠ r.key)).length), ¬ (xs.filter fun x => decide (x.key ≠ r.key))[k].key < r.key) :
    (xs.filter fun x => decide (x.key ≠ r.key)).take k ++ [r] ++ (xs.filter fun x => decide (x.key ≠ r.key)).drop k = insR xs r := by
  have hd : (xs.filter fun x => decide (x.key ≠ r.key)).Pairwise upR := hup.filter _
  have hne : ∀ x ∈ (xs.filter fun x => decide (x.key ≠ r.key)), x.key ≠ r.key := fun x hx => by simpa using (List.mem_filter.1 hx).2
  have f1 : (xs.filter fun x => decide (x.key < r.key)) = (xs.filter fun x => decide (x.key ≠ r.key)).filter fun x => decide (x.key < r.key) := by
    rw [List.filter_filter]; congr 1; funext x; simp; omega
  have f2 : (xs.filter fun x => decide (r.key < x.key)) = (xs.filter fun x => decide (x.key ≠ r.key)).filter fun x => decide (r.key < x.key) := by
    rw [List.filter_filter]; congr 1; funext x; simp; omega
  rw [insR, f1, f2]
  generalize (xs.filter fun x => decide (x.key ≠ r.key)) = ds at *
  have h3 : ∀ x ∈ ds.drop k, r.key < x.key := fun x hx => by
    obtain ⟨i, hi, rfl⟩ := List.getElem_of_mem hx
    rw [List.length_drop] at hi
    rw [List.getElem_drop]
    have hk : k < ds.length := by omega
    have a := h2 hk
    have b := up_le hd (a := k) (b := k + i) hk (by omega) (by omega)
    have c := hne ds[k + i] (List.getElem_mem _)
    omega
  have t1 : ds.filter (fun x => decide (x.key < r.key)) = ds.take k := by
    conv => lhs; rw [← List.take_append_drop k ds]
    rw [List.filter_append, List.filter_eq_self.2 (by simpa using h1), List.filter_eq_nil_iff.2 (fun x hx => by have := h3 x hx; simp; omega), List.append_nil]
  have t2 : ds.filter (fun x => decide (r.key < x.key)) = ds.drop k := by
    conv => lhs; rw [← List.take_append_drop k ds]
    rw [List.filter_append, List.filter_eq_nil_iff.2 (fun x hx => by have := h1 x hx; simp; omega), List.filter_eq_self.2 (fun x hx => by simpa using h3 x hx), List.nil_append]
  rw [t1, t2]

theorem l2Put_ok {h : Heap} {v w : V} {xs : List Rw} {F G : List Nat} (hs : SdF h v xs F) (hup : xs.Pairwise upR) {r : Rw} (hr : RwV h w r G) (hl : xs.length ≤ 2 ^ 20) :
    ∃ u h', call p 120 [v, w] h = some (u, h') ∧ ∃ G', SdF h' u (insR xs r) G' ∧ Keeps h h' ∧ h.length ≤ h'.length := by
  obtain ⟨x, rfl, hx⟩ := hr
  refine go (fn := g120) rfl rfl fun R hR => ?_
  obtain ⟨d, h1, e1, G1, c1, k1, l1⟩ := l2Drop_ok hs hl r.key
  have hx1 := hx.keep k1
  have hlen := c1.len
  have hins := fun k => ins_eq (r := r) hup (k := k)
  have hdl : (xs.filter fun x => decide (x.key ≠ r.key)).length ≤ 2 ^ 20 := Nat.le_trans (List.length_filter_le ..) hl
  generalize hds : (xs.filter fun x => decide (x.key ≠ r.key)) = ds at *
  simp only [g120]
  simp [fillL, upd, hx.cells, hx.cell, e1]
  refine Wc_upM (M := [5, 11, 12, 13, 14, 15, 16, 17, 18, 19, 20, 21, 22, 23, 24, 25, 26]) rfl ds.length (fun i s => i ≤ ds.length ∧ s.σ 5 = .v (vi i) ∧ s.h = h1 ∧ s.L 3 = (1, [vi r.key, x]) ∧ ∀ y ∈ ds.take i, y.key < r.key) 0
    (by simp [upd]) fun i s ⟨gi, g5, gh, gL, hall⟩ hM J hJ => ?_
  by_cases hc : ∃ hn : i < ds.length, ds[i].key < r.key
  · obtain ⟨hn, hlt⟩ := hc
    have e2 := c1.loadKey i hn
    simp [g120_0, hM, g5, gh, gL, hlen, hn, c1.idx, e2, hlt, c1.step hn]
    exact hJ _ hn ⟨hn, by simp, rfl, gL, (all_take_succ hn).2 ⟨hall, hlt⟩⟩
  · have hend := hins i hall fun hk hlt => hc ⟨hk, hlt⟩
    -- the three parts
    obtain ⟨v1, F1, s1, t1, m1, b1⟩ := c1.sub (lo := none) (hi := some i) (i := 0) (j := i) rfl rfl (Nat.zero_le _) gi (k := 2) rfl
    obtain ⟨v2, F2, s2, t2, m2, b2⟩ := c1.sub (lo := some i) (hi := none) (i := i) (j := ds.length) rfl rfl gi (Nat.le_refl _) (k := 2) rfl
    rw [List.drop_zero] at t1
    rw [List.take_length] at t2
    have ltG : ∀ b ∈ G1, b < h1.length := fun b hb => by obtain ⟨_, h1, _⟩ := c1.lt hb; exact get_lt h1
    have ltX : ∀ b ∈ G, b < h1.length := fun b hb => by obtain ⟨_, h1, _⟩ := hx1.lt hb; exact get_lt h1
    have ka : Keeps h1 (h1 ++ [⟨.own, []⟩]) := Keeps.append _ _
    have o0 : Od h1.length (h1 ++ [⟨.own, []⟩]) (.slice h1.length 0 0 (.k 0)) ([] : List Rw) [] := Od.empty (Nat.le_refl _) (by simp)
    have hl1 : (ds.take i).length = i := by simp; omega
    obtain ⟨ys1, w1, h2, H1, e3, e4, o1, n1, k2, l2⟩ := o0.appS (t1.keep ka) (fun b hb hv => by have := (o0.ge hv).1; have := ltG b (m1 b hb); omega) (bytes := 32) (by decide) (by simp; omega) (k := 2) rfl
    rw [hl1] at e3 e4
    have k02 : Keeps h1 h2 := Keeps.far (n := h1.length) ka k2 (Nat.le_refl _) fun i hi hv => by have := (o0.ge hv).1; omega
    have kl : Keeps h2 (h2 ++ [⟨.own, [vi r.key, x]⟩]) := Keeps.append _ _
    have o1' : Od h1.length (h2 ++ [⟨.own, [vi r.key, x]⟩]) w1 _ _ := o1.keeps (kl.p fun _ => True) (fun _ _ => trivial) (fun _ _ => trivial) (by simp)
    obtain ⟨w2, h3, e5, o2, k3, l3, _⟩ := o1'.app (zs := [r]) (ys := [vi r.key, x]) (G := G) (by simp) (.one ⟨x, rfl, hx1.keep (k02.trans kl)⟩) (fun b hb hv => by have := (o1.ge hv).1; have := ltX b hb; omega) (bytes := 32) (by decide) (by simp; omega) (k := 2) rfl (n := 1) rfl
    have k03 : Keeps h1 h3 := Keeps.far (n := h1.length) (k02.trans kl) k3 (Nat.le_refl _) fun i hi hv => by have := (o1.ge hv).1; omega
    have hl2 : (ds.drop i).length = ds.length - i := by simp
    obtain ⟨ys2, w3, h4, H2, e6, e7, o3, n3, k4, l4⟩ := o2.appS (t2.keep k03) (fun b hb hv => by have := (o2.ge hv).1; have := ltG b (m2 b hb); omega) (bytes := 32) (by decide) (by simp; omega) (k := 2) rfl
    rw [hl2] at e6 e7
    have k04 : Keeps h1 h4 := Keeps.far (n := h1.length) k03 k4 (Nat.le_refl _) fun i hi hv => by have := (o2.ge hv).1; omega
    obtain ⟨F', q, _⟩ := o3.sd
    simp only [List.nil_append] at q
    rw [hend] at q
    have len1 := t1.len
    have len2 := t2.len
    rw [hl1] at len1
    rw [hl2] at len2
    have fin : R w3 h4 := hR _ _ ⟨F', q, k1.trans k04, by simp at l2 l3 l4; omega⟩
    have step : ∀ (b : Bool), b = false → True := fun _ _ => trivial
    by_cases hn : i < ds.length
    · have hlt : ¬ ds[i].key < r.key := fun h => hc ⟨hn, h⟩
      have e2 := c1.loadKey i hn
      simp [g120_0, hM, g5, gh, gL, hlen, hn, c1.idx, e2, hlt, fillL, bounds, takeB, s1, s2, len1, len2, e3, e4, rdS_last, e5, e6, e7, hx1.cell]
      exact fin
    · simp [g120_0, hM, g5, gh, gL, hlen, hn, fillL, bounds, takeB, s1, s2, len1, len2, e3, e4, rdS_last, e5, e6, e7, hx1.cell]
      exact fin
end GL

namespace GL
open Go

def putT (xs : List Rw) (r : Rw) : List Rw := if (goodT xs && okR r && goodT (insR xs r)) = true then insR xs r else []
theorem PutRowS_ok {h : Heap} {v w : V} {xs : List Rw} {F G : List Nat} (hs : SdF h v xs F) {r : Rw} (hr : RwV h w r G) :
    ∃ u h', call p 55 [v, w] h = some (u, h') ∧ ∃ z G', u = .tup [z, .bool (goodT xs && okR r && goodT (insR xs r))] ∧ SdF h' z (putT xs r) G' ∧ Fresh h.length h' G' ∧ Keeps h h' ∧ h.length ≤ h'.length := by
  have hr0 := hr
  obtain ⟨x, rfl, hx⟩ := hr
  refine go (fn := g55) rfl rfl fun R hR => ?_
  have e0 := GoodTableS_eq hs
  have e1 := l2Row_eq hr0
  have bad : (goodT xs && okR r && goodT (insR xs r)) = false → R (.tup [.nils, .bool false]) h := fun hb => hR _ _ ⟨.nils, [], by rw [hb], by simpa [putT, hb] using SdF.nil, Fresh.nil, Keeps.refl _, Nat.le_refl _⟩
  cases hg : goodT xs with
  | false =>
    rw [hg] at e0
    simp [g55, fillL, upd, hx.cells, hx.cell, e0]
    exact bad (by simp [hg])
  | true =>
    rw [hg] at e0
    obtain ⟨g1, g2, g3⟩ := goodT_facts hg
    cases ho : okR r with
    | false =>
      rw [ho] at e1
      simp [g55, fillL, upd, hx.cells, hx.cell, e0, e1]
      exact bad (by simp [ho])
    | true =>
      rw [ho] at e1
      obtain ⟨u, h1, e2, G1, c1, k1, l1⟩ := l2Put_ok hs g2 hr0 (by omega)
      obtain ⟨_, h2, e3, z, G2, rfl, c2, f2, k2, l2⟩ := l2Tell_ok c1
      simp [g55, fillL, upd, hx.cells, hx.cell, e0, e1, e2, e3]
      exact hR _ _ ⟨z, G2, by rw [hg, ho]; rfl, by simpa only [putT, hg, ho, Bool.true_and] using c2, f2.mono l1, k1.trans k2, by omega⟩

theorem putT_len (xs : List Rw) (r : Rw) : (putT xs r).length ≤ 20 := by
  unfold putT
  split
  · rename_i hb
    simp only [Bool.and_eq_true] at hb
    exact (goodT_facts hb.2).2.2
  · simp

theorem DC.row {h0 h : Heap} {N : Nat} (d : DC h0 h N) (hN : N < 2 ^ 58) : ∃ v h', call p 125 [.ptr h0.length 0] h = some (v, h') ∧ ∃ (r : Rw) (G : List Nat), RwV h' v r G ∧ (∀ b ∈ G, h.length ≤ b) ∧ DC h0 h' (N + 50) ∧ KeepsBut h0.length h h' ∧ h.length ≤ h'.length := by
  obtain ⟨n, h1, e1, hn, d1, k1, l1⟩ := d.pick (by omega) 8 (by decide)
  obtain ⟨x1, h2, e2, d2, k2, l2⟩ := d1.small (by omega)
  obtain ⟨x2, h3, e3, d3, k3, l3⟩ := d2.small (by omega)
  obtain ⟨x3, h4, e4, d4, k4, l4⟩ := d3.small (by omega)
  have hlt := d.lt
  refine go (fn := g125) rfl rfl fun R hR => ?_
  have kb := ((k1.trans k2).trans k3).trans k4
  let cs : List V := [.bool x1.null, vi x1.n, .bool x2.null, vi x2.n, .bool x3.null, vi x3.n]
  have d5 := d4.lit [⟨.own, cs⟩]
  have kb5 := kb.trans (KeepsBut.lit (c := h0.length) (h := h4) [⟨.own, cs⟩])
  obtain ⟨q, h6, e6, hq, d6, k6, l6⟩ := d5.pick (by omega) 40 (by decide)
  have s5 : Sl (h4 ++ [⟨.own, cs⟩]) (.slice h4.length 0 3 (.k 3)) [x1, x2, x3] := Sl.lit [x1, x2, x3] 3 rfl cs rfl (.k 3) (by simp)
  obtain ⟨F, s5, hF, _⟩ := s5.sdF (Nat.le_refl 3)
  have hF4 : ∀ b ∈ F, b = h4.length := fun b hb => (hF b hb).1
  have s6 := s5.keeps (k6.P.mono fun b hb => by have := hF4 b hb; omega)
  have o6 : OwnB h6 h4.length := ⟨_, k6 _ _ (by omega) (get_last _ _) (by simp)⟩
  have kb6 := kb5.trans k6
  simp at l6
  have hG : ∀ b ∈ F, h.length ≤ b := fun b hb => by have := hF4 b hb; omega
  have base : ∀ key : Int, R (.agg [vi key, .slice h4.length 0 3 (.k 3)]) h6 := fun key => hR _ _ ⟨⟨key, [x1, x2, x3]⟩, F, ⟨_, rfl, s6⟩, hG, d6.mono (by omega), kb6, by omega⟩
  by_cases q0 : q = 0
  · subst q0
    obtain ⟨a, h7, e7, _, d7, k7, l7⟩ := d6.amongL (by omega) [-1, 999, 1000] 3 rfl [vi (-1), vi 999, vi 1000] rfl (.k 3) (by decide) (by decide)
    have s7 := s6.keeps (k7.P.mono fun b hb => by have := hF4 b hb; omega)
    simp [g125, fillL, upd, resV, mkV, e1, e2, e3, e4, e6, e7, takeB, cs]
    exact hR _ _ ⟨⟨a, [x1, x2, x3]⟩, F, ⟨_, rfl, s7⟩, hG, d7.mono (by omega), kb6.trans k7, by omega⟩
  · by_cases q1 : q = 1
    · subst q1
      obtain ⟨y, h7, e7, d7, k7, l7⟩ := d6.value (by omega)
      have s7 := s6.keeps (k7.P.mono fun b hb => by have := hF4 b hb; omega)
      obtain ⟨h8, e8, s8, k8, l8, _⟩ := s7.putF (o6.keeps k7.P (by omega)) (i := 0) (by simp) (x' := y) (o := 0) (ys := [.bool y.null, vi y.n]) (by simp [Flat.cells, lay])
      simp [bOf, oOf] at e8
      simp [g125, fillL, upd, resV, mkV, e1, e2, e3, e4, e6, e7, e8, idxV, cs]
      exact hR _ _ ⟨⟨n, [y, x2, x3]⟩, F, ⟨_, rfl, s8⟩, hG, (d7.far k8 fun i hi e => by simp [bOf] at e; omega).mono (by omega), (kb6.trans k7).far k8 fun i hi _ e => by simp [bOf] at e; omega, by omega⟩
    · by_cases q2 : q = 2
      · subst q2
        obtain ⟨v', F', e7, s7, m7, _⟩ := s6.sub (lo := some 1) (hi := none) (i := 1) (j := 3) rfl rfl (by decide) (by simp) (k := 2) rfl
        have hv := s7.cells
        have hv2 := s7.cell
        simp [g125, fillL, upd, resV, mkV, e1, e2, e3, e4, e6, bounds, takeB, e7, hv, hv2, cs]
        exact hR _ _ ⟨⟨n, [x2, x3]⟩, F', ⟨_, rfl, s7⟩, fun b hb => hG b (m7 b hb), d6.mono (by omega), kb6, by omega⟩
      · have q1' : ¬ (q : Int) = 1 := by omega
        have q2' : ¬ (q : Int) = 2 := by omega
        simp [g125, fillL, upd, resV, mkV, e1, e2, e3, e4, e6, q0, q1', q2', cs]
        exact base n
end GL

namespace GL
open Go

theorem SdF.putKey {h : Heap} {v : V} {xs : List Rw} {F : List Nat} (hs : SdF h v xs F) (hn : F.Nodup) (ho : OwnB h (bOf v)) {i : Nat} (hi : i < xs.length) (k : Int) :
    ∃ h', wrH h (bOf v) (oOf v + i * 2) [vi k] = some h' ∧ SdF h' v (xs.set i ⟨k, xs[i].cols⟩) F ∧ KeepsP (fun b => b ≠ bOf v) h h' ∧ h'.length = h.length := by
  obtain ⟨h1, e1, s1, k1, l1, _⟩ := hs.put hn ho hi (x' := ⟨k, xs[i].cols⟩) (o := 0) (ys := [vi k]) fun cs G hr hG => by
    obtain ⟨x, rfl, hx⟩ := hr
    exact ⟨[vi k, x], by simp [lay], fun h' hk => ⟨x, rfl, hx.keeps hk⟩⟩
  simp only [Nat.add_zero] at e1
  exact ⟨h1, e1, s1, k1, l1⟩
theorem SdF.inF {α : Type} [Data α] {h : Heap} {v : V} {xs : List α} {F : List Nat} (hs : SdF h v xs F) {i : Nat} (hi : i < xs.length) : bOf v ∈ F := by
  obtain ⟨_, _, _, _, _, _, hF⟩ := hs.load i hi
  rw [hF]; simp

theorem DC.table {h0 h : Heap} {N : Nat} (d : DC h0 h N) (hN : N < 2 ^ 57) : ∃ v h', call p 124 [.ptr h0.length 0] h = some (v, h') ∧ ∃ (xs : List Rw) (G : List Nat), SdF h' v xs G ∧ (∀ b ∈ G, h.length ≤ b) ∧ DC h0 h' (N + 2000) ∧ KeepsBut h0.length h h' ∧ h.length ≤ h'.length := by
  obtain ⟨n0, h1, e1, hn0, d1, k1, l1⟩ := d.pick (by omega) 7 (by decide)
  obtain ⟨b, h2, e2, d2, k2, l2⟩ := d1.one (by omega) 20 (by decide)
  have hlt := d.lt
  have kb2 := k1.trans k2
  refine go (fn := g124) rfl rfl fun R hR => ?_
  have loop : ∀ (n : Nat) (s0 : S) (K : Ex → S → Prop), n ≤ 20 → s0.σ 5 = .v (vi 0) → s0.σ 4 = .v (vi n) → s0.σ 3 = .v .nils → s0.σ 0 = .v (.ptr h0.length 0) → s0.h = h2 →
      (∀ s' (xs : List Rw) v F, s'.σ 0 = .v (.ptr h0.length 0) → s'.σ 3 = .v v → SdF s'.h v xs F → Fresh h.length s'.h F → xs.length ≤ 20 → DC h0 s'.h (N + 1500) → KeepsBut h0.length h s'.h → h.length ≤ s'.h.length → K (.exit 0) s') → Wc p (.loop g124_0) s0 K := by
    intro n s0 K hn g5 g4 g3 g0 gh hK
    refine Wc_upM (M := [3, 5, 6, 7, 8, 13, 14, 15, 16, 17, 18, 19, 20, 21, 22, 23, 24, 25, 26, 27, 28, 29, 30, 31]) rfl n (fun i s => i ≤ n ∧ s.σ 5 = .v (vi i) ∧ ∃ (xs : List Rw) (v : V) (F : List Nat), s.σ 3 = .v v ∧ SdF s.h v xs F ∧ Fresh h.length s.h F ∧ xs.length ≤ 20 ∧ DC h0 s.h (N + 4 + i * 50) ∧ KeepsBut h0.length h s.h ∧ h.length ≤ s.h.length) 0
      ⟨Nat.zero_le _, g5, [], .nils, [], g3, SdF.nil, Fresh.nil, by simp, by simpa [gh] using d2, by rw [gh]; exact kb2, by rw [gh]; omega⟩ fun i s ⟨gi, g5, xs, v, F, g3, hs, fr, hx, d, kb, hl⟩ hM J hJ => ?_
    by_cases hi : i < n
    · have w1 : IntKind.i64.wrap ((i : Int) + 1) = (i + 1 : Nat) := by rw [IntWalk.i64_in] <;> omega
      obtain ⟨_, h4, e4, r, G, ⟨x, rfl, hr⟩, hG, d4, k4, l4⟩ := d.row (by omega)
      have hs4 := hs.keeps (k4.P.mono fun b hb => by have := fr.ge b hb; omega)
      have fr4 := fr.keeps (k4.P.mono fun b hb => by have := fr.ge b hb; omega)
      have put : ∀ key : Int, ∃ z h5 G', call p 55 [v, .agg [vi key, x]] h4 = some (.tup [z, .bool (goodT xs && okR ⟨key, r.cols⟩ && goodT (insR xs ⟨key, r.cols⟩))], h5) ∧ SdF h5 z (putT xs ⟨key, r.cols⟩) G' ∧ Fresh h4.length h5 G' ∧ Keeps h4 h5 ∧ h4.length ≤ h5.length := fun key => by
        obtain ⟨_, h5, e5, z, G', rfl, q⟩ := PutRowS_ok hs4 (r := ⟨key, r.cols⟩) (w := .agg [vi key, x]) ⟨x, rfl, hr⟩
        exact ⟨z, h5, G', e5, q⟩
      obtain ⟨key, hkey⟩ : ∃ key : Int, key = if (n : Int) = 20 then (i : Int) else r.key := ⟨_, rfl⟩
      obtain ⟨z, h5, G', e5, s5, f5, k5, l5⟩ := put key
      have dn := (d4.keeps k5).mono (M := N + 4 + (i + 1) * 50) (by omega)
      have kbn := (kb.trans k4).trans (k5.but h0.length)
      have good : ∀ t : S, t.h = h5 → t.σ 5 = .v (vi ((i : Int) + 1)) → (t.σ 3 = .v z ∨ t.σ 3 = .v v) → J t := fun t th t5 t3 => by
        rcases t3 with t3 | t3
        · exact hJ _ hi ⟨hi, t5, putT xs ⟨key, r.cols⟩, z, G', t3, by rw [th]; exact s5, by rw [th]; exact f5.mono (by omega), putT_len _ _, by rw [th]; exact dn, by rw [th]; exact kbn, by rw [th]; omega⟩
        · exact hJ _ hi ⟨hi, t5, xs, v, F, t3, by rw [th]; exact hs4.keep k5, by rw [th]; exact fr4.keeps (k5.p _), hx, by rw [th]; exact dn, by rw [th]; exact kbn, by rw [th]; omega⟩
      cases hok : (goodT xs && okR ⟨key, r.cols⟩ && goodT (insR xs ⟨key, r.cols⟩)) with
      | false =>
        rw [hok] at e5
        by_cases h20 : (n : Int) = 20
        · rw [if_pos h20] at hkey; subst hkey
          have hi20 : (i : Int) < 20 := by omega
          simp [g124_0, hM, g0, g5, g4, g3, hi, e4, e5, h20, hi20, fillL, upd, hr.cell, w1]
          exact good _ rfl (by simp) (.inr (by simp [g3]))
        · rw [if_neg h20] at hkey; subst hkey
          simp [g124_0, hM, g0, g5, g4, g3, hi, e4, e5, h20, fillL, upd, hr.cell, w1]
          exact good _ rfl (by simp) (.inr (by simp [g3]))
      | true =>
        rw [hok] at e5
        by_cases h20 : (n : Int) = 20
        · rw [if_pos h20] at hkey; subst hkey
          have hi20 : (i : Int) < 20 := by omega
          simp [g124_0, hM, g0, g5, g4, g3, hi, e4, e5, h20, hi20, fillL, upd, hr.cell, w1]
          exact good _ rfl (by simp) (.inl (by simp))
        · rw [if_neg h20] at hkey; subst hkey
          simp [g124_0, hM, g0, g5, g4, g3, hi, e4, e5, h20, fillL, upd, hr.cell, w1]
          exact good _ rfl (by simp) (.inl (by simp))
    · simp [g124_0, hM, g5, g4, hi]
      exact hK _ xs v F (by simp [hM, g0]) (by simp [g3]) hs fr hx (d.mono (by omega)) kb hl
  have tail : ∀ (s' : S) (xs : List Rw) v F, s'.σ 0 = .v (.ptr h0.length 0) → s'.σ 3 = .v v → SdF s'.h v xs F → Fresh h.length s'.h F → xs.length ≤ 20 → DC h0 s'.h (N + 1500) → KeepsBut h0.length h s'.h → h.length ≤ s'.h.length →
      (R v s'.h) ∧ (0 < xs.length → ∃ (q : Bool) (h4 : Heap) (a : Int) (h5 : Heap) (h6 : Heap), call p 92 [.ptr h0.length 0, vi 30] s'.h = some (.bool q, h4) ∧ R v h4 ∧ call p 93 [.ptr h0.length 0, .slice h4.length 0 3 (.k 3)] (h4 ++ [⟨.own, [vi 0, vi 999, vi 1000]⟩]) = some (vi a, h5) ∧ wrH h5 (bOf v) (oOf v + (xs.length - 1) * 2) [vi a] = some h6 ∧ R v h6) := by
    intro s' xs v F g0 g3 hs fr hx d kb hl
    have ne : ∀ b ∈ F, b ≠ h0.length := fun b hb => by have := fr.ge b hb; omega
    refine ⟨hR _ _ ⟨xs, F, hs, fr.ge, d.mono (by omega), kb, hl⟩, fun hp => ?_⟩
    obtain ⟨q, h4, e4, d4, k4, l4⟩ := d.one (by omega) 30 (by decide)
    obtain ⟨a, h5, e5, _, d5, k5, l5⟩ := d4.amongL (by omega) [0, 999, 1000] 3 rfl [vi 0, vi 999, vi 1000] rfl (.k 3) (by decide) (by decide)
    have hs4 := hs.keeps (k4.P.mono ne)
    have hs5 := hs4.keeps (k5.P.mono ne)
    have fr5 := (fr.keeps (k4.P.mono ne)).keeps (k5.P.mono ne)
    have hb := hs5.inF (i := xs.length - 1) (by omega)
    obtain ⟨h6, e6, s6, k6, l6⟩ := hs5.putKey fr5.nodup (fr5.own _ hb) (i := xs.length - 1) (by omega) a
    have hge := fr.ge _ hb
    refine ⟨q, h4, a, h5, h6, e4, hR _ _ ⟨xs, F, hs4, fr.ge, d4.mono (by omega), kb.trans k4, by omega⟩, e5, e6, hR _ _ ⟨_, F, s6, fr.ge, (d5.far k6 fun i hi e => by omega).mono (by omega), ((kb.trans k4).trans k5).far k6 fun i hi _ e => by omega, by omega⟩⟩
  have hn7 : n0 ≤ 20 := by omega
  cases b
  · simp [g124, e1, e2]
    refine loop n0 _ _ hn7 (by simp) (by simp) (by simp) (by simp) rfl fun s' xs v F g0 g3 hs fr hx d kb hl => ?_
    obtain ⟨r1, r2⟩ := tail s' xs v F g0 g3 hs fr hx d kb hl
    by_cases hp : 0 < xs.length
    · obtain ⟨q, h4, a, h5, h6, e4, r4, e5, e6, r6⟩ := r2 hp
      have w1 : IntKind.i64.wrap ((xs.length : Int) - 1) = (xs.length - 1 : Nat) := by rw [IntWalk.i64_in] <;> omega
      cases q
      · simp [g0, g3, hs.len, hp, e4]; exact r4
      · simp [g0, g3, hs.len, hp, e4, fillL, e5, w1, hs.idx 2 .i64 (xs.length - 1) (by omega), e6]; exact r6
    · simp [g0, g3, hs.len, hp]; exact r1
  · simp [g124, e1, e2]
    refine loop 20 _ _ (Nat.le_refl _) (by simp) (by simp) (by simp) (by simp) rfl fun s' xs v F g0 g3 hs fr hx d kb hl => ?_
    obtain ⟨r1, r2⟩ := tail s' xs v F g0 g3 hs fr hx d kb hl
    by_cases hp : 0 < xs.length
    · obtain ⟨q, h4, a, h5, h6, e4, r4, e5, e6, r6⟩ := r2 hp
      have w1 : IntKind.i64.wrap ((xs.length : Int) - 1) = (xs.length - 1 : Nat) := by rw [IntWalk.i64_in] <;> omega
      cases q
      · simp [g0, g3, hs.len, hp, e4]; exact r4
      · simp [g0, g3, hs.len, hp, e4, fillL, e5, w1, hs.idx 2 .i64 (xs.length - 1) (by omega), e6]; exact r6
    · simp [g0, g3, hs.len, hp]; exact r1
end GL

namespace GL
open Go

theorem CountWhereS_eq {h : Heap} {v : V} {l : List Val} (hs : Sl h v l) (k : Int) (x : Val) : call p 85 [v, vi k, vv x] h = some (cntR l k x, h) := by
  have e1 := l4Values_eq hs
  refine go_eq (fn := g85) rfl rfl fun R hR => ?_
  cases ha : (l.all okV && decide (l.length ≤ 40)) with
  | false =>
    have hB : cntB l k x = false := by rw [cntB, ha]; rfl
    rw [cntR, hB] at hR
    rw [ha] at e1
    simp [g85, upd, e1, fillL]
    exact hR
  | true =>
    rw [ha] at e1
    have hl40 : l.length ≤ 40 := by simp only [Bool.and_eq_true, decide_eq_true_eq] at ha; exact ha.2
    by_cases hk : 0 ≤ k ∧ k ≤ 2
    · cases hx : okV x with
      | false =>
        have hB : cntB l k x = false := by rw [cntB, hx, Bool.and_false]
        rw [cntR, hB] at hR
        simp [g85, upd, e1, hk, hx, fillL]
        exact hR
      | true =>
        have hB : cntB l k x = true := by rw [cntB, ha, hx, decide_eq_true hk]; rfl
        rw [cntR, hB, if_pos rfl] at hR
        simp [g85, upd, hs.len, e1, hk, hx, fillL]
        refine Wc_upM (M := [8, 10, 26, 27, 28, 29, 30, 31, 32, 33, 34, 35, 36, 37]) rfl l.length (fun i s => i ≤ l.length ∧ s.σ 26 = .v (vi i) ∧ s.h = h ∧ s.L 5 = (1, [.bool x.null, vi x.n]) ∧ s.σ 8 = .v (vi (cntN (l.take i) k x))) 0 ⟨by omega, by simp, rfl, by simp [upd], by simp [cntN]⟩ fun i s ⟨gi, g31, gh, gL, g8⟩ hM J hJ => ?_
        by_cases hi : i < l.length
        · have ix := hs.idx 2 .i64 i hi
          have ld := hs.loadV i hi
          have st := hs.step hi
          have ec := l1Compare_eq k l[i] x h
          have hT := cnt_take l k x hi
          have hcl : cntN (l.take i) k x ≤ 40 := by
            have := List.length_filter_le (fun y => decide (cmpV k y x = 2)) (l.take i)
            rw [List.length_take] at this
            unfold cntN; omega
          have w1 : IntKind.i64.wrap ((cntN (l.take i) k x : Int) + 1) = (cntN (l.take i) k x + 1 : Nat) := by rw [IntWalk.i64_in] <;> omega
          generalize l[i] = y at *
          generalize cntN (l.take i) k x = c at *
          by_cases hc : cmpV k y x = 2
          · rw [if_pos hc] at hT
            rw [hc] at ec
            simp [g85_0, hM, g31, g8, gh, gL, upd, hi, ix, ld, ec, w1, st, fillL, -Int.natCast_add]
            exact hJ _ hi ⟨hi, by simp, rfl, by simp [gL, upd], by simp [hT]⟩
          · rw [if_neg hc, Nat.add_zero] at hT
            generalize cmpV k y x = cv at *
            simp [g85_0, hM, g31, g8, gh, gL, upd, hi, ix, ld, ec, hc, st, fillL, -Int.natCast_add]
            exact hJ _ hi ⟨hi, by simp, rfl, by simp [gL, upd], by simp [g8, hT]⟩
        · have : i = l.length := by omega
          subst this
          rw [List.take_length] at g8
          simp [g85_0, hM, g31, g8, gh]
          exact hR
    · have hB : cntB l k x = false := by rw [cntB, decide_eq_false hk, Bool.and_false, Bool.false_and]
      rw [cntR, hB] at hR
      simp [g85, upd, e1, hk, fillL, -Bool.decide_and]
      exact hR
theorem kind_in {a b : Nat} (ha : (a : Int) < max 4 1) (hb : (b : Int) < max 9 1) : IntKind.i64.wrap ((a : Int) - (IntKind.i64.wrap ((b : Int).tdiv 8))) = (a : Int) - (b : Int).tdiv 8 := by
  have h1 : (b : Int).tdiv 8 = (b : Int) / 8 := Int.tdiv_eq_ediv_of_nonneg (by omega)
  have w : IntKind.i64.wrap ((b : Int) / 8) = (b : Int) / 8 := by rw [IntWalk.i64_in] <;> omega
  rw [h1, w]
  rw [IntWalk.i64_in] <;> omega
theorem drawByGroup_ok {h : Heap} {v : V} {bs : List Byte} (hs : Sl h v bs) : ∃ o h', call p 77 [v] h = some (o, h') ∧ ∃ (t : V) (xs : List Rw) (F : List Nat) (a b : Int), o = .tup [t, vi a, vi b] ∧ SdF h' t xs F ∧ Keeps h h' ∧ h.length ≤ h'.length := by
  have d0 := DC.start hs
  obtain ⟨t, h1, e1, xs, G, s1, g1, d1, k1, l1⟩ := d0.table (by decide)
  obtain ⟨a, h2, e2, ha, d2, k2, l2⟩ := d1.pick (by decide) 4 (by decide)
  obtain ⟨b, h3, e3, hb, d3, k3, l3⟩ := d2.pick (by decide) 9 (by decide)
  obtain ⟨c, h4, e4, hc, d4, k4, l4⟩ := d3.pick (by decide) 4 (by decide)
  have w1 : IntKind.i64.wrap ((b : Int).tdiv 8) = (b : Int).tdiv 8 := by
    have h1 : (b : Int).tdiv 8 = (b : Int) / 8 := Int.tdiv_eq_ediv_of_nonneg (by omega)
    rw [h1]
    rw [IntWalk.i64_in] <;> omega
  have w2 : IntKind.i64.wrap ((a : Int) - (b : Int).tdiv 8) = (a : Int) - (b : Int).tdiv 8 := by
    have := kind_in ha hb
    rwa [w1] at this
  have nG : ∀ b ∈ G, b ≠ h.length := fun b hb => by have := g1 b hb; simp at this; omega
  have kb := ((k2.trans k3).trans k4)
  refine go (fn := g77) rfl rfl fun R hR => ?_
  simp at l1
  simp [g77, hs.cells, hs.cell, fillL, e1, e2, e3, e4, w1, w2]
  exact hR _ _ ⟨t, xs, G, _, _, rfl, s1.keeps (kb.P.mono nG), d4.keep, by omega⟩
end GL

namespace GL
open Go

theorem drawCount_ok {h : Heap} {v : V} {bs : List Byte} (hs : Sl h v bs) : ∃ o h', call p 83 [v] h = some (o, h') ∧ ∃ (t : V) (xs : List Val) (a : Int) (x : Val), o = .tup [t, vi a, vv x] ∧ Sl h' t xs ∧ Keeps h h' ∧ h.length ≤ h'.length := by
  have d0 := DC.start hs
  have lt0 := d0.lt
  obtain ⟨t, h1, e1, xs, o1, _, d1, k1, l1⟩ := d0.values (by decide)
  obtain ⟨a, h2, e2, ha, d2, k2, l2⟩ := d1.pick (by decide) 4 (by decide)
  obtain ⟨b, h3, e3, hb, d3, k3, l3⟩ := d2.pick (by decide) 9 (by decide)
  obtain ⟨x, h4, e4, d4, k4, l4⟩ := d3.value (by decide)
  have w1 : IntKind.i64.wrap ((b : Int).tdiv 8) = (b : Int).tdiv 8 := by
    have h1 : (b : Int).tdiv 8 = (b : Int) / 8 := Int.tdiv_eq_ediv_of_nonneg (by omega)
    rw [h1]
    rw [IntWalk.i64_in] <;> omega
  have w2 : IntKind.i64.wrap ((a : Int) - (b : Int).tdiv 8) = (a : Int) - (b : Int).tdiv 8 := by
    have := kind_in ha hb
    rwa [w1] at this
  have kb := ((k2.trans k3).trans k4)
  have o4 := kb.out o1 (by omega) (by omega)
  refine go (fn := g83) rfl rfl fun R hR => ?_
  simp at l1
  simp [g83, upd, hs.cells, hs.cell, fillL, e1, e2, e3, e4, w1, w2, resV, mkV]
  exact hR _ _ ⟨t, xs, _, x, rfl, o4.sl, d4.keep, by omega⟩
end GL

namespace GL
open Go

theorem SdF.putV {h : Heap} {v : V} {xs : List Val} {F : List Nat} (hs : SdF h v xs F) (ho : ∀ b ∈ F, OwnB h b) {i : Nat} (hi : i < xs.length) (x : Val) :
    ∃ h', wrH h (bOf v) (oOf v + i * 2) [.bool x.null, vi x.n] = some h' ∧ SdF h' v (xs.set i x) F ∧ KeepsP (fun b => b ≠ bOf v) h h' ∧ h'.length = h.length ∧ ∀ b, OwnB h b → OwnB h' b := by
  obtain ⟨h', e, r⟩ := hs.putF (ho _ (hs.bIn hi)) hi (x' := x) (o := 0) (ys := [.bool x.null, vi x.n]) (by simp [Flat.cells, lay])
  refine ⟨h', ?_, r⟩
  simpa [Flat.sz] using e
end GL

namespace GL
open Go

/-- a number that puts values in order -/
def vkey (x : Val) : Int := if x.null then -2000 else x.n
theorem vkey_inj {a b : Val} (ha : okV a = true) (hb : okV b = true) (h : vkey a = vkey b) : a = b := by
  obtain ⟨a1, a2⟩ := a
  obtain ⟨b1, b2⟩ := b
  cases a1 <;> cases b1 <;> simp [okV, vkey] at ha hb h ⊢ <;> omega
theorem SdF.putTailV {h : Heap} {v : V} {zs : List Val} {F : List Nat} (hs : SdF h v zs F) (ho : OwnB h (bOf v)) {i : Nat} (hp : 0 < zs.length) (ys : List Val) (hl : i + ys.length = zs.length) :
    ∃ h', wrH h (bOf v) (oOf v + i * 2) (flats ys) = some h' ∧ SdF h' v (zs.take i ++ ys) F ∧ KeepsP (fun b => b ≠ bOf v) h h' ∧ h'.length = h.length ∧ ∀ b, OwnB h b → OwnB h' b := by
  rcases hs with ⟨hlen0, ⟨rfl, rfl, _⟩ | ⟨b, off, cap, rfl, hcap, hs⟩⟩
  · simp at hp
  · rcases hs with ⟨rfl, _⟩ | ⟨blk, cs, G, rfl, h1, h2, h3, h4⟩
    · simp at hp
    · obtain ⟨rfl, rfl⟩ := Reps.flat.1 h4
      obtain ⟨ds, hd⟩ := ho
      simp only [bOf, oOf] at hd ⊢
      rw [hd] at h1; cases h1
      have fz : (flats zs).length = zs.length * 2 := by rw [flats_len]; simp [Flat.sz]
      have fy : (flats ys).length = ys.length * 2 := by rw [flats_len]; simp [Flat.sz]
      have ft : (flats (zs.take i)).length = i * 2 := by rw [flats_len]; simp [Flat.sz]; omega
      have hsz : Data.sz Val = 2 := rfl
      unfold cut at h3
      split at h3
      case isFalse => cases h3
      rename_i hle2
      simp only [Option.some.injEq] at h3
      rw [hsz] at h3 hle2
      have hds : ds = ds.take off ++ flats zs ++ ds.drop (off + zs.length * 2) := by
        rw [← h3, ← List.drop_drop, List.append_assoc, List.take_append_drop, List.take_append_drop]
      have hol : (ds.take off).length = off := by simp; simp only at hle2; omega
      have hspl : flats zs = flats (zs.take i) ++ flats (zs.drop i) := by rw [← flats_append, List.take_append_drop]
      have hlay : lay (flats zs) (i * 2) (flats ys) = some (flats (zs.take i ++ ys)) := by
        unfold lay
        rw [if_pos (by omega), hspl, List.take_append_of_le_length (by omega), List.take_of_length_le (by omega), flats_append, List.drop_of_length_le (by rw [← hspl]; omega), List.append_nil]
      have hl3 := layMid (a := ds.take off) (b := ds.drop (off + zs.length * 2)) hlay
      rw [← hds, hol] at hl3
      have hb := get_lt hd
      have hk : KeepsP (fun c => c ≠ b) h (h.set b ⟨.own, ds.take off ++ flats (zs.take i ++ ys) ++ ds.drop (off + zs.length * 2)⟩) := fun c blk hc hb2 _ => by
        rw [List.getElem?_set_ne (Ne.symm hc)]; exact hb2
      have hnl : (zs.take i ++ ys).length = zs.length := by simp; omega
      have fn : (flats (zs.take i ++ ys)).length = zs.length * 2 := by rw [flats_len]; simp [Flat.sz]; omega
      refine ⟨_, by rw [wrH_at hd rfl, hl3]; rfl, ⟨by rw [hnl]; exact hlen0, .inr ⟨b, off, cap, by rw [hnl], by rw [hnl]; exact hcap, .inr ⟨⟨.own, ds.take off ++ flats (zs.take i ++ ys) ++ ds.drop (off + zs.length * 2)⟩, flats (zs.take i ++ ys), [], rfl, by simp [hb], by simp, ?_, Reps.flat.2 ⟨rfl, rfl⟩⟩⟩⟩, hk, by simp, fun c hc => hc.set hb⟩
      rw [hnl, hsz]
      simp only [cut]
      rw [if_pos (by simp only [List.length_append, fn, hol, List.length_drop]; simp only at hle2; omega), List.append_assoc, List.drop_append_of_le_length (by omega), List.drop_of_length_le (by omega), List.nil_append, List.take_append_of_le_length (by omega), List.take_of_length_le (by omega)]

theorem clearV {h : Heap} {v : V} {zs : List Val} {F : List Nat} (hs : SdF h v zs F) (ho : ∀ b ∈ F, OwnB h b) {i : Nat} (hi : i < zs.length) :
    ∃ v1 h' v2 F', slcV 2 v (some i) none none = some v1 ∧ eop (call p) (.clear 2 [.bool false, vi 0]) [.v v1] h = some (.tup [], h') ∧ slcV 2 v none (some i) none = some v2 ∧ SdF h' v2 (zs.take i) F' ∧ (∀ x ∈ F', x ∈ F) ∧ KeepsP (fun b => b ≠ bOf v) h h' ∧ h'.length = h.length ∧ ∀ b, OwnB h b → OwnB h' b := by
  obtain ⟨h', e1, s1, k1, l1, o1⟩ := hs.putTailV (ho _ (hs.bIn hi)) (i := i) (by omega) (List.replicate (zs.length - i) zV) (by simp; omega)
  obtain ⟨v2, F2, e2, s2, m2, _⟩ := s1.sub (lo := none) (hi := some i) (i := 0) (j := i) rfl rfl (Nat.zero_le _) (by simp; omega) (k := 2) rfl
  have ht : ((zs.take i ++ List.replicate (zs.length - i) zV).take i).drop 0 = zs.take i := by
    rw [List.drop_zero, List.take_append_of_le_length (by simp; omega), List.take_of_length_le (by simp; omega)]
  rw [ht] at s2
  have hz : flats (List.replicate (zs.length - i) zV) = (List.replicate (zs.length - i) [.bool false, vi 0]).flatten := by
    generalize zs.length - i = n
    induction n with
    | zero => rfl
    | succ n ih => rw [List.replicate_succ, List.replicate_succ, List.flatten_cons, ← ih]; rfl
  rcases hs with ⟨hb, ⟨rfl, rfl, rfl⟩ | ⟨b, off, cap, rfl, hc, _⟩⟩
  · simp at hi
  · have s1' : ∃ cap1, slcV 2 (.slice b off zs.length cap) (some i) none none = some (.slice b (off + i * 2) (zs.length - i) cap1) := by
      cases cap with
      | k c =>
        have hc : zs.length ≤ c := hc
        exact ⟨_, by simp only [slcV, Option.getD_some, Option.getD_none]; rw [if_pos ⟨by omega, by omega, Nat.le_refl _⟩, if_neg (by omega)]⟩
      | o k' =>
        have hc : k' = 2 := hc
        exact ⟨_, by simp only [slcV, Option.getD_some, Option.getD_none]; rw [if_pos ⟨hc, by omega, Nat.le_refl _⟩]⟩
    obtain ⟨cap1, s1'⟩ := s1'
    simp only [bOf, oOf] at e1
    refine ⟨_, h', v2, F2, s1', ?_, e2, s2, m2, k1, l1, o1⟩
    rw [eop_clear, if_neg (by omega), ← hz, e1]; rfl


end GL

namespace GL
open Go

/-- equal neighbours are made one -/
theorem compactV_ok {h : Heap} {v : V} {zs : List Val} {F : List Nat} {lo : Nat} (hs : SdF h v zs F) (fr : Fresh lo h F) (hsort : zs.Pairwise fun a b => vkey a ≤ vkey b) (hgood : ∀ x ∈ zs, okV x = true) :
    ∃ r h', call p 153 [v] h = some (r, h') ∧ ∃ ys G, SdF h' r ys G ∧ Fresh lo h' G ∧ (ys.Pairwise fun a b => vkey a < vkey b) ∧ (∀ x, x ∈ ys ↔ x ∈ zs) ∧ KeepsP (fun b => b ∉ F) h h' ∧ h'.length = h.length := by
  refine go (fn := g153) rfl rfl fun R hR => ?_
  have hbd := hs.bd
  by_cases h2 : zs.length < 2
  · have h2' : (zs.length : Int) < 2 := by omega
    simp [g153, hs.len, h2']
    refine hR _ _ ⟨zs, F, hs, fr, ?_, fun _ => Iff.rfl, KeepsP.refl _ _, rfl⟩
    rw [List.pairwise_iff_getElem]
    intro i j hi hj hij; omega
  · have h2' : ¬ (zs.length : Int) < 2 := by omega
    have hbF := hs.bIn (i := 0) (by omega)
    have srt : ∀ i j (hi : i < zs.length) (hj : j < zs.length), i ≤ j → vkey zs[i] ≤ vkey zs[j] := fun i j hi hj hij => by
      by_cases e : i = j
      · subst e; exact Int.le_refl _
      · exact (List.pairwise_iff_getElem.1 hsort) i j hi hj (by omega)
    simp only [g153]
    simp [hs.len, h2']
    refine Wc_upM (M := [2, 3, 4, 5, 10, 11, 12, 13, 14, 15, 16, 17, 18, 19, 20, 21, 22, 23, 24, 25, 26, 27, 28, 29, 30, 31, 32, 33, 34, 35, 36, 37, 38, 39, 40, 41, 42, 43, 44, 45, 46, 47, 48, 49, 50, 51, 52, 53, 54, 55, 56, 57, 58, 59]) rfl zs.length (fun k s => s.σ 3 = .v (vi k) ∧ s.h = h ∧ 1 ≤ k ∧ k ≤ zs.length ∧ ((zs.take k).Pairwise fun a b => vkey a < vkey b)) 1
      ⟨by simp, rfl, Nat.le_refl _, by omega, ?_⟩ fun k s ⟨g3, gh, k1, kl, q1⟩ hM J hJ => ?_
    · rw [List.pairwise_iff_getElem]
      intro i j hi hj hij; simp at hi hj; omega
    by_cases hn : k < zs.length
    · have wk : IntKind.i64.wrap ((k : Int) - 1) = (k - 1 : Nat) := by rw [IntWalk.i64_in] <;> omega
      have wk1 : IntKind.i64.wrap ((k : Int) + 1) = (k + 1 : Nat) := by rw [IntWalk.i64_in] <;> omega
      have hk1 : k - 1 < zs.length := by omega
      have ix := hs.idx 2 .i64 k hn
      have iy := hs.idx 2 .i64 (k - 1) hk1
      have l1 := hs.sl.loadV k hn
      have l2 := hs.sl.loadV (k - 1) hk1
      have ev := valv_eq zs[k] zs[k - 1]
      by_cases he : zs[k] = zs[k - 1]
      · -- from here on they are moved
        rw [decide_eq_true he] at ev
        obtain ⟨v2, F2, s1, s2, m2, _⟩ := hs.sub (lo := some k) (hi := none) (i := k) (j := zs.length) rfl rfl (by omega) (Nat.le_refl _) (k := 2) rfl
        rw [List.take_length] at s2
        have len2 := s2.len
        rw [List.length_drop] at len2
        -- where the part lies
        have hpos : ∀ t, k + t < zs.length → bOf v2 = bOf v ∧ oOf v2 = oOf v + k * 2 := fun _ _ => by
          rcases hs with ⟨_, ⟨rfl, rfl, rfl⟩ | ⟨b, off, cap, rfl, hc, _⟩⟩
          · simp at hn
          · cases cap with
            | k c =>
              simp only [slcV, Option.getD_some, Option.getD_none, Nat.mul_one] at s1
              split at s1
              · split at s1
                · injection s1 with s1; subst s1; rename_i hh; have hc : zs.length ≤ c := hc; simp only [bOf, oOf]; omega
                · injection s1 with s1; subst s1; exact ⟨rfl, rfl⟩
              · cases s1
            | o k' =>
              simp only [slcV, Option.getD_some, Option.getD_none, Nat.mul_one] at s1
              split at s1
              · injection s1 with s1; subst s1; exact ⟨rfl, rfl⟩
              · cases s1
        obtain ⟨hb2, ho2⟩ := hpos 0 (by omega)
        simp [g153_1, hM, g3, gh, hn, hs.len, wk, ix, iy, l1, l2, ev, bounds, takeB, s1]
        refine Wc_upM (M := [3, 5, 29, 30, 31, 32, 33, 34, 35, 36, 37, 38, 39, 40, 41, 42, 43, 44, 45, 46, 47, 48, 49, 50, 51, 52, 53]) rfl (zs.length - k) (fun j t => t.σ 5 = .v (vi j) ∧ 1 ≤ j ∧ j ≤ zs.length - k ∧ ∃ (m : Nat) (ys : List Val), t.σ 3 = .v (vi m) ∧ k ≤ m ∧ m ≤ k + j - 1 ∧ SdF t.h v ys F ∧ ys.length = zs.length ∧ ys.drop (k + j - 1) = zs.drop (k + j - 1) ∧ ((ys.take m).Pairwise fun a b => vkey a < vkey b) ∧ (∀ x, x ∈ ys.take m ↔ x ∈ zs.take (k + j)) ∧ KeepsP (fun b => b ≠ bOf v) h t.h ∧ t.h.length = h.length ∧ ∀ b, OwnB h b → OwnB t.h b) 1
          ⟨by simp, Nat.le_refl _, by omega, k, zs, by simp [g3], Nat.le_refl _, by omega, hs, rfl, rfl, q1, ?_, KeepsP.refl _ _, rfl, fun _ h => h⟩ fun j t ⟨g5, j1, jl, m, ys, g3', m1, m2', hy, hyl, hdr, hpw, hmem, hk, hl, ho⟩ hM2 J2 hJ2 => ?_
        · intro x
          rw [mem_take_succ hn]
          constructor
          · exact .inl
          · rintro (h | h)
            · exact h
            · rw [h, he]
              have : zs[k - 1] ∈ zs.take k := by
                rw [List.mem_take_iff_getElem]
                exact ⟨k - 1, by omega, rfl⟩
              exact this
        have hsub := hy.sub (lo := some k) (hi := none) (i := k) (j := ys.length) rfl rfl (by omega) (Nat.le_refl _) (k := 2) rfl
        have iy : ∀ q, q < zs.length - k → idxV 2 v2 (vi q) = some (.ptr (bOf v) (oOf v + (k + q) * 2)) := fun q hq => by
          have := s2.idx 2 .i64 q (by simp; omega)
          rw [hb2, ho2] at this
          simpa [Nat.add_assoc, Nat.add_mul] using this
        have rd : ∀ q (hq : q < zs.length), k + j - 1 ≤ q → rdH t.h (bOf v) (oOf v + q * 2) 2 = some [.bool zs[q].null, vi zs[q].n] := fun q hq hge => by
          have a := hy.sl.loadV q (by omega)
          have b := congrArg (fun l => l[q - (k + j - 1)]?) hdr
          simp only [List.getElem?_drop] at b
          have e : k + j - 1 + (q - (k + j - 1)) = q := by omega
          rw [e, List.getElem?_eq_getElem (by omega), List.getElem?_eq_getElem hq] at b
          injection b with b
          rw [← b]; exact a
        by_cases hj : j < zs.length - k
        · have hkj : k + j < zs.length := by omega
          have hkj1 : k + j - 1 < zs.length := by omega
          have wj : IntKind.i64.wrap ((j : Int) - 1) = (j - 1 : Nat) := by rw [IntWalk.i64_in] <;> omega
          have wj1 : IntKind.i64.wrap ((j : Int) + 1) = (j + 1 : Nat) := by rw [IntWalk.i64_in] <;> omega
          have wm : IntKind.i64.wrap ((m : Int) + 1) = (m + 1 : Nat) := by rw [IntWalk.i64_in] <;> omega
          have i1 := iy j hj
          have i2 := iy (j - 1) (by omega)
          have r1 := rd (k + j) hkj (by omega)
          have r2 := rd (k + j - 1) hkj1 (Nat.le_refl _)
          have e0 : k + (j - 1) = k + j - 1 := by omega
          rw [e0] at i2
          have hdr' : ∀ ys' : List Val, ys'.drop (k + j - 1) = zs.drop (k + j - 1) → ys'.drop (k + (j + 1) - 1) = zs.drop (k + (j + 1) - 1) := fun ys' h => by
            have e : k + (j + 1) - 1 = k + j - 1 + 1 := by omega
            rw [e, ← List.drop_drop, ← List.drop_drop, h]
          have hjc : (j : Int) < ((zs.length - k : Nat) : Int) := by omega
          have ew := valv_eq zs[k + j] zs[k + j - 1]
          by_cases hne : zs[k + j] = zs[k + j - 1]
          · rw [decide_eq_true hne] at ew
            simp [g153_0, hM2, hM, g5, g3', len2, hjc, wj, i1, i2, r1, r2, ew, wj1, -Int.natCast_add]
            refine hJ2 _ hj ⟨by simp, by omega, by omega, m, ys, by simp [g3'], m1, by omega, hy, hyl, hdr' ys hdr, hpw, fun x => ?_, hk, hl, ho⟩
            rw [hmem x, ← Nat.add_assoc, mem_take_succ hkj]
            constructor
            · exact .inl
            · rintro (h | h)
              · exact h
              · rw [h, hne, List.mem_take_iff_getElem]
                exact ⟨k + j - 1, by omega, rfl⟩
          · obtain ⟨h3, e3, s3, k3, len3, o3⟩ := hy.putV (fun b hb => ho b (fr.own b hb)) (i := m) (by omega) zs[k + j]
            have im := hy.idx 2 .i64 m (by omega)
            have hmk : m < ys.length := by omega
            have hlt : ∀ x ∈ ys.take m, vkey x < vkey zs[k + j] := fun x hx => by
              have := (hmem x).1 hx
              rw [List.mem_take_iff_getElem] at this
              obtain ⟨q, hq, rfl⟩ := this
              have a := srt q (k + j - 1) (by omega) hkj1 (by omega)
              have b := srt (k + j - 1) (k + j) hkj1 hkj (by omega)
              have c : vkey zs[k + j] ≠ vkey zs[k + j - 1] := fun e => hne (vkey_inj (hgood _ (List.getElem_mem hkj)) (hgood _ (List.getElem_mem hkj1)) e)
              omega
            have htk : (ys.set m zs[k + j]).take (m + 1) = ys.take m ++ [zs[k + j]] := by
              rw [List.take_succ_eq_append_getElem (by simpa using hmk), List.take_set_of_le (Nat.le_refl _), List.getElem_set_self]
            rw [decide_eq_false hne] at ew
            simp [g153_0, hM2, hM, g5, g3', len2, hjc, wj, i1, i2, r1, r2, ew, im, e3, wm, wj1, -Int.natCast_add]
            refine hJ2 _ hj ⟨by simp, by omega, by omega, m + 1, _, by simp, by omega, by omega, s3, by simpa using hyl, ?_, ?_, fun x => ?_, hk.trans k3, by show h3.length = h.length; omega, fun b hb => o3 b (ho b hb)⟩
            · have e : k + (j + 1) - 1 = k + j - 1 + 1 := by omega
              rw [List.drop_set_of_lt (by omega)]
              exact hdr' ys hdr
            · rw [htk, List.pairwise_append]
              exact ⟨hpw, by simp, fun a ha b hb => by simp at hb; subst hb; exact hlt a ha⟩
            · rw [htk, List.mem_append, List.mem_singleton, hmem x, ← Nat.add_assoc, mem_take_succ hkj]
        · have hje : k + j = zs.length := by omega
          have hjc : ¬ (j : Int) < ((zs.length - k : Nat) : Int) := by omega
          have hml : m < ys.length := by omega
          obtain ⟨v1, h', v3, F3, c1, c2, c3, c4, c5, c6, c7, c8⟩ := clearV hy (fun b hb => ho b (fr.own b hb)) (i := m) hml
          have e3 : v.cells = [v] := hs.cells
          simp [g153_0, hM2, hM, g5, g3', len2, hjc, bounds, takeB, c1, c2, c3]
          rw [hje, List.take_length] at hmem
          refine hR _ _ ⟨ys.take m, F3, c4, ⟨c4.flatF.2.1, fun b hb => fr.ge b (c5 b hb), fun b hb => c8 b (ho b (fr.own b (c5 b hb)))⟩, hpw, hmem, (hk.trans c6).mono fun b hb e => hb (by rw [e]; exact hbF), by omega⟩
      · rw [decide_eq_false he] at ev
        simp [g153_1, hM, g3, gh, hn, hs.len, wk, ix, iy, l1, l2, ev, wk1, -Int.natCast_add]
        refine hJ _ hn ⟨by simp, rfl, by omega, hn, ?_⟩
        rw [List.take_succ_eq_append_getElem hn, List.pairwise_append]
        refine ⟨q1, by simp, fun a ha b hb => ?_⟩
        rw [List.mem_singleton] at hb
        subst hb
        obtain ⟨q, hq, rfl⟩ := List.mem_take_iff_getElem.1 ha
        have c : vkey zs[k] ≠ vkey zs[k - 1] := fun e => he (vkey_inj (hgood _ (List.getElem_mem hn)) (hgood _ (List.getElem_mem hk1)) e)
        have a1 := srt q (k - 1) (by omega) hk1 (by omega)
        have b1 := srt (k - 1) k hk1 hn (by omega)
        omega
    · have : k = zs.length := by omega
      subst this
      rw [List.take_length] at q1
      simp [g153_1, hM, g3, gh, hs.len]
      exact hR _ _ ⟨zs, F, hs, fr, q1, fun _ => Iff.rfl, KeepsP.refl _ _, rfl⟩
end GL

namespace GL
open Go

/-! slices.SortFunc at values -/
def v2 (x : Val) : Val2 := (x.null, x.n)
def ofV2 (z : Val2) : Val := ⟨z.1, z.2⟩
theorem valC_v2 (xs : List Val) : valC (xs.map v2) = flats xs := by
  induction xs with
  | nil => rfl
  | cons x xs ih =>
    have e : valC ((x :: xs).map v2) = [.bool x.null, vi x.n] ++ valC (xs.map v2) := rfl
    rw [e, ih]; rfl
theorem ofV2_map (zs : List Val2) : (zs.map ofV2).map v2 = zs := by
  induction zs with
  | nil => rfl
  | cons z zs ih => rw [List.map_cons, List.map_cons, ih]; rfl
theorem cmpW_swap (a b : Val2) : cmpW a b = - cmpW b a := by
  obtain ⟨a1, a2⟩ := a
  obtain ⟨b1, b2⟩ := b
  simp only [cmpW, cmpI]
  cases a1 <;> cases b1 <;> simp <;> (repeat' split) <;> omega
theorem le_trans2 (a b c : Val2) (h1 : (!ltV b a) = true) (h2 : (!ltV c b) = true) : (!ltV c a) = true := by
  obtain ⟨a1, a2⟩ := a
  obtain ⟨b1, b2⟩ := b
  obtain ⟨c1, c2⟩ := c
  simp only [ltV, cmpW, cmpI, Bool.not_eq_true', decide_eq_false_iff_not] at *
  cases a1 <;> cases b1 <;> cases c1 <;> simp at * <;> (repeat' split at h1) <;> (repeat' split at h2) <;> (repeat' split) <;> omega
theorem le_total2 (a b : Val2) : ((!ltV b a) || (!ltV a b)) = true := by
  have := cmpW_swap a b
  simp only [ltV, Bool.or_eq_true, Bool.not_eq_true', decide_eq_false_iff_not]
  omega
/-- values in the order of slices.SortFunc -/
def srtL (xs : List Val) : List Val := (srtV (xs.map v2)).map ofV2
theorem srtL_perm (xs : List Val) : (srtL xs).Perm xs := by
  have h1 := (List.mergeSort_perm (xs.map v2) fun x y => !ltV y x).map ofV2
  have h2 : (xs.map v2).map ofV2 = xs := by rw [List.map_map]; exact (List.map_congr_left fun x _ => rfl).trans (List.map_id _)
  rw [h2] at h1
  exact h1
theorem srtL_v2 (xs : List Val) : valC (srtV (xs.map v2)) = flats (srtL xs) := by rw [← valC_v2, srtL, ofV2_map]
theorem srtL_sorted {xs : List Val} (hg : ∀ x ∈ xs, okV x = true) : (srtL xs).Pairwise fun a b => vkey a ≤ vkey b := by
  have h1 : (srtV (xs.map v2)).Pairwise fun a b => (!ltV b a) = true := List.pairwise_mergeSort le_trans2 le_total2 _
  have hm : ∀ z ∈ srtV (xs.map v2), okV (ofV2 z) = true := fun z hz => hg _ ((srtL_perm xs).mem_iff.1 (List.mem_map_of_mem hz))
  unfold srtL
  rw [List.pairwise_map]
  refine h1.imp_of_mem fun {a b} ha hb h => ?_
  have h2 := hm a ha
  have h3 := hm b hb
  obtain ⟨a1, a2⟩ := a
  obtain ⟨b1, b2⟩ := b
  simp only [ltV, cmpW, cmpI, Bool.not_eq_true', decide_eq_false_iff_not] at h
  cases a1 <;> cases b1
  · simp only [if_true] at h
    simp only [vkey, ofV2, Bool.false_eq_true, if_false]
    split at h
    · omega
    · split at h <;> omega
  · simp at h
  · simp only [okV, ofV2, Bool.false_eq_true, if_false] at h3
    have h3 := of_decide_eq_true h3
    simp only [vkey, ofV2, Bool.false_eq_true, if_false, if_true]
    omega
  · simp only [vkey, ofV2, if_true]; omega
theorem sortV_ok {h : Heap} {v : V} {xs : List Val} {F : List Nat} {lo : Nat} (hs : SdF h v xs F) (fr : Fresh lo h F) (hl : xs.length ≤ 2 ^ 20) :
    ∃ h', call p 151 [v, .fn 152 []] h = some (.tup [], h') ∧ SdF h' v (srtL xs) F ∧ Fresh lo h' F ∧ KeepsP (fun b => b ∉ F) h h' ∧ h'.length = h.length := by
  rw [call_ext (e := sortVE) rfl]
  have hpl := (srtL_perm xs).length_eq
  by_cases h0 : xs.length = 0
  · have hx : xs = [] := List.length_eq_zero_iff.1 h0
    subst hx
    have hln := hs.len
    have he : srtL [] = [] := List.length_eq_zero_iff.1 hpl
    rw [he]
    refine ⟨h, sortVE_nil ?_ hln, hs, fr, KeepsP.refl _ _, rfl⟩
    rcases hs with ⟨_, ⟨rfl, _⟩ | ⟨b, off, cap, rfl, _⟩⟩
    · exact .inl rfl
    · exact .inr ⟨_, _, _, _, rfl⟩
  · have hbF := hs.bIn (i := 0) (by omega)
    obtain ⟨h', e1, s1, k1, l1, o1⟩ := hs.putTailV (fr.own _ hbF) (i := 0) (by omega) (srtL xs) (by omega)
    have hr := hs.sl.rdS xs.length (Nat.le_refl _)
    rw [List.take_length, ← valC_v2] at hr
    have hr : rdS h 2 v xs.length = some (valC (xs.map v2)) := hr
    rw [← srtL_v2] at e1
    have hbd := hs.bd
    rcases hs with ⟨_, ⟨rfl, rfl, rfl⟩ | ⟨b, off, cap, rfl, hc, _⟩⟩
    · simp at h0
    · have e1 : wrH h b off (valC (srtV (xs.map v2))) = some h' := by simpa [bOf, oOf] using e1
      refine ⟨h', sortVE_eq (by omega) hr (fun e => h0 (by rw [← List.length_map, e]; rfl)) e1, by simpa using s1, ⟨fr.nodup, fr.ge, fun c hc => o1 c (fr.own c hc)⟩, k1.mono fun c hc e => hc (by rw [e]; exact hbF), l1⟩
end GL

namespace GL
open Go

/-! what there is once, in order -/
def Dst (xs ys : List Val) : Prop := (ys.Pairwise fun a b => vkey a < vkey b) ∧ ∀ x, x ∈ ys ↔ x ∈ xs
theorem up_uniq : ∀ {ys zs : List Val}, (ys.Pairwise fun a b => vkey a < vkey b) → (zs.Pairwise fun a b => vkey a < vkey b) → (∀ x, x ∈ ys ↔ x ∈ zs) → ys = zs
  | [], [], _, _, _ => rfl
  | [], z :: zs, _, _, h => by have := (h z).2 (by simp); cases this
  | y :: ys, [], _, _, h => by have := (h y).1 (by simp); cases this
  | y :: ys, z :: zs, h1, h2, h => by
    rw [List.pairwise_cons] at h1 h2
    have e : y = z := by
      rcases List.mem_cons.1 ((h y).1 (by simp)) with e | hy
      · exact e
      · rcases List.mem_cons.1 ((h z).2 (by simp)) with e | hz
        · exact e.symm
        · have a := h2.1 y hy
          have b := h1.1 z hz
          omega
    subst e
    rw [up_uniq h1.2 h2.2 fun x => ⟨fun hx => ?_, fun hx => ?_⟩]
    · rcases List.mem_cons.1 ((h x).1 (by simp [hx])) with e | hy
      · subst e; have := h1.1 x hx; omega
      · exact hy
    · rcases List.mem_cons.1 ((h x).2 (by simp [hx])) with e | hy
      · subst e; have := h2.1 x hx; omega
      · exact hy
theorem Dst.uniq {xs ys zs : List Val} (h1 : Dst xs ys) (h2 : Dst xs zs) : ys = zs := up_uniq h1.1 h2.1 fun x => (h1.2 x).trans (h2.2 x).symm

theorem distinct_ok {h : Heap} {v : V} {xs : List Val} (hs : Sl h v xs) (hl : xs.length ≤ 2 ^ 20) (hg : ∀ x ∈ xs, okV x = true) :
    ∃ r h', call p 136 [v] h = some (r, h') ∧ ∃ ys G, SdF h' r ys G ∧ Fresh h.length h' G ∧ Dst xs ys ∧ Keeps h h' ∧ h.length ≤ h'.length := by
  obtain ⟨a, h1, e1, F, s1, fr1, k1, l1⟩ := cloneV_ok hs hl
  obtain ⟨h2, e2, s2, fr2, k2, l2⟩ := sortV_ok s1 fr1 hl
  have hp := srtL_perm xs
  obtain ⟨r, h3, e3, ys, G, s3, fr3, pw, mem, k3, l3⟩ := compactV_ok s2 fr2 (srtL_sorted hg) fun x hx => hg x (hp.mem_iff.1 hx)
  refine go (fn := g136) rfl rfl fun R hR => ?_
  simp [g136, e1, e2, e3]
  have kk : Keeps h h3 := Keeps.far (n := h.length) k1 (k2.trans k3) (Nat.le_refl _) fun i hi hm => by have := fr1.ge i hm; omega
  exact hR _ _ ⟨ys, G, s3, fr3, ⟨pw, fun x => (mem x).trans hp.mem_iff⟩, kk, by omega⟩
def disB (xs : List Val) : Bool := xs.all okV && decide (xs.length ≤ 40)
theorem DistinctOf_ok {h : Heap} {v : V} {xs : List Val} (hs : Sl h v xs) :
    ∃ r h', call p 80 [v] h = some (r, h') ∧ ∃ x ys, r = .tup [x, .bool (disB xs)] ∧ Sl h' x ys ∧ (disB xs = true → Dst xs ys) ∧ (disB xs = false → ys = []) ∧ Keeps h h' ∧ h.length ≤ h'.length := by
  refine go (fn := g80) rfl rfl fun R hR => ?_
  unfold disB at hR
  by_cases h1 : xs.length ≤ 40
  · have h1' : ¬ (40 : Int) < xs.length := by omega
    cases h2 : xs.all okV with
    | true =>
      obtain ⟨r, h3, e3, ys, G, s3, fr3, d3, k3, l3⟩ := distinct_ok hs (by omega) (by simpa using h2)
      simp [g80, hs.len, h1', areValues_eq hs, h2, e3, fillL, resV, upd, mkV]
      rw [decide_eq_true h1, h2] at hR
      exact hR _ _ ⟨r, ys, rfl, s3.sl, fun _ => d3, (nomatch ·), k3, l3⟩
    | false =>
      simp [g80, hs.len, h1', areValues_eq hs, h2, fillL, resV, upd, mkV]
      rw [h2] at hR
      exact hR _ _ ⟨.nils, [], rfl, Sl.nil, (nomatch ·), fun _ => rfl, Keeps.refl _, Nat.le_refl _⟩
  · have h1' : (40 : Int) < xs.length := by omega
    simp [g80, hs.len, h1', fillL, resV, upd, mkV]
    rw [decide_eq_false h1, Bool.and_false] at hR
    exact hR _ _ ⟨.nils, [], rfl, Sl.nil, (nomatch ·), fun _ => rfl, Keeps.refl _, Nat.le_refl _⟩
end GL

namespace GL
open Go

theorem befV_key {a b : Val} (ha : okV a = true) (hb : okV b = true) : befV a b = decide (vkey a < vkey b) := by
  obtain ⟨a1, a2⟩ := a
  obtain ⟨b1, b2⟩ := b
  cases a1 <;> cases b1 <;> simp [okV, befV, vkey] at ha hb ⊢ <;> omega
/-- one more, put to its place -/
theorem put_up {ys : List Val} {x : Val} {k : Nat} (hy : ys.Pairwise fun a b => vkey a < vkey b) (hk : k ≤ ys.length) (h1 : ∀ y ∈ ys.take k, vkey y < vkey x) (h2 : ∀ hn : k < ys.length, vkey x < vkey ys[k]) :
    ((ys.take k ++ [x] ++ ys.drop k).Pairwise fun a b => vkey a < vkey b) ∧ ∀ z, z ∈ ys.take k ++ [x] ++ ys.drop k ↔ z ∈ ys ∨ z = x := by
  have h3 : ∀ y ∈ ys.drop k, vkey x < vkey y := fun y hm => by
    obtain ⟨q, hq, rfl⟩ := List.getElem_of_mem hm
    rw [List.length_drop] at hq
    rw [List.getElem_drop]
    have a := h2 (by omega)
    by_cases e : q = 0
    · subst e; exact a
    · have := (List.pairwise_iff_getElem.1 hy) k (k + q) (by omega) (by omega) (by omega); omega
  constructor
  · rw [List.append_assoc, List.pairwise_append]
    refine ⟨hy.sublist (List.take_sublist _ _), ?_, fun a ha b hb => ?_⟩
    · rw [List.singleton_append, List.pairwise_cons]
      exact ⟨h3, hy.sublist (List.drop_sublist _ _)⟩
    · have a1 := h1 a ha
      rw [List.singleton_append, List.mem_cons] at hb
      rcases hb with rfl | hb
      · exact a1
      · have := h3 b hb; omega
  · intro z
    have e : z ∈ ys ↔ z ∈ ys.take k ∨ z ∈ ys.drop k := by rw [← List.mem_append, List.take_append_drop]
    rw [e]
    simp only [List.mem_append, List.mem_singleton]
    constructor
    · rintro ((h | h) | h)
      · exact .inl (.inl h)
      · exact .inr h
      · exact .inl (.inr h)
    · rintro ((h | h) | h)
      · exact .inl (.inl h)
      · exact .inr h
      · exact .inl (.inr h)
theorem l4Distinct_ok {h : Heap} {v : V} {xs : List Val} (hs : Sl h v xs) (hl : xs.length ≤ 2 ^ 10) (hg : ∀ x ∈ xs, okV x = true) :
    ∃ r h', call p 139 [v] h = some (r, h') ∧ ∃ ys, Out h.length h' r ys ∧ Dst xs ys ∧ Keeps h h' ∧ h.length ≤ h'.length := by
  refine go (fn := g139) rfl rfl fun R hR => ?_
  simp [g139, hs.len]
  refine Wc_upM (M := [3, 5, 6, 7, 10, 11, 12, 13, 14, 15, 16, 17, 18, 19, 20, 21, 22, 23, 24, 25, 26, 27, 28, 29, 30, 31, 32, 33, 34, 35, 36, 37, 38, 39, 40, 41, 42, 43, 44, 45, 46, 47, 48, 49, 50, 51, 52, 53, 54, 55, 56, 57, 58, 59, 60, 61, 62]) rfl xs.length (fun i s => i ≤ xs.length ∧ s.σ 10 = .v (vi i) ∧ Keeps h s.h ∧ h.length ≤ s.h.length ∧ ∃ v3 ys, s.σ 3 = .v v3 ∧ Out h.length s.h v3 ys ∧ Dst (xs.take i) ys ∧ ys.length ≤ i) 0
    ⟨by omega, by simp, Keeps.refl _, Nat.le_refl _, .nils, [], by simp, Out.nil (Nat.le_refl _), ⟨by simp, by simp⟩, by simp⟩ fun i s ⟨gi, g10, hk, hl0, v3, ys, g3, o3, d3, yl⟩ hM J hJ => ?_
  by_cases hi : i < xs.length
  · have hs' := hs.keeps hk
    have hgx := hg _ (List.getElem_mem hi)
    have hgy : ∀ y ∈ ys, okV y = true := fun y hy => hg y (List.mem_of_mem_take ((d3.2 y).1 hy))
    have st := hs.step hi
    have ix := hs'.idx 2 .i64 i hi
    have lx := hs'.loadV i hi
    have htk : ∀ z, z ∈ xs.take (i + 1) ↔ z ∈ xs.take i ∨ z = xs[i] := fun z => by rw [List.take_succ_eq_append_getElem hi, List.mem_append, List.mem_singleton]
    simp only [g139_1]
    generalize hx : xs[i] = x at *
    simp [hM, g10, hi, ix, lx, fillL, upd]
    refine Wc_upM (M := [6, 14, 15, 16, 17, 18, 19, 20, 21, 22, 23, 24, 25, 26, 27, 28, 29, 30, 31, 32, 33, 34, 35]) rfl ys.length (fun k t => k ≤ ys.length ∧ t.σ 6 = .v (vi k) ∧ t.h = s.h ∧ t.L 5 = ((s.L 5).1 + 1, [.bool x.null, vi x.n]) ∧ ∀ y ∈ ys.take k, vkey y < vkey x) 0
      ⟨by omega, by simp, rfl, by simp [upd], by simp⟩ fun k t ⟨gk, g6, gth, gL, hall⟩ hM2 J2 hJ2 => ?_
    have sl3 := o3.sl
    -- put to its place
    have rest : (∀ hn : k < ys.length, vkey x < vkey ys[k]) → ∃ u1 u2 y1 w1 h2 w2 h3 y2 w3 h4, slcV 2 v3 none (some k) none = some u1 ∧ lenV u1 = some k ∧ rdS (s.h ++ [⟨.own, []⟩]) 2 u1 k = some y1 ∧ appH 2 16 (.slice s.h.length 0 0 (.k 0)) k y1 (s.h ++ [⟨.own, []⟩]) = some (w1, h2) ∧
        appH 2 16 w1 1 [.bool x.null, vi x.n] (h2 ++ [⟨.own, [.bool x.null, vi x.n]⟩]) = some (w2, h3) ∧
        slcV 2 v3 (some k) none none = some u2 ∧ lenV u2 = some (ys.length - k) ∧ rdS h3 2 u2 (ys.length - k) = some y2 ∧ appH 2 16 w2 (ys.length - k) y2 h3 = some (w3, h4) ∧
        Out h.length h4 w3 (ys.take k ++ [x] ++ ys.drop k) ∧ Keeps h h4 ∧ h.length ≤ h4.length := fun hne => by
      obtain ⟨F, sF, _, _⟩ := sl3.sdF o3.cap
      obtain ⟨u1, F1, s1, t1, m1, b1⟩ := sF.sub (lo := none) (hi := some k) (i := 0) (j := k) rfl rfl (Nat.zero_le _) gk (k := 2) rfl
      obtain ⟨u2, F2, s2, t2, m2, b2⟩ := sF.sub (lo := some k) (hi := none) (i := k) (j := ys.length) rfl rfl gk (Nat.le_refl _) (k := 2) rfl
      rw [List.drop_zero] at t1
      rw [List.take_length] at t2
      have hl1 : (ys.take k).length = k := by simp; omega
      have hl2 : (ys.drop k).length = ys.length - k := by simp
      have ka : Keeps s.h (s.h ++ [⟨.own, []⟩]) := Keeps.append _ _
      have o0 : Out s.h.length (s.h ++ [⟨.own, []⟩]) (.slice s.h.length 0 0 (.k 0)) ([] : List Val) := Out.empty (Nat.le_refl _) (by simp)
      obtain ⟨y1, w1, h2, e3, e4, o1, k2, l2⟩ := o0.appS (t1.keep ka).sl (bytes := 16) (by decide) (by simp; omega) (k := 2) rfl (n := k) hl1.symm
      have k02 : Keeps s.h h2 := Keeps.far (n := s.h.length) ka k2 (Nat.le_refl _) fun i hi hv => by have := (o0.ge hv).1; omega
      rw [List.nil_append] at o1
      obtain ⟨w2, h3, e5, o2, k3, l3⟩ := o1.oneV x (by omega)
      have k03 : Keeps s.h h3 := Keeps.far (n := s.h.length) k02 k3 (Nat.le_refl _) fun i hi hv => by have := (o1.ge hv).1; omega
      obtain ⟨y2, w3, h4, e6, e7, o4, k4, l4⟩ := o2.appS (t2.keep k03).sl (bytes := 16) (by decide) (by simp; omega) (k := 2) rfl (n := ys.length - k) hl2.symm
      have k04 : Keeps s.h h4 := Keeps.far (n := s.h.length) k03 k4 (Nat.le_refl _) fun i hi hv => by have := (o2.ge hv).1; omega
      have len1 := t1.len
      have len2 := t2.len
      rw [hl1] at len1
      rw [hl2] at len2
      simp at l2
      exact ⟨u1, u2, y1, w1, h2, w2, h3, y2, w3, h4, s1, len1, e3, e4, e5, s2, len2, e6, e7, o4.mono (by omega), hk.trans k04, by omega⟩
    have fin : ∀ (hne : ∀ hn : k < ys.length, vkey x < vkey ys[k]) (w3 : V) (h4 : Heap), Out h.length h4 w3 (ys.take k ++ [x] ++ ys.drop k) → Dst (xs.take (i + 1)) (ys.take k ++ [x] ++ ys.drop k) ∧ (ys.take k ++ [x] ++ ys.drop k).length ≤ i + 1 := fun hne _ _ _ => by
      obtain ⟨p1, p2⟩ := put_up d3.1 gk hall hne
      refine ⟨⟨p1, fun z => ?_⟩, ?_⟩
      · rw [p2 z, htk z, d3.2 z]
      · simp only [List.length_append, List.length_take, List.length_drop, List.length_singleton]; omega
    by_cases hn : k < ys.length
    · have iy := sl3.idx 2 .i64 k hn
      have ly := sl3.loadV k hn
      have hgk := hgy _ (List.getElem_mem hn)
      have ev := valv_eq ys[k] x
      have eb := l4Before_eq ys[k] x s.h
      rw [befV_key hgk hgx] at eb
      by_cases he : ys[k] = x
      · -- it is there
        rw [decide_eq_true he] at ev
        have hin : x ∈ xs.take i := (d3.2 x).1 (he ▸ List.getElem_mem hn)
        generalize ys[k] = y at *
        simp [g139_0, hM2, hM, g10, g6, g3, gth, gL, sl3.len, hn, iy, ly, ev, st, -Int.natCast_add]
        refine hJ _ hi ⟨hi, by simp, hk, hl0, v3, ys, by simp [hM2, g3], o3, ⟨d3.1, fun z => ?_⟩, by omega⟩
        rw [htk z, d3.2 z]
        constructor
        · exact .inl
        · rintro (h | h)
          · exact h
          · rw [h]; exact hin
      · rw [decide_eq_false he] at ev
        by_cases hlt : vkey ys[k] < vkey x
        · rw [decide_eq_true hlt] at eb
          have wk : IntKind.i64.wrap ((k : Int) + 1) = (k + 1 : Nat) := by rw [IntWalk.i64_in] <;> omega
          have hat := (all_take_succ (P := fun y => vkey y < vkey x) hn).2 ⟨hall, hlt⟩
          generalize ys[k] = y at *
          simp [g139_0, hM2, hM, g10, g6, g3, gth, gL, sl3.len, hn, iy, ly, ev, eb, wk, -Int.natCast_add]
          exact hJ2 _ hn ⟨hn, by simp, rfl, gL, hat⟩
        · rw [decide_eq_false hlt] at eb
          have hne : ∀ hn : k < ys.length, vkey x < vkey ys[k] := fun hn => by
            have : vkey ys[k] ≠ vkey x := fun e => he (vkey_inj hgk hgx e)
            omega
          obtain ⟨u1, u2, y1, w1, h2, w2, h3, y2, w3, h4, q1, q2, q3, q4, q5, q6, q7, q8, q9, q10, q11, q12⟩ := rest hne
          obtain ⟨f1, f2⟩ := fin hne w3 h4 q10
          generalize ys[k] = y at *
          simp [g139_0, hM2, hM, g10, g6, g3, gth, gL, sl3.len, hn, iy, ly, ev, eb, st, bounds, takeB, q1, q2, q3, q4, q5, q6, q7, q8, q9, fillL, rdS_last, -Int.natCast_add]
          exact hJ _ hi ⟨hi, by simp, q11, q12, w3, _, by simp, q10, f1, f2⟩
    · have hne : ∀ hn : k < ys.length, vkey x < vkey ys[k] := fun h => absurd h hn
      obtain ⟨u1, u2, y1, w1, h2, w2, h3, y2, w3, h4, q1, q2, q3, q4, q5, q6, q7, q8, q9, q10, q11, q12⟩ := rest hne
      obtain ⟨f1, f2⟩ := fin hne w3 h4 q10
      simp [g139_0, hM2, hM, g10, g6, g3, gth, gL, sl3.len, hn, st, bounds, takeB, q1, q2, q3, q4, q5, q6, q7, q8, q9, fillL, rdS_last, -Int.natCast_add]
      exact hJ _ hi ⟨hi, by simp, q11, q12, w3, _, by simp, q10, f1, f2⟩
  · have : i = xs.length := by omega
    subst this
    rw [List.take_length] at d3
    simp [g139_1, hM, g10, g3]
    exact hR _ _ ⟨ys, o3, d3, hk, hl0⟩
theorem DistinctOfS_ok {h : Heap} {v : V} {xs : List Val} (hs : Sl h v xs) :
    ∃ r h', call p 82 [v] h = some (r, h') ∧ ∃ x ys, r = .tup [x, .bool (disB xs)] ∧ Sl h' x ys ∧ (disB xs = true → Dst xs ys) ∧ (disB xs = false → ys = []) ∧ Keeps h h' ∧ h.length ≤ h'.length := by
  refine go (fn := g82) rfl rfl fun R hR => ?_
  have e0 := l4Values_eq hs
  rw [show (xs.all okV && decide (xs.length ≤ 40)) = disB xs from rfl] at e0
  cases hb : disB xs with
  | true =>
    have hb' := hb
    rw [disB, Bool.and_eq_true, decide_eq_true_eq] at hb'
    obtain ⟨r, h3, e3, ys, o3, d3, k3, l3⟩ := l4Distinct_ok hs (by omega) (by simpa using hb'.1)
    rw [hb] at e0 hR
    simp [g82, e0, e3, fillL, resV, upd, mkV]
    exact hR _ _ ⟨r, ys, rfl, o3.sl, fun _ => d3, (nomatch ·), k3, l3⟩
  | false =>
    rw [hb] at e0 hR
    simp [g82, e0, fillL, resV, upd, mkV]
    exact hR _ _ ⟨.nils, [], rfl, Sl.nil, (nomatch ·), fun _ => rfl, Keeps.refl _, Nat.le_refl _⟩
end GL

namespace GL
open Go

end GL

namespace GL
open Go

end GL

namespace GL
open Go

end GL

namespace GL
open Go

theorem cut_all (cs : List V) : cut cs 0 cs.length = some cs := by simp [cut]
end GL

namespace GL
open Go

/-! rows that share their columns with others -/
theorem Od.sdW {α : Type} [Data α] {lo : Nat} {h : Heap} {v : V} {xs : List α} {F : List Nat} (o : Od lo h v xs F) : ∃ F', SdF h v xs F' ∧ (∀ G, F' = bOf v :: G → bOf v ∉ G) ∧ (xs ≠ [] → OwnB h (bOf v) ∧ lo ≤ bOf v) := by
  have o0 := o
  obtain ⟨h1, _, ⟨rfl, rfl, rfl⟩ | ⟨b, cs, rfl, hb, hlo, hr, hn⟩ | ⟨b, rfl, rfl, rfl, _⟩⟩ := o
  · exact ⟨[], .nil, fun _ e => (nomatch e), fun h => absurd rfl h⟩
  · refine ⟨b :: F, ⟨by omega, .inr ⟨b, 0, _, rfl, rfl, .inr ⟨_, cs, F, rfl, hb, by simp, ?_, hr⟩⟩⟩, fun G e => ?_, fun _ => ⟨⟨cs, hb⟩, hlo⟩⟩
    · rw [← hr.len]; exact cut_all _
    · injection e with _ e
      rw [← e]; exact hn
  · exact ⟨[], ⟨by simp, .inr ⟨b, 0, _, rfl, Nat.le_refl _, .inl ⟨rfl, rfl⟩⟩⟩, fun _ e => (nomatch e), fun h => absurd rfl h⟩
theorem cloneR_ok {h : Heap} {v : V} {xs : List Rw} {F : List Nat} (hs : SdF h v xs F) (hl : xs.length ≤ 2 ^ 20) :
    ∃ r h', call p 137 [v] h = some (r, h') ∧ ∃ G, SdF h' r xs G ∧ (∀ G', G = bOf r :: G' → bOf r ∉ G') ∧ (xs ≠ [] → OwnB h' (bOf r) ∧ h.length ≤ bOf r) ∧ Keeps h h' ∧ h.length ≤ h'.length := by
  refine go (fn := g137) rfl rfl fun R hR => ?_
  have ka : Keeps h (h ++ [⟨.own, []⟩]) := Keeps.append _ _
  have o0 : Od h.length (h ++ [⟨.own, []⟩]) (.slice h.length 0 0 (.k 0)) ([] : List Rw) [] := Od.empty (Nat.le_refl _) (by simp)
  have ltF : ∀ b ∈ F, b < h.length := fun b hb => by obtain ⟨_, h1, _⟩ := hs.lt hb; exact get_lt h1
  obtain ⟨ys, w, h1, G1, e1, e2, o1, n1, k1, l1⟩ := o0.appS (hs.keep ka) (fun b hb hv => by have := (o0.ge hv).1; have := ltF b hb; omega) (bytes := 32) (by decide) (by simp; omega) (k := 2) rfl
  have k01 : Keeps h h1 := Keeps.far (n := h.length) ka k1 (Nat.le_refl _) fun i hi hv => by have := (o0.ge hv).1; omega
  rw [List.nil_append] at o1
  obtain ⟨F', q1, q2, q3⟩ := o1.sdW
  simp at l1
  have hlen := hs.len
  rcases hs with ⟨_, ⟨rfl, rfl, rfl⟩ | ⟨b, off, cap, rfl, _⟩⟩
  · simp [g137]
    exact hR _ _ ⟨[], SdF.nil, fun G e => by simp [bOf] at e, fun h => absurd rfl h, Keeps.refl _, Nat.le_refl _⟩
  · simp [g137, fillL, hlen, e1, e2]
    exact hR _ _ ⟨F', q1, q2, q3, k01, by omega⟩

/-- a question to a row that may read its columns -/
def AskC (f : Nat) (capt : List V) (q : Rw → Bool) (P : Rw → Prop) (h : Heap) : Prop := ∀ (r : Rw) (x : V) (F : List Nat), P r → SdF h x r.cols F → call p f (.agg [vi r.key, x] :: capt) h = some (.bool (q r), h)
theorem indexC_eq {h : Heap} {v : V} {xs : List Rw} {F : List Nat} (hs : SdF h v xs F) {f : Nat} {capt : List V} {q : Rw → Bool} {P : Rw → Prop} (ha : AskC f capt q P h) (hP : ∀ r ∈ xs, P r) :
    ∃ k : Int, call p 150 [v, .fn f capt] h = some (vi k, h) ∧ ((k = -1 ∧ ∀ r ∈ xs, q r = false) ∨ ∃ (i : Nat) (hi : i < xs.length), k = i ∧ q xs[i] = true ∧ ∀ r ∈ xs.take i, q r = false) := by
  have : ∃ w h', call p 150 [v, .fn f capt] h = some (w, h') ∧ ∃ k : Int, w = vi k ∧ h' = h ∧ ((k = -1 ∧ ∀ r ∈ xs, q r = false) ∨ ∃ (i : Nat) (hi : i < xs.length), k = i ∧ q xs[i] = true ∧ ∀ r ∈ xs.take i, q r = false) := by
    refine go (fn := g150) rfl rfl fun R hR => ?_
    simp [g150, hs.len]
    refine Wc_upM (M := [4, 5, 8, 9, 10, 11, 12, 13, 14, 15, 16, 17, 18]) rfl xs.length (fun i s => s.σ 8 = .v (vi i) ∧ s.h = h ∧ ∀ r ∈ xs.take i, q r = false) 0 (by simp) fun i s ⟨g8, gh, hall⟩ hM J hJ => ?_
    by_cases hn : i < xs.length
    · obtain ⟨x, F2, e1, hx, _⟩ := hs.loadR i hn
      have e2 := ha xs[i] x F2 (hP _ (List.getElem_mem hn)) hx
      cases he : q xs[i] with
      | true =>
        rw [he] at e2
        simp [g150_0, hM, g8, gh, hn, hs.idx, e1, e2]
        exact hR _ _ ⟨i, rfl, rfl, .inr ⟨i, hn, rfl, he, hall⟩⟩
      | false =>
        rw [he] at e2
        simp [g150_0, hM, g8, gh, hn, hs.idx, e1, e2, hs.step hn]
        exact hJ _ hn ⟨by simp, rfl, (all_take_succ hn).2 ⟨hall, he⟩⟩
    · rw [List.take_of_length_le (by omega)] at hall
      simp [g150_0, hM, g8, gh, hn]
      exact hR _ _ ⟨-1, rfl, rfl, .inl ⟨rfl, hall⟩⟩
  obtain ⟨_, _, e, k, rfl, rfl, hk⟩ := this
  exact ⟨k, e, hk⟩

theorem DeleteS_ok {h : Heap} {v : V} {xs : List Rw} {F : List Nat} (hs : SdF h v xs F) (hnF : ∀ G, F = bOf v :: G → bOf v ∉ G) (hoF : xs ≠ [] → OwnB h (bOf v)) {f : Nat} {capt : List V} {q : Rw → Bool} {P : Rw → Prop} (hP : ∀ r ∈ xs, P r) (ha : ∀ h', KeepsP (fun b => b ≠ bOf v) h h' → AskC f capt q P h') :
    ∃ r h', call p 133 [v, .fn f capt] h = some (r, h') ∧ ∃ G, SdF h' r (xs.filter fun r => !q r) G ∧ KeepsP (fun b => b ≠ bOf v) h h' ∧ h'.length = h.length := by
  refine go (fn := g133) rfl rfl fun R hR => ?_
  obtain ⟨k, e1, hk | ⟨i0, hi0, rfl, hq0, hall0⟩⟩ := indexC_eq hs (ha h (KeepsP.refl _ _)) hP
  · obtain ⟨rfl, hall⟩ := hk
    have hf : xs.filter (fun r => !q r) = xs := List.filter_eq_self.2 fun r hr => by simp [hall r hr]
    simp [g133, e1]
    exact hR _ _ ⟨F, by rw [hf]; exact hs, KeepsP.refl _ _, rfl⟩
  · obtain ⟨ys, hym, hy, hF⟩ := hs.ann
    have hyl : ys.length = xs.length := by rw [← hym]; simp
    have hF : F = bOf v :: ys.flatMap (·.g) := by rcases hF with rfl | h; simp at hi0; exact h
    have hob := hoF (by intro e; subst e; simp at hi0)
    have hnb : ∀ a ∈ ys, bOf v ∉ a.g := fun a ha hm => hnF _ hF (List.mem_flatMap.2 ⟨a, ha, hm⟩)
    have hbd := hs.bd
    have w0 : IntKind.i64.wrap ((i0 : Int) + 1) = (i0 + 1 : Nat) := by rw [IntWalk.i64_in] <;> omega
    have hyi : ∀ t (ht : t < ys.length), ys[t].r = xs[t]'(by omega) := fun t ht => by simp only [← hym, List.getElem_map]
    have hPy : ∀ a ∈ ys, P a.r := fun a ha => hP _ (by rw [← hym]; exact List.mem_map.2 ⟨a, ha, rfl⟩)
    have hn1 : ¬ (i0 : Int) = -1 := by omega
    simp [g133, e1, hn1, w0, -Int.natCast_add]
    refine Wc_upM (M := [5, 6, 7, 16, 17, 18, 19, 20, 21, 22, 23, 24, 25, 26, 27, 28, 29, 30, 31, 32, 33, 34, 35]) rfl xs.length (fun j s => j ≤ xs.length ∧ s.σ 6 = .v (vi j) ∧ KeepsP (fun b => b ≠ bOf v) h s.h ∧ s.h.length = h.length ∧ OwnB s.h (bOf v) ∧ ∃ (i : Nat) (zs : List An) (F' : List Nat), i < j ∧ s.σ 5 = .v (vi i) ∧ SdF s.h v zs F' ∧ zs.length = ys.length ∧ zs.take i = (ys.take j).filter (fun a => !q a.r) ∧ zs.drop j = ys.drop j ∧ (∀ a ∈ zs, a ∈ ys)) (i0 + 1)
      ⟨by omega, by simp, KeepsP.refl _ _, rfl, hob, i0, ys, F, by omega, by simp, hy, rfl, ?_, rfl, fun a h => h⟩ fun j s ⟨gj, g6, hk, hl, ho, i, zs, F', hij, g5, hz, hzl, htk, hdr, hsub⟩ hM J hJ => ?_
    · -- the first ones
      have hiy : i0 < ys.length := by omega
      rw [List.take_succ_eq_append_getElem hiy, List.filter_append]
      have hx0 : q ys[i0].r = true := by rw [hyi i0 hiy]; exact hq0
      have hf1 : (ys.take i0).filter (fun a => !q a.r) = ys.take i0 := List.filter_eq_self.2 fun a ha => by
        have hma : a.r ∈ xs.take i0 := by rw [← hym, ← List.map_take]; exact List.mem_map.2 ⟨a, ha, rfl⟩
        simp [hall0 _ hma]
      rw [hf1]; simp [hx0]
    · have hzn : ∀ a ∈ zs, bOf v ∉ a.g := fun a ha => hnb a (hsub a ha)
      by_cases hj : j < xs.length
      · have hjz : j < zs.length := by omega
        have hjy : j < ys.length := by omega
        have hzj : zs[j] = ys[j] := by
          have := congrArg (fun l => l[0]?) hdr
          simp only [List.getElem?_drop, Nat.add_zero, List.getElem?_eq_getElem hjz, List.getElem?_eq_getElem hjy, Option.some.injEq] at this
          exact this
        obtain ⟨x, e2, hx⟩ := hz.loadA j hjz
        have e3 := ha s.h hk zs[j].r x _ (hPy _ (hsub _ (List.getElem_mem hjz))) hx
        have ix := hz.idx 2 .i64 j hjz
        have iw := hz.idx 2 .i64 i (by omega)
        have wj : IntKind.i64.wrap ((j : Int) + 1) = (j + 1 : Nat) := by rw [IntWalk.i64_in] <;> omega
        have wi : IntKind.i64.wrap ((i : Int) + 1) = (i + 1 : Nat) := by rw [IntWalk.i64_in] <;> omega
        have hdr' : zs.drop (j + 1) = ys.drop (j + 1) := by
          rw [← List.drop_drop, ← List.drop_drop, hdr]
        cases hq : q zs[j].r with
        | true =>
          rw [hq] at e3
          simp [g133_0, hM, g6, g5, hs.len, hj, ix, e2, e3, hx.cell, upd, wj, -Int.natCast_add]
          refine hJ _ hj ⟨hj, by simp, hk, hl, ho, i, zs, F', by omega, by simp [g5], hz, hzl, ?_, hdr', hsub⟩
          rw [List.take_succ_eq_append_getElem hjy, List.filter_append, ← htk]
          simp [← hzj, hq]
        | false =>
          rw [hq] at e3
          obtain ⟨h', F2, e4, hz2, hk2, hl2, ho2⟩ := hz.putW (fun G e => by
            rcases hz.unann.2 with hu | hu
            · rw [hu] at e; cases e
            · rw [hu] at e; injection e with _ e
              rw [← e]; intro hm
              obtain ⟨a, ha, hm⟩ := List.mem_flatMap.1 hm
              exact hzn a ha hm) ho (i := i) (by omega) (x' := zs[j]) (cs' := [vi zs[j].r.key, x]) (G' := zs[j].g) ⟨rfl, x, rfl, hx⟩ (hzn _ (List.getElem_mem hjz))
          have e4' : wrH s.h (bOf v) (oOf v + i * 2) [vi zs[j].r.key, x] = some h' := e4
          simp [g133_0, hM, g6, g5, hs.len, hj, ix, iw, e2, e3, hx.cell, upd, wj, wi, e4', -Int.natCast_add]
          refine hJ _ hj ⟨hj, by simp, hk.trans hk2, by simp; omega, ho2 _ ho, i + 1, zs.set i zs[j], F2, by omega, by simp, hz2, by simp [hzl], ?_, ?_, fun a ha => ?_⟩
          · rw [List.take_succ_eq_append_getElem hjy, List.filter_append, ← htk, List.take_succ_eq_append_getElem (by simp; omega), List.take_set_of_le (Nat.le_refl _)]
            simp [← hzj, hq]
          · rw [List.drop_set_of_lt (by omega)]; exact hdr'
          · rcases List.mem_or_eq_of_mem_set ha with ha | rfl
            · exact hsub a ha
            · exact hsub _ (List.getElem_mem hjz)
      · have : j = xs.length := by omega
        subst this
        have htk' : zs.take i = ys.filter fun a => !q a.r := by rw [htk, List.take_of_length_le (by omega)]
        obtain ⟨v1, h', v2, F2, s1, s2, s3, q1, q2, q3, k', l', o'⟩ := clearA hz ho hzn (i := i) (by omega)
        have c0 : (0 : Int) ≤ i := by omega
        simp [g133_0, hM, g6, g5, hs.len, bounds, takeB, s1, s2, s3]
        have hres : (zs.take i).map (·.r) = xs.filter fun r => !q r := by
          rw [htk', ← hym, List.filter_map]; rfl
        have hfin := q1.unann.1
        rw [hres] at hfin
        exact hR _ _ ⟨F2, hfin, hk.trans k', by omega⟩

theorem group1_eq {h : Heap} {b c g : Nat} {x : Val} (hb : h[b]? = some ⟨.own, [vi g]⟩) (hc : h[c]? = some ⟨.own, [.bool x.null, vi x.n]⟩) : AskC 138 [.ptr b 0, .ptr c 0] (fun r => !decide (r.cols.getD g zV = x)) (fun r => g < r.cols.length) h := fun r y F hP hy => by
  refine go_eq (fn := g138) rfl rfl fun R hR => ?_
  have iy := hy.idx 2 .i64 g hP
  have ly := hy.sl.loadV g hP
  have ev := valv_eq r.cols[g] x
  have e : r.cols.getD g zV = r.cols[g] := by simp [hP]
  have hR : R (.bool (!decide (r.cols.getD g zV = x))) h := hR
  rw [e] at hR
  generalize r.cols[g] = z at *
  simp [g138, fillL, upd, hy.cells, hy.cell, rdH_at hb, rdH_at hc, iy, ly, ev]
  simpa using hR
end GL

namespace GL
open Go

/-! groups of a table -/
def grpF (rows : List Rw) (g : Nat) (v : Val) : List Rw := rows.filter fun r => decide (r.cols.getD g zV = v)
def totS (l : List Val) : Int := (sumL l.length l).total
def totV (l : List Val) : Val := if decide (-1000 ≤ totS l ∧ totS l ≤ 1000) = true then ⟨false, totS l⟩ else ⟨true, 0⟩
def grpR (rows : List Rw) (g c k : Nat) (v : Val) : Rw := ⟨k, [v, ⟨false, (grpF rows g v).length⟩, totV (colL (grpF rows g v) c)]⟩
def grpP (rows : List Rw) (g c : Nat) (ys : List Val) (n : Nat) : List Rw := (List.range n).map fun k => grpR rows g c k (ys.getD k zV)
theorem grpP_succ (rows : List Rw) (g c : Nat) (ys : List Val) (n : Nat) : grpP rows g c ys (n + 1) = grpP rows g c ys n ++ [grpR rows g c n (ys.getD n zV)] := by simp [grpP, List.range_succ]
theorem grpP_len (rows : List Rw) (g c : Nat) (ys : List Val) (n : Nat) : (grpP rows g c ys n).length = n := by simp [grpP]
def gbB (rows : List Rw) (g c : Int) : Bool := goodT rows && decide (0 ≤ g ∧ g ≤ 2) && decide (0 ≤ c ∧ c ≤ 2)

theorem litV {h : Heap} (l : List Val) {n : Nat} (hn : n = l.length) {cs : List V} (hc : cs = flats l) (hl : l.length ≤ 2 ^ 20) : SdF (h ++ [⟨.own, cs⟩]) (.slice h.length 0 n (.k n)) l [h.length] := by
  subst hn; subst hc
  refine ⟨by omega, .inr ⟨h.length, 0, .k l.length, rfl, Nat.le_refl _, .inr ⟨⟨.own, flats l⟩, flats l, [], rfl, by simp, by simp, ?_, Reps.flat.2 ⟨rfl, rfl⟩⟩⟩⟩
  have hfl : (flats l).length = l.length * 2 := by rw [flats_len]; simp [Flat.sz]
  show cut (flats l) 0 (l.length * 2) = _
  rw [← hfl]; exact cut_all _
theorem Od.oneQ {α : Type} [Data α] {lo q : Nat} {g h : Heap} {v : V} {xs : List α} {F : List Nat} (o : Od lo h v xs F) (hb : ∀ b, vB v b → b = q ∨ g.length ≤ b) (hg : KeepsP (fun b => b ≠ q) g h) (hgl : g.length ≤ h.length) {x : α} {cs : List V} {G : List Nat} (hr : Data.rep h x cs G) (hG : ∀ b ∈ G, ¬ vB v b) (hl : xs.length ≤ 2 ^ 20) {k bytes : Nat} (hk : k = Data.sz α) (hby : bytes ≤ 2 ^ 8) :
    ∃ v' h' F', appH k bytes v 1 cs (h ++ [⟨.own, cs⟩]) = some (v', h') ∧ Od lo h' v' (xs ++ [x]) F' ∧ (∀ b, vB v' b → b = q ∨ g.length ≤ b) ∧ KeepsP (fun b => b ≠ q) g h' ∧ h.length < h'.length := by
  have kl : Keeps h (h ++ [⟨.own, cs⟩]) := Keeps.append _ _
  have o2 := o.keeps (kl.p fun _ => True) (fun _ _ => trivial) (fun _ _ => trivial) (by simp)
  obtain ⟨v', h', e, o3, k3, l3, b3⟩ := o2.app (zs := [x]) (ys := cs) (G := G) (by simp) (.one (Data.keeps hr (kl.p _))) hG (bytes := bytes) hby (by simp; omega) (k := k) (n := 1) hk rfl
  refine ⟨v', h', _, e, o3, fun b hv => .inr ?_, fun b blk hq hh hst => ?_, by simp at l3; omega⟩
  · have := b3 b hv
    simp at this; omega
  · have := get_lt hh
    exact k3 b blk (fun hv => by rcases hb b hv with e | e <;> omega) (kl _ _ (hg b blk hq hh hst) hst) hst

theorem col_mem {rows : List Rw} {g : Nat} {v : Val} (h : v ∈ colL rows g) : ∃ r ∈ rows, r.cols.getD g zV = v := by
  simp only [colL, List.mem_map] at h
  exact h
theorem col_ok {rows : List Rw} {g : Nat} (hg : ∀ r ∈ rows, okR r = true) (hk : g < 3) : ∀ x ∈ colL rows g, okV x = true := fun x hx => by
  obtain ⟨r, hr, rfl⟩ := col_mem hx
  obtain ⟨_, h2, h3⟩ := okR_facts (hg r hr)
  simp only [List.all_eq_true] at h3
  have : g < r.cols.length := by omega
  have e : r.cols.getD g zV = r.cols[g] := by simp [this]
  rw [e]; exact h3 _ (List.getElem_mem this)
theorem grpF_sub {rows : List Rw} {g : Nat} {v : Val} : ∀ r ∈ grpF rows g v, r ∈ rows := fun r hr => (List.mem_filter.1 hr).1

theorem ByGroupI_ok {h : Heap} {v : V} {rows : List Rw} {F : List Nat} (hs : SdF h v rows F) (g c : Int) :
    ∃ o h', call p 78 [v, vi g, vi c] h = some (o, h') ∧ ∃ w zs G, o = .tup [w, .bool (gbB rows g c)] ∧ SdF h' w zs G ∧ (gbB rows g c = true → ∃ ys, Dst (colL rows g.toNat) ys ∧ zs = grpP rows g.toNat c.toNat ys ys.length) ∧ (gbB rows g c = false → zs = []) ∧ Keeps h h' ∧ h.length ≤ h'.length := by
  refine go (fn := g78) rfl rfl fun R hR => ?_
  have k0 : Keeps h (h ++ [⟨.own, [vi g]⟩]) := Keeps.append _ _
  have e0 := GoodTable_eq (hs.keep k0)
  have eb : (h ++ [(⟨.own, [vi g]⟩ : Blk)])[h.length]? = some ⟨.own, [vi g]⟩ := by simp
  have bad : gbB rows g c = false → R (.tup [.nils, .bool false]) (h ++ [⟨.own, [vi g]⟩]) := fun hb => hR _ _ ⟨.nils, [], [], by rw [hb], SdF.nil, fun h => absurd (hb.symm.trans h) (by decide), fun _ => rfl, k0, by simp⟩
  cases hgd : goodT rows with
  | false =>
    rw [hgd] at e0
    simp [g78, fillL, e0]
    exact bad (by simp [gbB, hgd])
  | true =>
    rw [hgd] at e0
    obtain ⟨d1, d2, d3⟩ := goodT_facts hgd
    by_cases hg : 0 ≤ g ∧ g ≤ 2
    · by_cases hc : 0 ≤ c ∧ c ≤ 2
      · obtain ⟨gn, rfl⟩ := Int.eq_ofNat_of_zero_le hg.1
        obtain ⟨cn, rfl⟩ := Int.eq_ofNat_of_zero_le hc.1
        have hcols : ∀ r ∈ rows, r.cols.length = 3 := fun r hr => (okR_facts (d1 r hr)).2.1
        have k1 : Keeps h (h ++ [⟨.own, [vi gn]⟩, ⟨.own, []⟩]) := Keeps.append _ _
        have eb1 : rdH (h ++ [⟨.own, [vi gn]⟩, ⟨.own, []⟩]) h.length 0 1 = some [vi gn] := by rw [rdH_at (blk := ⟨.own, [vi gn]⟩) (by simp) (by simp)]; rfl
        obtain ⟨t29, h2, e2, o2, k2, l2⟩ := column_ok (hs.keep k1) gn (fun r hr => by have := hcols r hr; omega) (by omega)
        have hcl : (colL rows gn).length = rows.length := by simp [colL]
        obtain ⟨t30, h3, e3, ys, G3, s3, f3, ds, k3, l3⟩ := distinct_ok o2.sl (by omega) (col_ok d1 (by omega))
        have k03 := (k1.trans k2).trans k3
        simp only [List.length_append, List.length_cons, List.length_nil] at l2
        have hok : gbB rows gn cn = true := by simp [gbB, hgd]; omega
        have hyl := s3.len
        have eb3 : h3[h.length]? = some ⟨.own, [vi gn]⟩ := k3 _ _ (k2 _ _ (by simp) (by simp)) (by simp)
        have eb3' : rdH h3 h.length 0 1 = some [vi gn] := by rw [rdH_at eb3 (by simp)]; rfl
        have hyn : ys.length ≤ 2 ^ 20 := by
          have hnd : ys.Nodup := ds.1.imp fun {a b} hab e => by subst e; omega
          have := hnd.length_le_of_subset fun x hx => (ds.2 x).1 hx
          omega
        simp [g78, fillL, upd, e0, rdH_at eb, eb1, hg, hc, e2, e3, hyl, -Bool.decide_and]
        refine Wc_upM (M := [8, 9, 10, 11, 12, 32, 33, 34, 35, 36, 37, 38, 39, 40, 41, 42, 43, 44, 45, 46, 47, 48, 49, 50, 51, 52, 53, 54, 55, 56, 57, 58, 59, 60, 61, 62, 63]) rfl ys.length (fun i s => i ≤ ys.length ∧ s.σ 32 = .v (vi i) ∧ KeepsP (fun b => b ≠ h.length + 1) h3 s.h ∧ h3.length ≤ s.h.length ∧ ∃ v8 F8, s.σ 8 = .v v8 ∧ Od (h.length + 1) s.h v8 (grpP rows gn cn ys i) F8 ∧ ∀ b, vB v8 b → b = h.length + 1 ∨ h3.length ≤ b) 0
          ⟨by omega, by simp, KeepsP.refl _ _, Nat.le_refl _, .slice (h.length + 1) 0 0 (.k 0), [], by simp, by simpa [grpP] using Od.empty (Nat.le_refl _) (by omega), fun b ⟨_, _, _, e⟩ => by cases e; exact .inl rfl⟩ fun i s ⟨gi, g32, hk, hl, v8, F8, g8, o8, b8⟩ hM J hJ => ?_
        by_cases hi : i < ys.length
        · have hyi : ys[i] ∈ colL rows gn := (ds.2 _).1 (List.getElem_mem hi)
          have hne : rows ≠ [] := fun e => by rw [e] at hyi; simp [colL] at hyi
          have s3' := s3.keeps (hk.mono fun b hb e => by have := f3.ge b hb; omega)
          have ix := s3'.idx 2 .i64 i hi
          have lx := s3'.sl.loadV i hi
          have st := s3'.step hi
          have hsh : SdF s.h v rows F := ((hs.keep k03).keeps (hk.mono fun b hb e => by have := hs.ltF hb; omega))
          have ebs : s.h[h.length]? = some ⟨.own, [vi gn]⟩ := hk _ _ (by omega) eb3 (by simp)
          have hgd3 : ys.getD i zV = ys[i] := by simp [hi]
          generalize hx : ys[i] = x at *
          have kn : Keeps s.h (s.h ++ [⟨.own, [.bool x.null, vi x.n]⟩]) := Keeps.append _ _
          have ew : wrH (s.h ++ [⟨.own, [.bool false, vi 0]⟩]) s.h.length 0 [.bool x.null, vi x.n] = some (s.h ++ [⟨.own, [.bool x.null, vi x.n]⟩]) := by
            rw [wrH_at (blk := ⟨.own, [.bool false, vi 0]⟩) (by simp) rfl]
            simp [lay]
          obtain ⟨t38, h4, e4, G4, q1, q2, q3, k4, l4⟩ := cloneR_ok (hsh.keep kn) (by omega)
          obtain ⟨q4, q5⟩ := q3 hne
          simp only [List.length_append, List.length_singleton] at l4 q5
          have eb4 : h4[h.length]? = some ⟨.own, [vi gn]⟩ := k4 _ _ (kn _ _ ebs (by simp)) (by simp)
          have ex4 : h4[s.h.length]? = some ⟨.own, [.bool x.null, vi x.n]⟩ := k4 _ _ (by simp) (by simp)
          obtain ⟨t40, h5, e5, G5, s5, k5, l5⟩ := DeleteS_ok q1 q2 (fun _ => q4) (f := 138) (capt := [.ptr h.length 0, .ptr s.h.length 0]) (q := fun r => !decide (r.cols.getD gn zV = x)) (P := fun r => gn < r.cols.length) (fun r hr => by have := hcols r hr; omega)
            fun h' hk' => group1_eq (hk' _ _ (by omega) eb4 (by simp)) (hk' _ _ (by omega) ex4 (by simp))
          have hfl : (rows.filter fun r => !(!decide (r.cols.getD gn zV = x))) = grpF rows gn x := by simp [grpF]
          rw [hfl] at s5
          have ex5 : h5[s.h.length]? = some ⟨.own, [.bool x.null, vi x.n]⟩ := k5 _ _ (by omega) ex4 (by simp)
          have hgl : (grpF rows gn x).length ≤ rows.length := List.length_filter_le ..
          have s5l := s5.len
          obtain ⟨t43, h6, e6, o6, k6, l6⟩ := column_ok s5 cn (fun r hr => by have := hcols r (grpF_sub r hr); omega) (by omega)
          have hcl2 : (colL (grpF rows gn x) cn).length = (grpF rows gn x).length := by simp [colL]
          have e7 := sumOf_eq o6.sl (by omega) (col_ok (fun r hr => d1 r (grpF_sub r hr)) (by omega))
          have ex6 : h6[s.h.length]? = some ⟨.own, [.bool x.null, vi x.n]⟩ := k6 _ _ ex5 (by simp)
          have hgr := grpP_succ rows gn cn ys i
          rw [hgd3] at hgr
          have kfar : Keeps s.h h6 := (Keeps.far (n := s.h.length) (kn.trans k4) k5 (Nat.le_refl _) fun j hj e => by omega).trans k6
          obtain ⟨tv, htv⟩ : ∃ tv : Val, tv = totV (colL (grpF rows gn x) cn) := ⟨_, rfl⟩
          have fin : ∀ cs, cs = flats [x, ⟨false, (grpF rows gn x).length⟩, tv] → ∃ v9 h9 F9, rdS (h6 ++ [⟨.own, cs⟩, ⟨.own, [vi i, .slice h6.length 0 3 (.k 3)]⟩]) 2 (.slice (h6.length + 1) 0 1 (.k 1)) 1 = some [vi i, .slice h6.length 0 3 (.k 3)] ∧ appH 2 32 v8 1 [vi i, .slice h6.length 0 3 (.k 3)] (h6 ++ [⟨.own, cs⟩, ⟨.own, [vi i, .slice h6.length 0 3 (.k 3)]⟩]) = some (v9, h9) ∧ Od (h.length + 1) h9 v9 (grpP rows gn cn ys (i + 1)) F9 ∧ (∀ b, vB v9 b → b = h.length + 1 ∨ h3.length ≤ b) ∧ KeepsP (fun b => b ≠ h.length + 1) h3 h9 ∧ h3.length ≤ h9.length := fun cs hcs => by
            have kz : Keeps h6 (h6 ++ [⟨.own, cs⟩]) := Keeps.append _ _
            have ksz := kfar.trans kz
            have hz : SdF (h6 ++ [⟨.own, cs⟩]) (.slice h6.length 0 3 (.k 3)) [x, ⟨false, (grpF rows gn x).length⟩, tv] [h6.length] := litV _ rfl hcs (by simp)
            have o8' := o8.keeps (ksz.p fun _ => True) (fun _ _ => trivial) (fun _ _ => trivial) (by simp; omega)
            obtain ⟨v9, h9, F9, a1, a2, a3, a4, a5⟩ := o8'.oneQ b8 (hk.trans (ksz.p _)) (by simp; omega) (x := grpR rows gn cn i x) (cs := [vi i, .slice h6.length 0 3 (.k 3)]) (G := [h6.length]) ⟨_, rfl, by rw [htv] at hz; exact hz⟩ (fun b hb hv => by
              rw [List.mem_singleton] at hb
              have := (o8.ge hv).2; omega) (by rw [grpP_len]; omega) (k := 2) (bytes := 32) rfl (by decide)
            rw [← hgr] at a2
            simp only [List.length_append, List.length_singleton] at a5
            have a0 := rdS_last (h := h6 ++ [⟨.own, cs⟩]) (cs := [vi i, .slice h6.length 0 3 (.k 3)]) (k := 2) (n := 1) (cap := .k 1) (by simp)
            exact ⟨v9, h9, F9, by simpa using a0, by simpa using a1, a2, a3, a4, by omega⟩
          by_cases hsm : -1000 ≤ totS (colL (grpF rows gn x) cn) ∧ totS (colL (grpF rows gn x) cn) ≤ 1000
          · have htv' : tv = ⟨false, totS (colL (grpF rows gn x) cn)⟩ := by rw [htv, totV, if_pos (decide_eq_true hsm)]
            obtain ⟨v9, h9, F9, a0, a1, a2, a3, a4, a5⟩ := fin [.bool x.null, vi x.n, .bool false, vi (grpF rows gn x).length, .bool false, vi (totS (colL (grpF rows gn x) cn))] (by rw [htv']; rfl)
            unfold totS at hsm a0 a1
            simp [g78_0, hM, g32, g8, hi, ix, lx, fillL, upd, ew, e4, e5, e6, e7, hsm, rdH_at ex6, s5l, a0, a1, st, -Bool.decide_and]
            exact hJ _ hi ⟨hi, by simp, a4, a5, v9, F9, by simp, a2, a3⟩
          · have htv' : tv = ⟨true, 0⟩ := by rw [htv, totV, if_neg (by simpa using hsm)]
            obtain ⟨v9, h9, F9, a0, a1, a2, a3, a4, a5⟩ := fin [.bool x.null, vi x.n, .bool false, vi (grpF rows gn x).length, .bool true, vi 0] (by rw [htv']; rfl)
            unfold totS at hsm
            simp [g78_0, hM, g32, g8, hi, ix, lx, fillL, upd, ew, e4, e5, e6, e7, hsm, rdH_at ex6, s5l, a0, a1, st, -Bool.decide_and]
            exact hJ _ hi ⟨hi, by simp, a4, a5, v9, F9, by simp, a2, a3⟩
        · have : i = ys.length := by omega
          subst this
          obtain ⟨F', q1, _⟩ := o8.sd
          simp [g78_0, hM, g32, g8]
          have kfin : Keeps h s.h := fun b blk hb hst => by
            have := get_lt hb
            exact hk _ _ (by omega) (k03 _ _ hb hst) hst
          exact hR _ _ ⟨v8, _, F', by rw [hok], q1, fun _ => ⟨ys, ds, rfl⟩, fun h => absurd (hok.symm.trans h) (by decide), kfin, by omega⟩
      · simp [g78, fillL, e0, rdH_at eb, hg, hc, -Bool.decide_and]
        exact bad (by simp [gbB, hc])
    · simp [g78, fillL, e0, rdH_at eb, hg, -Bool.decide_and]
      exact bad (by simp [gbB, hg])
end GL

namespace GL
open Go

theorem grp_snoc {rows : List Rw} {g j : Nat} (x : Val) (hj : j < rows.length) : grpF (rows.take (j + 1)) g x = if rows[j].cols.getD g zV = x then grpF (rows.take j) g x ++ [rows[j]] else grpF (rows.take j) g x := by
  rw [List.take_succ_eq_append_getElem hj, grpF, List.filter_append]
  by_cases h : rows[j].cols.getD g zV = x
  · rw [if_pos h, List.filter_cons_of_pos (by simpa using h)]; rfl
  · rw [if_neg h, List.filter_cons_of_neg (by simpa using h)]; simp [grpF]
theorem colL_snoc (rows : List Rw) (r : Rw) (c : Nat) : colL (rows ++ [r]) c = colL rows c ++ [r.cols.getD c zV] := by simp [colL, zV]
theorem totV_eq (l : List Val) : totV l = if okV ⟨false, totS l⟩ = true then ⟨false, totS l⟩ else ⟨true, 0⟩ := rfl

theorem ByGroupS_ok {h : Heap} {v : V} {rows : List Rw} {F : List Nat} (hs : SdF h v rows F) (g c : Int) :
    ∃ o h', call p 79 [v, vi g, vi c] h = some (o, h') ∧ ∃ w zs G, o = .tup [w, .bool (gbB rows g c)] ∧ SdF h' w zs G ∧ (gbB rows g c = true → ∃ ys, Dst (colL rows g.toNat) ys ∧ zs = grpP rows g.toNat c.toNat ys ys.length) ∧ (gbB rows g c = false → zs = []) ∧ Keeps h h' ∧ h.length ≤ h'.length := by
  refine go (fn := g79) rfl rfl fun R hR => ?_
  have e0 := GoodTableS_eq hs
  have bad : gbB rows g c = false → R (.tup [.nils, .bool false]) h := fun hb => hR _ _ ⟨.nils, [], [], by rw [hb], SdF.nil, fun h => absurd (hb.symm.trans h) (by decide), fun _ => rfl, Keeps.refl _, Nat.le_refl _⟩
  cases hgd : goodT rows with
  | false =>
    rw [hgd] at e0
    simp [g79, fillL, e0]
    exact bad (by simp [gbB, hgd])
  | true =>
    rw [hgd] at e0
    obtain ⟨d1, d2, d3⟩ := goodT_facts hgd
    by_cases hg : 0 ≤ g ∧ g ≤ 2
    · by_cases hc : 0 ≤ c ∧ c ≤ 2
      · obtain ⟨gn, rfl⟩ := Int.eq_ofNat_of_zero_le hg.1
        obtain ⟨cn, rfl⟩ := Int.eq_ofNat_of_zero_le hc.1
        have hcols : ∀ r ∈ rows, r.cols.length = 3 := fun r hr => (okR_facts (d1 r hr)).2.1
        have hok : gbB rows gn cn = true := by simp [gbB, hgd]; omega
        have hcl : (colL rows gn).length = rows.length := by simp [colL]
        simp [g79, fillL, upd, e0, hg, hc, hs.len, -Bool.decide_and]
        refine Wc_upM (M := [8, 10, 33, 34, 35, 36, 37, 38, 39, 40, 41, 42, 43, 44, 45]) rfl rows.length (fun i s => i ≤ rows.length ∧ s.σ 33 = .v (vi i) ∧ Keeps h s.h ∧ h.length ≤ s.h.length ∧ ∃ v8, s.σ 8 = .v v8 ∧ Out h.length s.h v8 (colL (rows.take i) gn)) 0
          ⟨by omega, by simp, Keeps.refl _, Nat.le_refl _, .nils, by simp, by simpa [colL] using Out.nil (Nat.le_refl _)⟩ fun i s ⟨gi, g33, hk, hl0, v8, g8, o8⟩ hM J hJ => ?_
        by_cases hi : i < rows.length
        · have hs' := hs.keep hk
          obtain ⟨x, F2, ex, hx, _⟩ := hs'.loadR i hi
          have ix := hs'.idx 2 .i64 i hi
          have st := hs'.step hi
          have hci : gn < rows[i].cols.length := by have := hcols _ (List.getElem_mem hi); omega
          have iy := hx.idx 2 .i64 gn hci
          have ly := hx.sl.loadV gn hci
          have hT : colL (rows.take (i + 1)) gn = colL (rows.take i) gn ++ [rows[i].cols[gn]] := by
            rw [List.take_succ_eq_append_getElem hi, colL_snoc]
            simp [hci]
          obtain ⟨v', h2, e2, o2, k2, l2⟩ := o8.oneV rows[i].cols[gn] (by simp [colL]; omega)
          have kf := o8.far hk k2 (Nat.le_refl _)
          generalize rows[i].cols[gn] = y at *
          simp [g79_0, hM, g33, g8, hi, ix, ex, hx.cells, hx.cell, upd, iy, ly, fillL, rdS_last, e2, st]
          exact hJ _ hi ⟨hi, by simp, kf, by show h.length ≤ h2.length; omega, v', by simp, by rw [hT]; exact o2⟩
        · have : i = rows.length := by omega
          subst this
          rw [List.take_length] at o8
          obtain ⟨t47, h3, e3, ys, o3, ds, k3, l3⟩ := l4Distinct_ok o8.sl (by omega) (col_ok d1 (by omega))
          have hyl := o3.sl.len
          have hyn : ys.length ≤ 20 := by
            have hnd : ys.Nodup := ds.1.imp fun {a b} hab e => by subst e; omega
            have := hnd.length_le_of_subset fun x hx => (ds.2 x).1 hx
            omega
          have k03 := hk.trans k3
          simp [g79_0, hM, g33, g8, e3, hyl]
          refine Wc_upM (M := [11, 12, 13, 14, 16, 17, 49, 50, 51, 52, 53, 54, 55, 56, 57, 58, 59, 60, 61, 62, 63, 64, 65, 66, 67, 68, 69, 70, 71, 72, 73, 74, 75, 76, 77, 78, 79, 80, 81, 82, 83, 84, 85, 86, 87, 88, 89, 90, 91, 92, 93, 94]) rfl ys.length (fun i s => i ≤ ys.length ∧ s.σ 49 = .v (vi i) ∧ Keeps h3 s.h ∧ h3.length ≤ s.h.length ∧ ∃ v11 F11, s.σ 11 = .v v11 ∧ Od h3.length s.h v11 (grpP rows gn cn ys i) F11) 0
            ⟨by omega, by simp, Keeps.refl _, Nat.le_refl _, .nils, [], by simp, by simpa [grpP] using Od.nil (Nat.le_refl _)⟩ fun i s2 ⟨gi2, g49, hk2, hl2, v11, F11, g11, o11⟩ hM2 J2 hJ2 => ?_
          by_cases hi2 : i < ys.length
          · have o3' := o3.sl.keeps hk2
            have ix := o3'.idx 2 .i64 i hi2
            have lx := o3'.loadV i hi2
            have st := o3'.step hi2
            have hgd3 : ys.getD i zV = ys[i] := by simp [hi2]
            have hs2 := hs.keep (k03.trans hk2)
            have hgr := grpP_succ rows gn cn ys i
            rw [hgd3] at hgr
            generalize hx : ys[i] = x at *
            have en := l4None_eq s2.h
            simp [g79_2, hM2, hM, g49, hi2, ix, lx, fillL, upd, en, hs.len]
            refine Wc_upM (M := [16, 57, 58, 59, 60, 61, 62, 63, 64, 65, 66, 67, 68, 69, 70, 71, 72, 73, 74, 75]) rfl rows.length (fun j t => j ≤ rows.length ∧ t.σ 57 = .v (vi j) ∧ t.h = s2.h ∧ t.L 13 = ((s2.L 13).1 + 1, [.bool x.null, vi x.n]) ∧ t.L 14 = ((s2.L 14).1 + 1, sc (sumL (grpF (rows.take j) gn x).length (colL (grpF (rows.take j) gn x) cn)))) 0
              ⟨by omega, by simp, rfl, by simp [upd], by simp [upd, grpF, colL]⟩ fun j t ⟨gj, g57, gth, gL13, gL14⟩ hM3 J3 hJ3 => ?_
            by_cases hj : j < rows.length
            · obtain ⟨y, F2, ey, hy, _⟩ := hs2.loadR j hj
              have iy := hs2.idx 2 .i64 j hj
              have sj := hs2.step hj
              have h3j := hcols _ (List.getElem_mem hj)
              have hgj : gn < rows[j].cols.length := by omega
              have hcj : cn < rows[j].cols.length := by omega
              have ig := hy.idx 2 .i64 gn hgj
              have lg := hy.sl.loadV gn hgj
              have ic := hy.idx 2 .i64 cn hcj
              have lc := hy.sl.loadV cn hcj
              have ev := valv_eq rows[j].cols[gn] x
              have hsn := grp_snoc (rows := rows) (g := gn) x hj
              have eg : rows[j].cols.getD gn zV = rows[j].cols[gn] := by simp [hgj]
              have ec : rows[j].cols.getD cn zV = rows[j].cols[cn] := by simp [hcj]
              rw [eg] at hsn
              by_cases he : rows[j].cols[gn] = x
              · rw [decide_eq_true he] at ev
                rw [if_pos he] at hsn
                have hlt : (grpF (rows.take j) gn x).length ≤ j := Nat.le_trans (List.length_filter_le ..) (by simp; omega)
                have hcl3 : (colL (grpF (rows.take j) gn x) cn).length = (grpF (rows.take j) gn x).length := by simp [colL]
                have ea := l4Add_eq (l := colL (grpF (rows.take j) gn x) cn) (r := (grpF (rows.take j) gn x).length) (v := rows[j].cols[cn]) (by omega) (by omega) (col_ok (fun r hr => d1 r (List.mem_of_mem_take (grpF_sub r hr))) (by omega)) (by
                  have := (okR_facts (d1 _ (List.getElem_mem hj))).2.2
                  simp only [List.all_eq_true] at this
                  exact this _ (List.getElem_mem hcj)) s2.h
                have hnew : sumL ((grpF (rows.take j) gn x).length + 1 : Nat) (colL (grpF (rows.take j) gn x) cn ++ [rows[j].cols[cn]]) = sumL (grpF (rows.take (j + 1)) gn x).length (colL (grpF (rows.take (j + 1)) gn x) cn) := by
                  rw [hsn, colL_snoc, ec]; simp
                rw [hnew] at ea
                generalize sumL (grpF (rows.take j) gn x).length (colL (grpF (rows.take j) gn x) cn) = sm at *
                generalize sumL (grpF (rows.take (j + 1)) gn x).length (colL (grpF (rows.take (j + 1)) gn x) cn) = sm2 at *
                generalize rows[j].cols[gn] = yg at *
                generalize rows[j].cols[cn] = yc at *
                simp [g79_1, hM3, hM2, hM, g57, gth, gL13, gL14, hj, iy, ey, hy.cells, hy.cell, fillL, upd, ig, lg, ic, lc, ev, ea, sj]
                exact hJ3 _ hj ⟨hj, by simp, rfl, by simp [upd, gL13], by simp [upd]⟩
              · rw [decide_eq_false he] at ev
                rw [if_neg he] at hsn
                rw [← hsn] at gL14
                generalize rows[j].cols[gn] = yg at *
                simp [g79_1, hM3, hM2, hM, g57, gth, gL13, hj, iy, ey, hy.cells, hy.cell, fillL, upd, ig, lg, ev, sj]
                exact hJ3 _ hj ⟨hj, by simp, rfl, by simp [upd, gL13], by simp [upd, gL14]⟩
            · have : j = rows.length := by omega
              subst this
              rw [List.take_length] at gL14
              obtain ⟨tv, htv⟩ : ∃ tv : Val, tv = totV (colL (grpF rows gn x) cn) := ⟨_, rfl⟩
              have hcl2 : (colL (grpF rows gn x) cn).length = (grpF rows gn x).length := by simp [colL]
              have hgl : (grpF rows gn x).length ≤ rows.length := List.length_filter_le ..
              have hrows : (sumL (grpF rows gn x).length (colL (grpF rows gn x) cn)).rows = (grpF rows gn x).length := (sumL_inv _ _ _ rfl (col_ok (fun r hr => d1 r (grpF_sub r hr)) (by omega))).rows
              have htot : (sumL (grpF rows gn x).length (colL (grpF rows gn x) cn)).total = totS (colL (grpF rows gn x) cn) := by rw [totS, hcl2]
              have fin : ∀ cs, cs = flats [x, ⟨false, (grpF rows gn x).length⟩, tv] → ∃ v9 h9 F9, rdS (s2.h ++ [⟨.own, cs⟩, ⟨.own, [vi i, .slice s2.h.length 0 3 (.k 3)]⟩]) 2 (.slice (s2.h.length + 1) 0 1 (.k 1)) 1 = some [vi i, .slice s2.h.length 0 3 (.k 3)] ∧ appH 2 32 v11 1 [vi i, .slice s2.h.length 0 3 (.k 3)] (s2.h ++ [⟨.own, cs⟩, ⟨.own, [vi i, .slice s2.h.length 0 3 (.k 3)]⟩]) = some (v9, h9) ∧ Od h3.length h9 v9 (grpP rows gn cn ys (i + 1)) F9 ∧ Keeps h3 h9 ∧ h3.length ≤ h9.length := fun cs hcs => by
                have kz : Keeps s2.h (s2.h ++ [⟨.own, cs⟩]) := Keeps.append _ _
                have kn : Keeps (s2.h ++ [⟨.own, cs⟩]) (s2.h ++ [⟨.own, cs⟩] ++ [⟨.own, [vi i, .slice s2.h.length 0 3 (.k 3)]⟩]) := Keeps.append _ _
                have hz : SdF (s2.h ++ [⟨.own, cs⟩]) (.slice s2.h.length 0 3 (.k 3)) [x, ⟨false, (grpF rows gn x).length⟩, tv] [s2.h.length] := litV _ rfl hcs (by simp)
                have o8' := o11.keeps ((kz.trans kn).p fun _ => True) (fun _ _ => trivial) (fun _ _ => trivial) (by simp)
                obtain ⟨v9, h9, a1, a2, a3, a4, a5⟩ := o8'.app (zs := [grpR rows gn cn i x]) (ys := [vi i, .slice s2.h.length 0 3 (.k 3)]) (G := [s2.h.length]) (by simp) (.one ⟨_, rfl, by rw [htv] at hz; exact hz.keep kn⟩) (fun b hb hv => by
                  rw [List.mem_singleton] at hb
                  have := (o11.ge hv).2; omega) (bytes := 32) (by decide) (by rw [grpP_len]; simp; omega) (k := 2) (n := 1) rfl rfl
                rw [← hgr] at a2
                have a0 := rdS_last (h := s2.h ++ [⟨.own, cs⟩]) (cs := [vi i, .slice s2.h.length 0 3 (.k 3)]) (k := 2) (n := 1) (cap := .k 1) (by simp)
                simp at a4
                refine ⟨v9, h9, _, by simpa using a0, by simpa using a1, a2, Keeps.far (n := h3.length) (hk2.trans (kz.trans kn)) a3 (Nat.le_refl _) fun i hi hv => by have := (o11.ge hv).1; omega, by omega⟩
              generalize hsm2 : sumL (grpF rows gn x).length (colL (grpF rows gn x) cn) = sm at *
              cases hsm : okV ⟨false, totS (colL (grpF rows gn x) cn)⟩ with
              | true =>
                have htv' : tv = ⟨false, totS (colL (grpF rows gn x) cn)⟩ := by rw [htv, totV_eq, if_pos hsm]
                obtain ⟨v9, h9, F9, a0, a1, a2, a3, a5⟩ := fin [.bool x.null, vi x.n, .bool false, vi (grpF rows gn x).length, .bool false, vi (totS (colL (grpF rows gn x) cn))] (by rw [htv']; rfl)
                have eo := GoodValueS_mk false (totS (colL (grpF rows gn x) cn)) s2.h
                rw [hsm] at eo
                simp [g79_1, hM3, hM2, hM, g57, gth, g11, g49, gL13, gL14, hrows, htot, fillL, upd, eo, a0, a1, st]
                exact hJ2 _ hi2 ⟨hi2, by simp, a3, a5, v9, F9, by simp, a2⟩
              | false =>
                have htv' : tv = ⟨true, 0⟩ := by rw [htv, totV_eq, hsm]; rfl
                obtain ⟨v9, h9, F9, a0, a1, a2, a3, a5⟩ := fin [.bool x.null, vi x.n, .bool false, vi (grpF rows gn x).length, .bool true, vi 0] (by rw [htv']; rfl)
                have eo := GoodValueS_mk false (totS (colL (grpF rows gn x) cn)) s2.h
                rw [hsm] at eo
                simp [g79_1, hM3, hM2, hM, g57, gth, g11, g49, gL13, gL14, hrows, htot, fillL, upd, eo, a0, a1, st]
                exact hJ2 _ hi2 ⟨hi2, by simp, a3, a5, v9, F9, by simp, a2⟩
          · have : i = ys.length := by omega
            subst this
            obtain ⟨F', q1, _⟩ := o11.sd
            simp [g79_2, hM2, hM, g49, g11]
            exact hR _ _ ⟨v11, _, F', by rw [hok], q1, fun _ => ⟨ys, ds, rfl⟩, fun h => absurd (hok.symm.trans h) (by decide), k03.trans hk2, by omega⟩
      · simp [g79, fillL, e0, hg, hc, -Bool.decide_and]
        exact bad (by simp [gbB, hc])
    · simp [g79, fillL, e0, hg, -Bool.decide_and]
      exact bad (by simp [gbB, hg])
end GL

namespace GL
open Go

/-! plain laws of groups -/
theorem sum_one (a : Val → Nat) (c : Val) : ∀ (ys : List Val), ys.Nodup → (ys.map fun y => a y + if c = y then 1 else 0).sum = (ys.map a).sum + if c ∈ ys then 1 else 0
  | [], _ => by simp
  | y :: ys, hn => by
    rw [List.nodup_cons] at hn
    have ih := sum_one a c ys hn.2
    rw [List.map_cons, List.map_cons, List.sum_cons, List.sum_cons, ih]
    by_cases h1 : c = y
    · subst h1
      rw [if_pos rfl, if_neg hn.1, if_pos (by simp)]; omega
    · rw [if_neg h1]
      by_cases h2 : c ∈ ys
      · rw [if_pos h2, if_pos (by simp [h2])]; omega
      · rw [if_neg h2, if_neg (by simp [h1, h2])]; omega
theorem zero_sum : ∀ ys : List Val, (ys.map fun _ => 0).sum = 0
  | [] => rfl
  | y :: ys => by rw [List.map_cons, List.sum_cons, zero_sum ys]
theorem grp_sum {g : Nat} {ys : List Val} (hn : ys.Nodup) : ∀ {rows : List Rw}, (∀ r ∈ rows, r.cols.getD g zV ∈ ys) → (ys.map fun y => (grpF rows g y).length).sum = rows.length
  | [], _ => by
    have : (ys.map fun y => (grpF [] g y).length) = ys.map fun _ => 0 := List.map_congr_left fun y _ => rfl
    rw [this, zero_sum]; rfl
  | r :: rows, h => by
    have ih := grp_sum (rows := rows) hn fun x hx => h x (by simp [hx])
    have e : (ys.map fun y => (grpF (r :: rows) g y).length) = ys.map fun y => (grpF rows g y).length + if r.cols.getD g zV = y then 1 else 0 := List.map_congr_left fun y _ => by
      unfold grpF
      by_cases hy : r.cols.getD g zV = y
      · rw [List.filter_cons_of_pos (by simpa using hy), if_pos hy, List.length_cons]
      · rw [List.filter_cons_of_neg (by simpa using hy), if_neg hy]; rfl
    rw [e, sum_one _ _ _ hn, ih, if_pos (h r (by simp)), List.length_cons]
def sumN (rows : List Rw) (g : Nat) (ys : List Val) (i : Nat) : Nat := ((ys.take i).map fun y => (grpF rows g y).length).sum
theorem sumN_succ {rows : List Rw} {g : Nat} {ys : List Val} {i : Nat} (hi : i < ys.length) : sumN rows g ys (i + 1) = sumN rows g ys i + (grpF rows g ys[i]).length := by
  rw [sumN, List.take_succ_eq_append_getElem hi, List.map_append, List.sum_append]; simp [sumN]
theorem sumN_le {rows : List Rw} {g : Nat} {ys : List Val} (i : Nat) (hy : ys.length ≤ 20) (hr : rows.length ≤ 20) : sumN rows g ys i ≤ 20 * 20 := by
  have : ∀ l : List Val, (l.map fun y => (grpF rows g y).length).sum ≤ l.length * 20 := fun l => by
    induction l with
    | nil => simp
    | cons y l ih =>
      have := List.length_filter_le (fun r : Rw => decide (r.cols.getD g zV = y)) rows
      simp only [List.map_cons, List.sum_cons, List.length_cons, grpF] at ih ⊢
      omega
  have h1 := this (ys.take i)
  have h2 : (ys.take i).length ≤ 20 := by simp; omega
  unfold sumN; omega
theorem dst_nodup {xs ys : List Val} (d : Dst xs ys) : ys.Nodup := d.1.imp fun {a b} hab e => by subst e; omega
theorem dst_len {xs ys : List Val} (d : Dst xs ys) : ys.length ≤ xs.length := (dst_nodup d).length_le_of_subset fun x hx => (d.2 x).1 hx
theorem dst_sum {rows : List Rw} {g : Nat} {ys : List Val} (d : Dst (colL rows g) ys) : sumN rows g ys ys.length = rows.length := by
  rw [sumN, List.take_length]
  exact grp_sum (dst_nodup d) fun r hr => (d.2 _).2 (by simp only [colL, List.mem_map]; exact ⟨r, hr, rfl⟩)
theorem grpP_at {rows : List Rw} {g c : Nat} {ys : List Val} {i : Nat} (hi : i < ys.length) (h : i < (grpP rows g c ys ys.length).length) : (grpP rows g c ys ys.length)[i] = grpR rows g c i ys[i] := by
  simp [grpP, hi]
theorem okV_tot (l : List Val) : okV (totV l) = true := by
  rw [totV_eq]
  cases h : okV ⟨false, totS l⟩ with
  | true => simpa using h
  | false => rfl
theorem grpP_good {rows : List Rw} {g c : Nat} {ys : List Val} (hg : goodT rows = true) (hk : g < 3) (d : Dst (colL rows g) ys) : goodT (grpP rows g c ys ys.length) = true := by
  obtain ⟨d1, d2, d3⟩ := goodT_facts hg
  have hl := dst_len d
  have hcl : (colL rows g).length = rows.length := by simp [colL]
  have ho := col_ok d1 hk
  simp only [goodT, Bool.and_eq_true, List.all_eq_true, decide_eq_true_eq]
  refine ⟨⟨fun r hr => ?_, ?_⟩, by rw [grpP_len]; omega⟩
  · obtain ⟨i, hi, rfl⟩ := List.getElem_of_mem hr
    have hi2 : i < ys.length := by rw [grpP_len] at hi; exact hi
    rw [grpP_at hi2]
    have h1 : okV ys[i] = true := ho _ ((d.2 _).1 (List.getElem_mem hi2))
    have h2 : (grpF rows g ys[i]).length ≤ rows.length := List.length_filter_le ..
    have h3 : okV ⟨false, ((grpF rows g ys[i]).length : Nat)⟩ = true := by simp [okV]; omega
    simp only [okR, grpR, Bool.and_eq_true, decide_eq_true_eq, List.all_eq_true, List.mem_cons, List.not_mem_nil, or_false]
    refine ⟨⟨decide_eq_true (show (0 : Int) ≤ (i : Int) ∧ (i : Int) ≤ 999 by omega), decide_eq_true rfl⟩, ?_⟩
    rintro x (rfl | rfl | rfl)
    · exact h1
    · exact h3
    · exact okV_tot _
  · rw [grpP, List.pairwise_map]
    exact List.pairwise_lt_range.imp fun {a b} h => by show ((a : Nat) : Int) < b; omega
end GL

namespace GL
open Go

theorem DrawSumOf_ok {h : Heap} {v : V} {bs : List Byte} (hs : Sl h v bs) : ∃ r h', call p 28 [v] h = some (r, h') ∧ ∃ xs : List Val, Sl h' r xs ∧ capOK 2 r ∧ Keeps h h' := by
  obtain ⟨w, h1, e1, xs, ho, hx, d1, k1, l1⟩ := (DC.start hs).values (by decide)
  refine go (fn := g28) rfl rfl fun R hR => ?_
  simp [g28, fillL, hs.cells, hs.cell, e1]
  exact hR _ _ ⟨xs, ho.sl, ho.cap, d1.keep⟩
end GL

namespace GL
open Go

theorem upd_off {f : Nat → T} {i k : Nat} {x : T} (h : k ≠ i) : upd f i x k = f k := if_neg h
theorem drawDistinct_ok {h : Heap} {v : V} {bs : List Byte} (hs : Sl h v bs) : ∃ r h', call p 81 [v] h = some (r, h') ∧ ∃ xs : List Val, Sl h' r xs ∧ Keeps h h' := by
  obtain ⟨r, h1, e1, xs, s1, _, k1⟩ := DrawSumOf_ok hs
  refine go (fn := g81) rfl rfl fun R hR => ?_
  simp [g81, e1]
  exact hR _ _ ⟨xs, s1, k1⟩
/-- the law's second half -/
theorem grouped_tail {H : Heap} {vb : V} {bs : List Byte} (hb : Sl H vb bs) : ∃ (u : V) (h1 : Heap) (w1 : V) (ok : Bool) (h2 : Heap) (w2 : V) (h3 : Heap) (t : V) (k : Int) (x : Val) (h4 : Heap) (n : Int) (b : Bool) (ys : List Val),
    call p 81 [vb] H = some (u, h1) ∧ call p 80 [u] h1 = some (.tup [w1, .bool ok], h2) ∧ call p 82 [u] h2 = some (.tup [w2, .bool ok], h3) ∧ call p 83 [vb] h3 = some (.tup [t, vi k, vv x], h4) ∧ call p 84 [t, vi k, vv x] h4 = some (.tup [vi n, .bool b], h4) ∧ call p 85 [t, vi k, vv x] h4 = some (.tup [vi n, .bool b], h4) ∧ Sl h4 w1 ys ∧ Sl h4 w2 ys := by
  obtain ⟨u, h1, e1, xs, s1, k1⟩ := drawDistinct_ok hb
  obtain ⟨_, h2, e2, w1, ys, rfl, s2, a2, b2, k2, l2⟩ := DistinctOf_ok s1
  obtain ⟨_, h3, e3, w2, zs, rfl, s3, a3, b3, k3, l3⟩ := DistinctOfS_ok (s1.keeps k2)
  have hyz : ys = zs := by
    cases hd : disB xs with
    | true => exact (a2 hd).uniq (a3 hd)
    | false => rw [b2 hd, b3 hd]
  subst hyz
  obtain ⟨_, h4, e4, t, l, k, x, rfl, s4, k4, l4⟩ := drawCount_ok (((hb.keeps k1).keeps k2).keeps k3)
  have e5 := CountWhere_eq s4 k x
  have e6 := CountWhereS_eq s4 k x
  obtain ⟨n, b, hc⟩ : ∃ (n : Int) (b : Bool), cntR l k x = .tup [vi n, .bool b] := by
    unfold cntR
    split
    · exact ⟨_, _, rfl⟩
    · exact ⟨_, _, rfl⟩
  rw [hc] at e5 e6
  exact ⟨u, h1, w1, _, h2, w2, h3, t, k, x, h4, n, b, ys, e1, e2, e3, e4, e5, e6, (s2.keeps k3).keeps k4, s3.keeps k4⟩
/-- the last loop: one list twice -/
theorem grouped_last {x y : V} {H : Heap} {ys : List Val} (hx : Sl H x ys) (hy : Sl H y ys) (s0 : S) (K : Ex → S → Prop) (g21 : s0.σ 21 = .v x) (g23 : s0.σ 23 = .v y) (g192 : s0.σ 192 = .v (vi ys.length)) (g193 : s0.σ 193 = .v (vi 0)) (gh : s0.h = H)
    (hK : ∀ s, s.h = H → K (.exit 4) s) : Wc p (.loop g76_2) s0 K := by
  refine Wc_upM (M := [4, 32, 193, 194, 195, 196, 197, 198, 199, 200, 201, 202, 203, 204, 205]) rfl ys.length (fun i s => s.σ 193 = .v (vi i) ∧ s.h = H) 0 ⟨g193, gh⟩ fun i s ⟨g193, gh⟩ hM J hJ => ?_
  by_cases hn : i < ys.length
  · have ix := hx.idx 2 .i64 i hn
    have iy := hy.idx 2 .i64 i hn
    have lx := hx.loadV i hn
    have ly := hy.loadV i hn
    have ev := valv_eq ys[i] ys[i]
    have st := hx.step hn
    generalize ys[i] = z at *
    simp [g76_2, hM, g21, g23, g192, g193, gh, hn, ix, iy, lx, ly, st, ev]
    exact hJ _ hn ⟨by simp, rfl⟩
  · simp [g76_2, hM, g192, g193, gh, hn]
    exact hK _ rfl

/-- all values of the column -/
theorem grouped_all {x : V} {H : Heap} {rows : List Rw} {F : List Nat} {g : Nat} (hs : SdF H x rows F) (hc : ∀ r ∈ rows, g < r.cols.length) (hl : rows.length ≤ 2 ^ 10) (s0 : S) (K : Ex → S → Prop) (g69 : s0.σ 69 = .v x) (g6 : s0.σ 6 = .v (vi g)) (g12 : s0.σ 12 = .v .nils) (g70 : s0.σ 70 = .v (vi rows.length)) (g71 : s0.σ 71 = .v (vi 0)) (gh : s0.h = H)
    (hK : ∀ s v, s.σ 12 = .v v → Out H.length s.h v (colL rows g) → Keeps H s.h → H.length ≤ s.h.length → (∀ k, k ∉ [12, 14, 71, 72, 73, 74, 75, 76, 77, 78, 79, 80, 81, 82, 83] → s.σ k = s0.σ k) → K (.exit 0) s) : Wc p (.loop g76_0) s0 K := by
  refine Wc_upM (M := [12, 14, 71, 72, 73, 74, 75, 76, 77, 78, 79, 80, 81, 82, 83]) rfl rows.length (fun i s => i ≤ rows.length ∧ s.σ 71 = .v (vi i) ∧ Keeps H s.h ∧ H.length ≤ s.h.length ∧ ∃ v12, s.σ 12 = .v v12 ∧ Out H.length s.h v12 (colL (rows.take i) g)) 0
    ⟨by omega, g71, by rw [gh]; exact Keeps.refl _, by rw [gh]; exact Nat.le_refl _, .nils, g12, by rw [gh]; simpa [colL] using Out.nil (Nat.le_refl _)⟩ fun i s ⟨gi, g71, hk, hl0, v12, g12, o12⟩ hM J hJ => ?_
  by_cases hi : i < rows.length
  · have hs' := hs.keep hk
    obtain ⟨y, F2, ex, hx, _⟩ := hs'.loadR i hi
    have ix := hs'.idx 2 .i64 i hi
    have st := hs'.step hi
    have hci := hc _ (List.getElem_mem hi)
    have iy := hx.idx 2 .i64 g hci
    have ly := hx.sl.loadV g hci
    have hT : colL (rows.take (i + 1)) g = colL (rows.take i) g ++ [rows[i].cols[g]] := by
      rw [List.take_succ_eq_append_getElem hi, colL_snoc]
      simp [hci]
    obtain ⟨v', h2, e2, o2, k2, l2⟩ := o12.oneV rows[i].cols[g] (by simp [colL]; omega)
    have kf := o12.far hk k2 (Nat.le_refl _)
    generalize rows[i].cols[g] = z at *
    simp [g76_0, hM, g69, g6, g70, g71, g12, hi, ix, ex, hx.cells, hx.cell, upd, iy, ly, fillL, rdS_last, e2, st]
    exact hJ _ hi ⟨hi, by simp, kf, by show H.length ≤ h2.length; omega, v', by simp, by rw [hT]; exact o2⟩
  · have : i = rows.length := by omega
    subst this
    rw [List.take_length] at o12
    simp [g76_0, hM, g70, g71]
    exact hK _ v12 (by simpa using g12) o12 hk hl0 (fun k hk' => (upd_off (fun e => hk' (by rw [e]; decide))).trans (hM k hk'))

/-- the groups are those of the values, and all rows are in them -/
theorem grouped_each {x y : V} {H : Heap} {rows : List Rw} {F : List Nat} {g c : Nat} {ys : List Val} (hy20 : ys.length ≤ 20) (hr20 : rows.length ≤ 20) (hs : SdF H x (grpP rows g c ys ys.length) F) (hy : Sl H y ys) (s0 : S) (K : Ex → S → Prop) (g89 : s0.σ 89 = .v x) (g15 : s0.σ 15 = .v y) (g17 : s0.σ 17 = .v (vi 0)) (g90 : s0.σ 90 = .v (vi ys.length)) (g91 : s0.σ 91 = .v (vi 0)) (gh : s0.h = H)
    (hK : ∀ s, s.h = H → s.σ 17 = .v (vi (sumN rows g ys ys.length)) → (∀ k, k ∉ [4, 17, 18, 19, 91, 92, 93, 94, 95, 96, 97, 98, 99, 100, 101, 102, 103, 104, 105, 106, 107, 108, 109, 110, 111, 112, 113, 114, 115, 116, 117, 118] → s.σ k = s0.σ k) → K (.exit 2) s) : Wc p (.loop g76_1) s0 K := by
  refine Wc_upM (M := [4, 17, 18, 19, 91, 92, 93, 94, 95, 96, 97, 98, 99, 100, 101, 102, 103, 104, 105, 106, 107, 108, 109, 110, 111, 112, 113, 114, 115, 116, 117, 118]) rfl ys.length (fun i s => i ≤ ys.length ∧ s.σ 91 = .v (vi i) ∧ s.h = H ∧ s.σ 17 = .v (vi (sumN rows g ys i))) 0 ⟨by omega, g91, gh, by simpa [sumN] using g17⟩ fun i s ⟨gi, g91, gh, g17⟩ hM J hJ => ?_
  by_cases hi : i < ys.length
  · have hi2 : i < (grpP rows g c ys ys.length).length := by rw [grpP_len]; exact hi
    obtain ⟨z, F2, ez, hz, _⟩ := hs.loadR i hi2
    have ix := hs.idx 2 .i64 i hi2
    have st := hy.step hi
    have iy := hy.idx 2 .i64 i hi
    have ly := hy.loadV i hi
    have hat := grpP_at (rows := rows) (g := g) (c := c) hi hi2
    rw [hat] at ez hz
    have hz : SdF H z [ys[i], ⟨false, ((grpF rows g ys[i]).length : Nat)⟩, totV (colL (grpF rows g ys[i]) c)] F2 := hz
    have i0 := hz.idx 2 .i64 0 (by simp)
    have i1 := hz.idx 2 .i64 1 (by simp)
    have v0 := hz.sl.loadV 0 (by simp)
    have v1 := rdH_sub (hz.sl.loadV 1 (by simp)) 1 1 (by decide)
    simp at i0 i1 v0 v1
    have ev := valv_eq ys[i] ys[i]
    have hsn := sumN_succ (rows := rows) (g := g) hi
    have hb1 := sumN_le (rows := rows) (g := g) i hy20 hr20
    have hb2 : (grpF rows g ys[i]).length ≤ rows.length := List.length_filter_le ..
    have ws : IntKind.i64.wrap ((sumN rows g ys i : Int) + ((grpF rows g ys[i]).length : Nat)) = (sumN rows g ys (i + 1) : Nat) := by
      rw [hsn, IntWalk.i64_in] <;> omega
    have ekey : (grpR rows g c i ys[i]).key = (i : Int) := rfl
    have hnl : ¬ ys.length ≤ i := by omega
    rw [ekey] at ez
    generalize hzz : ys[i] = w at *
    generalize (grpF rows g w).length = m at *
    simp [g76_1, hM, g89, g15, g90, g91, gh, g17, hi, hnl, ix, ez, fillL, upd, hz.cells, hz.cell, i0, i1, v0, v1, hy.len, iy, ly, ev, st, ws, -Int.natCast_add]
    exact hJ _ hi ⟨hi, by simp, rfl, by simp⟩
  · have : i = ys.length := by omega
    subst this
    simp [g76_1, hM, g90, g91, gh]
    exact hK _ rfl (by simpa using g17) (fun k hk' => (upd_off (fun e => hk' (by rw [e]; decide))).trans (hM k hk'))

set_option maxRecDepth 20000 in
theorem FnGrouped_ok {h : Heap} {va vb : V} {az bs : List Byte} (ha : Sl h va az) (hb : Sl h vb bs) : ∃ r h', call p 76 [va, vb] h = some (r, h') ∧ r = .bool true := by
  refine go (fn := g76) rfl rfl fun R hR => ?_
  by_cases hbig : (1048576 : Int) < IntKind.i64.wrap ((az.length : Int) + bs.length)
  · simp [g76, ha.len, hb.len, hbig]
    exact hR _ _ rfl
  · obtain ⟨_, h1, e1, t, rows, F, g, c, rfl, s1, k1, l1⟩ := drawByGroup_ok ha
    obtain ⟨_, h2, e2, w1, zs, G1, rfl, s2, a2, b2, k2, l2⟩ := ByGroupI_ok s1 g c
    obtain ⟨_, h3, e3, w2, zs2, G2, rfl, s3, a3, b3, k3, l3⟩ := ByGroupS_ok (s1.keep k2) g c
    have hzz : zs = zs2 := by
      cases hd : gbB rows g c with
      | true =>
        obtain ⟨y1, d1, rfl⟩ := a2 hd
        obtain ⟨y2, d2, rfl⟩ := a3 hd
        rw [d1.uniq d2]
      | false => rw [b2 hd, b3 hd]
    subst hzz
    have s2' := s2.keep k3
    have e4 := sameTable_same s2' s3
    have k13 := (k1.trans k2).trans k3
    cases hok : gbB rows g c with
    | false =>
      rw [hok] at e2 e3
      obtain ⟨u, g1, q1, ok, g2, q2, g3, q3, k, x, g4, n, b, ys, t1, t2, t3, t4, t5, t6, t7, t8⟩ := grouped_tail (hb.keeps k13)
      simp [g76, ha.len, hb.len, hbig, fillL, upd, resV, mkV, e1, e2, e3, e4, t1, t2, t3, t4, t5, t6, t7.len, t8.len]
      refine grouped_last t7 t8 _ _ (by simp) (by simp) (by simp) (by simp) rfl fun s gh => ?_
      simp [gh]
      exact hR _ _ rfl
    | true =>
      obtain ⟨ys, ds, rfl⟩ := a2 hok
      rw [hok] at e2 e3
      simp only [gbB, Bool.and_eq_true, decide_eq_true_eq] at hok
      obtain ⟨⟨hg, hgr⟩, hcr⟩ := hok
      obtain ⟨gn, rfl⟩ := Int.eq_ofNat_of_zero_le hgr.1
      obtain ⟨cn, rfl⟩ := Int.eq_ofNat_of_zero_le hcr.1
      have ds : Dst (colL rows gn) ys := ds
      obtain ⟨d1, d2, d3⟩ := goodT_facts hg
      have hcl : (colL rows gn).length = rows.length := by simp [colL]
      have hyl := dst_len ds
      have hgood := grpP_good (c := cn) hg (by omega) ds
      have s2' : SdF h3 w1 (grpP rows gn cn ys ys.length) G1 := s2'
      have lrows := s1.len
      simp [g76, ha.len, hb.len, hbig, fillL, upd, resV, mkV, e1, e2, e3, e4, lrows]
      refine grouped_all (g := gn) (s1.keep (k2.trans k3)) (fun r hr => by have := (okR_facts (d1 r hr)).2.1; omega) (by omega) _ _ (by simp) (by simp) (by simp) (by simp) (by simp) rfl fun s v12 m12 o12 hk hl hM1 => ?_
      obtain ⟨_, h5, e5, w5, us, rfl, s5, a5, _, k5, l5⟩ := DistinctOf_ok o12.sl
      have hdis : disB (colL rows gn) = true := by
        simp only [disB, Bool.and_eq_true, decide_eq_true_eq, List.all_eq_true]
        exact ⟨col_ok d1 (by omega), by omega⟩
      have hus : us = ys := (a5 hdis).uniq ds
      subst hus
      rw [hdis] at e5
      have s25 := s2'.keep (hk.trans k5)
      have l8 := s25.len
      rw [grpP_len] at l8
      have m8 := hM1 8 (by decide)
      have m1 := hM1 1 (by decide)
      have m5 := hM1 5 (by decide)
      simp at m8 m1 m5
      simp [m12, m8, e5, l8, resV, mkV, fillL, upd]
      refine grouped_each (rows := rows) (g := gn) (c := cn) (by omega) d3 s25 s5 _ _ (by simp) (by simp) (by simp) (by simp) (by simp) rfl fun s' gh' g17 hM2 => ?_
      have n8 := hM2 8 (by decide)
      have n1 := hM2 1 (by decide)
      have n5 := hM2 5 (by decide)
      have n15 := hM2 15 (by decide)
      have n16 := hM2 16 (by decide)
      simp [m8, m1, m5] at n8 n1 n5 n15 n16
      have e6 := GoodTable_eq s25
      rw [hgood] at e6
      rw [dst_sum ds] at g17
      have lr5 := (s1.keep (((k2.trans k3).trans hk).trans k5)).len
      obtain ⟨u, g1, q1, ok, g2, q2, g3, q3, k, x, g4, n, b, ys2, t1, t2, t3, t4, t5, t6, t7, t8⟩ := grouped_tail (hb.keeps ((k13.trans hk).trans k5))
      simp [gh', n8, n1, n5, n15, n16, g17, e6, l8, s5.len, lr5, fillL, upd, resV, mkV, t1, t2, t3, t4, t5, t6, t7.len, t8.len]
      refine grouped_last t7 t8 _ _ (by simp) (by simp) (by simp) (by simp) rfl fun s gh => ?_
      simp [gh]
      exact hR _ _ rfl
end GL

