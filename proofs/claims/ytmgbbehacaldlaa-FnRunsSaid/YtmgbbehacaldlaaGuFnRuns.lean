import Derived.ChangeArms
import Derived.IntWalk
import Derived.WideShapes
import Derived.Test.YtmgbbehacaldlaaGuFnRunsA
/- What the functions of the law do, on the machine. -/
set_option linter.unusedSimpArgs false
set_option linter.unusedVariables false
set_option linter.unnecessarySimpa false
namespace GL
open Go

def runB (l : List Sp) (st : List Int) : Bool := storeB st && stepsB l
def runR (l : List Sp) (st : List Int) : List Int × List Int := if runB l st = true then runF l (upTo l.length) st else ([], [])
theorem RunSteps_ok {h : Heap} {v0 vl : V} {st : List Int} {l : List Sp} (hs : Sl h v0 st) (hl : Sl h vl l) (hll : l.length ≤ 2 ^ 40) :
    ∃ r h', call p 579 [v0, vl] h = some (r, h') ∧ ∃ a b Fa Fb, r = .tup [a, b, .bool (runB l st)] ∧ SdF h' a (runR l st).1 Fa ∧ SdF h' b (runR l st).2 Fb ∧ Keeps h h' ∧ h.length ≤ h'.length := by
  obtain ⟨_, h1, e1, rfl, k1, l1⟩ := isStore_ok hs
  have e2 := GoodSteps_eq (hl.keeps k1) hll
  refine go (fn := g579) rfl rfl fun R hR => ?_
  cases c1 : storeB st with
  | false =>
    rw [c1] at e1
    have hb : runB l st = false := by simp [runB, c1]
    simp only [runR, hb] at hR
    simp [g579, e1]
    exact hR _ _ ⟨.nils, .nils, [], [], rfl, .nil, .nil, k1, l1⟩
  | true =>
    rw [c1] at e1
    cases c2 : stepsB l with
    | false =>
      rw [c2] at e2
      have hb : runB l st = false := by simp [runB, c2]
      simp only [runR, hb] at hR
      simp [g579, e1, e2]
      exact hR _ _ ⟨.nils, .nils, [], [], rfl, .nil, .nil, k1, l1⟩
    | true =>
      rw [c2] at e2
      have hb : runB l st = true := by simp [runB, c1, c2]
      simp only [runR, hb, if_true] at hR
      have c2' := c2
      simp only [stepsB, Bool.and_eq_true, decide_eq_true_eq] at c2'
      obtain ⟨r, h2, e3, o2, k2, l2⟩ := allColumns_ok (h := h1) l.length (by omega)
      obtain ⟨_, h3, e4, a, b, Fa, Fb, rfl, s1, s2, k3, l3⟩ := runAll_ok (hs.keeps (k1.trans k2)) (hl.keeps (k1.trans k2)) o2.sl c1 c2 (fun x hx => mem_upTo.1 hx)
      simp [g579, e1, e2, hl.len, e3, e4]
      exact hR _ _ ⟨a, b, Fa, Fb, rfl, s1, s2, (k1.trans k2).trans k3, by omega⟩

def usedL (k : Int) (l : List Sp) : List Int := (upTo 12).filter fun x => l.any fun s => decide (s.kind = k) && decide (cellS s = x)
theorem usedL_rising (k : Int) (l : List Sp) : (usedL k l).Pairwise (· < ·) := (range_rising 12).filter _
theorem mem_usedL {k : Int} {l : List Sp} {x : Int} : x ∈ usedL k l ↔ (0 ≤ x ∧ x < 12) ∧ ∃ s ∈ l, s.kind = k ∧ cellS s = x := by
  simp only [usedL, List.mem_filter, mem_upTo, List.any_eq_true, Bool.and_eq_true, decide_eq_true_eq]
  exact Iff.rfl
theorem usedL_len (k : Int) (l : List Sp) : (usedL k l).length ≤ 12 := Nat.le_trans (List.length_filter_le ..) (by rw [upTo_len]; omega)
theorem usedL_next {k : Int} {l : List Sp} {i : Nat} (hi : i < l.length) (hk : l[i].kind = k) (hc : 0 ≤ cellS l[i] ∧ cellS l[i] < 12) {ys : List Int} (hr : ys.Pairwise (· < ·)) (hm : ∀ x, x ∈ ys ↔ x ∈ usedL k (l.take i) ∨ x = cellS l[i]) : ys = usedL k (l.take (i + 1)) := by
  refine rising_ext hr (usedL_rising _ _) fun x => ?_
  rw [hm, mem_usedL, mem_usedL]
  constructor
  · rintro (⟨h1, s, h2, h3⟩ | rfl)
    · exact ⟨h1, s, (mem_take_succ hi).2 (.inl h2), h3⟩
    · exact ⟨hc, l[i], (mem_take_succ hi).2 (.inr rfl), hk, rfl⟩
  · rintro ⟨h1, s, h2, h3⟩
    rcases (mem_take_succ hi).1 h2 with h | h
    · exact .inl ⟨h1, s, h, h3⟩
    · subst h; exact .inr h3.2.symm
theorem usedL_skip {k : Int} {l : List Sp} {i : Nat} (hi : i < l.length) (hk : l[i].kind ≠ k) : usedL k (l.take (i + 1)) = usedL k (l.take i) := by
  refine rising_ext (usedL_rising _ _) (usedL_rising _ _) fun x => ?_
  rw [mem_usedL, mem_usedL]
  constructor
  · rintro ⟨h1, s, h2, h3⟩
    rcases (mem_take_succ hi).1 h2 with h | h
    · exact ⟨h1, s, h, h3⟩
    · subst h; exact absurd h3.1 hk
  · rintro ⟨h1, s, h2, h3⟩
    exact ⟨h1, s, (mem_take_succ hi).2 (.inl h2), h3⟩
def usedR (k : Int) (l : List Sp) : List Int := if stepsB l = true then usedL k l else []

theorem KeysUsed_ok {h : Heap} {vl : V} {l : List Sp} (hl : Sl h vl l) (hll : l.length ≤ 2 ^ 40) :
    ∃ r h', call p 580 [vl] h = some (r, h') ∧ ∃ a b Fa Fb, r = .tup [a, b, .bool (stepsB l)] ∧ SdF h' a (usedR 1 l) Fa ∧ SdF h' b (usedR 3 l) Fb ∧ Keeps h h' ∧ h.length ≤ h'.length := by
  have e1 := GoodSteps_eq hl hll
  refine go (fn := g580) rfl rfl fun R hR => ?_
  cases c2 : stepsB l with
  | false =>
    rw [c2] at e1
    simp only [usedR, c2] at hR
    simp [g580, e1]
    exact hR _ _ ⟨.nils, .nils, [], [], rfl, .nil, .nil, Keeps.refl _, Nat.le_refl _⟩
  | true =>
    rw [c2] at e1
    simp only [usedR, c2, if_true] at hR
    have c2' := c2
    simp only [stepsB, Bool.and_eq_true, decide_eq_true_eq] at c2'
    simp [g580, e1, fillL, hl.len]
    have hnil : ∀ k, usedL k (l.take 0) = [] := fun k => by simp [usedL]
    have emp : ∀ (H : Heap) (b : Nat), SdF H (.slice b 0 0 (.k 0)) ([] : List Int) [] := fun H b => ⟨by simp, .inr ⟨b, 0, .k 0, rfl, Nat.le_refl _, .inl ⟨rfl, rfl⟩⟩⟩
    refine Wc_upM (M := [5, 6, 8, 16, 17, 18, 19, 20, 21, 22, 23, 24, 25, 26, 27, 28, 29, 30, 31, 32, 33, 34, 35, 36]) rfl l.length (fun i s => i ≤ l.length ∧ s.σ 16 = .v (vi i) ∧ (∃ a b Fa Fb, s.σ 5 = .v a ∧ s.σ 6 = .v b ∧ SdF s.h a (usedL 1 (l.take i)) Fa ∧ SdF s.h b (usedL 3 (l.take i)) Fb) ∧ Keeps h s.h ∧ h.length ≤ s.h.length) 0
      ⟨by omega, by simp, ⟨.slice h.length 0 0 (.k 0), .slice (h.length + 1) 0 0 (.k 0), [], [], by simp, by simp, by rw [hnil]; exact emp _ _, by rw [hnil]; exact emp _ _⟩, by exact Keeps.append h [⟨.own, []⟩, ⟨.own, []⟩], by simp⟩ fun i s ⟨gi, g16, ⟨a, b, Fa, Fb, g5, g6, sa, sb⟩, hk, hln⟩ hM J hJ => ?_
    by_cases hi : i < l.length
    · have ix := hl.idx 5 .i64 i hi
      have ld := (hl.keeps hk).loadS i hi
      have st := hl.step hi
      obtain ⟨o1, o2, o3⟩ := stepsP_at c2'.1 hi
      have hc : 0 ≤ cellS l[i] ∧ cellS l[i] < 12 := by unfold cellS; omega
      have n1 := fun (hk : l[i].kind = 1) => @usedL_next 1 l i hi hk hc
      have n3 := fun (hk : l[i].kind = 3) => @usedL_next 3 l i hi hk hc
      have s1 := fun (hk : l[i].kind ≠ 1) => usedL_skip (k := 1) hi hk
      have s3 := fun (hk : l[i].kind ≠ 3) => usedL_skip (k := 3) hi hk
      have la := usedL_len 1 (l.take i)
      have lb := usedL_len 3 (l.take i)
      have ec := cell_eq l[i] o1 o2 s.h
      generalize l[i] = x at *
      obtain ⟨sk, ss, sy, sr, sn⟩ := x
      simp only [spv] at ec
      have k1 : Keeps s.h (s.h ++ [⟨.own, [vi (cellS ⟨sk, ss, sy, sr, sn⟩)]⟩]) := Keeps.append _ _
      have sl1 := Sl.lit (h := s.h) [cellS ⟨sk, ss, sy, sr, sn⟩] 1 rfl [vi (cellS ⟨sk, ss, sy, sr, sn⟩)] rfl (.k 1) (by simp)
      obtain ⟨G1, sd1, _⟩ := Sl.sdF sl1 (Nat.le_refl 1)
      by_cases q1 : sk = 1
      · subst q1
        obtain ⟨w2, h2, e2, zs, G2, t2, f2, r2, m2, k2, l2⟩ := together_ok (sa.keep k1) sd1 (by simp; omega)
        have hz := n1 rfl r2 (fun x => by rw [m2]; simp)
        simp at l2
        simp [g580_0, hM, g16, g5, g6, hi, ix, ld, upd, ec, fillL, e2, st]
        exact hJ _ hi ⟨hi, by simp, ⟨w2, b, G2, Fb, by simp, by simp [g6], by rw [← hz]; exact t2, by rw [s3 (show (1 : Int) ≠ 3 by decide)]; exact sb.keep (k1.trans k2)⟩, hk.trans (k1.trans k2), by show h.length ≤ h2.length; omega⟩
      · by_cases q3 : sk = 3
        · subst q3
          obtain ⟨w2, h2, e2, zs, G2, t2, f2, r2, m2, k2, l2⟩ := together_ok (sb.keep k1) sd1 (by simp; omega)
          have hz := n3 rfl r2 (fun x => by rw [m2]; simp)
          simp at l2
          simp [g580_0, hM, g16, g5, g6, hi, ix, ld, upd, ec, fillL, e2, st]
          exact hJ _ hi ⟨hi, by simp, ⟨a, w2, Fa, G2, by simp [g5], by simp, by rw [s1 (show (3 : Int) ≠ 1 by decide)]; exact sa.keep (k1.trans k2), by rw [← hz]; exact t2⟩, hk.trans (k1.trans k2), by show h.length ≤ h2.length; omega⟩
        · simp [g580_0, hM, g16, g5, g6, hi, ix, ld, upd, q1, q3, st]
          exact hJ _ hi ⟨hi, by simp, ⟨a, b, Fa, Fb, by simp [g5], by simp [g6], by rw [s1 q1]; exact sa, by rw [s3 q3]; exact sb⟩, hk, hln⟩
    · have : i = l.length := by omega
      subst this
      rw [List.take_length] at sa sb
      simp [g580_0, hM, g16, g5, g6]
      exact hR _ _ ⟨a, b, Fa, Fb, rfl, sa, sb, hk, hln⟩
theorem KeysUsedS_ok {h : Heap} {vl : V} {l : List Sp} (hl : Sl h vl l) (hll : l.length ≤ 2 ^ 40) :
    ∃ r h', call p 581 [vl] h = some (r, h') ∧ ∃ a b Fa Fb, r = .tup [a, b, .bool (stepsB l)] ∧ SdF h' a (usedR 1 l) Fa ∧ SdF h' b (usedR 3 l) Fb ∧ Keeps h h' ∧ h.length ≤ h'.length := by
  have e1 := GoodStepsS_eq hl hll
  refine go (fn := g581) rfl rfl fun R hR => ?_
  cases c2 : stepsB l with
  | false =>
    rw [c2] at e1
    simp only [usedR, c2] at hR
    simp [g581, e1]
    exact hR _ _ ⟨.nils, .nils, [], [], rfl, .nil, .nil, Keeps.refl _, Nat.le_refl _⟩
  | true =>
    rw [c2] at e1
    simp only [usedR, c2, if_true] at hR
    have c2' := c2
    simp only [stepsB, Bool.and_eq_true, decide_eq_true_eq] at c2'
    simp [g581, e1, hl.len]
    have hnil : ∀ k, usedL k (l.take 0) = [] := fun k => by simp [usedL]
    refine Wc_upM (M := [5, 6, 8, 14, 15, 16, 17, 18, 19, 20, 21, 22, 23, 24, 25, 26, 27, 28, 29, 30, 31, 32, 33, 34, 35, 36, 37, 38, 39, 40]) rfl l.length (fun i s => i ≤ l.length ∧ s.σ 14 = .v (vi i) ∧ (∃ a b Fa Fb, s.σ 5 = .v a ∧ s.σ 6 = .v b ∧ SdF s.h a (usedL 1 (l.take i)) Fa ∧ SdF s.h b (usedL 3 (l.take i)) Fb) ∧ Keeps h s.h ∧ h.length ≤ s.h.length) 0
      ⟨by omega, by simp, ⟨.nils, .nils, [], [], by simp, by simp, by rw [hnil]; exact .nil, by rw [hnil]; exact .nil⟩, Keeps.refl _, Nat.le_refl _⟩ fun i s ⟨gi, g16, ⟨a, b, Fa, Fb, g5, g6, sa, sb⟩, hk, hln⟩ hM J hJ => ?_
    by_cases hi : i < l.length
    · have ix := hl.idx 5 .i64 i hi
      have ld := (hl.keeps hk).loadS i hi
      have st := hl.step hi
      obtain ⟨o1, o2, o3⟩ := stepsP_at c2'.1 hi
      have hc : 0 ≤ cellS l[i] ∧ cellS l[i] < 12 := by unfold cellS; omega
      have n1 := fun (hk : l[i].kind = 1) => @usedL_next 1 l i hi hk hc
      have n3 := fun (hk : l[i].kind = 3) => @usedL_next 3 l i hi hk hc
      have s1 := fun (hk : l[i].kind ≠ 1) => usedL_skip (k := 1) hi hk
      have s3 := fun (hk : l[i].kind ≠ 3) => usedL_skip (k := 3) hi hk
      have la := usedL_len 1 (l.take i)
      have lb := usedL_len 3 (l.take i)
      have ra := usedL_rising 1 (l.take i)
      have rb := usedL_rising 3 (l.take i)
      generalize l[i] = x at *
      obtain ⟨sk, ss, sy, sr, sn⟩ := x
      simp only [cellS] at n1 n3 o1 o2
      have w1 : IntKind.i64.wrap (4 * ss) = 4 * ss := by rw [IntWalk.i64_in] <;> omega
      have w2 : IntKind.i64.wrap (4 * ss + sy) = 4 * ss + sy := by rw [IntWalk.i64_in] <;> omega
      by_cases q1 : sk = 1
      · subst q1
        obtain ⟨w2', h2, e2, zs, G2, t2, r2, m2, _, _, k2, l2⟩ := l1Put_ok sa ra (by omega) (4 * ss + sy)
        have hz := n1 rfl r2 (fun x => by rw [m2])
        simp [g581_0, hM, g16, g5, g6, hi, ix, ld, upd, w1, w2, e2, st]
        exact hJ _ hi ⟨hi, by simp, ⟨w2', b, G2, Fb, by simp, by simp [g6], by rw [← hz]; exact t2, by rw [s3 (show (1 : Int) ≠ 3 by decide)]; exact sb.keep k2⟩, hk.trans k2, by show h.length ≤ h2.length; omega⟩
      · by_cases q3 : sk = 3
        · subst q3
          obtain ⟨w2', h2, e2, zs, G2, t2, r2, m2, _, _, k2, l2⟩ := l1Put_ok sb rb (by omega) (4 * ss + sy)
          have hz := n3 rfl r2 (fun x => by rw [m2])
          simp [g581_0, hM, g16, g5, g6, hi, ix, ld, upd, w1, w2, e2, st]
          exact hJ _ hi ⟨hi, by simp, ⟨a, w2', Fa, G2, by simp [g5], by simp, by rw [s1 (show (3 : Int) ≠ 1 by decide)]; exact sa.keep k2, by rw [← hz]; exact t2⟩, hk.trans k2, by show h.length ≤ h2.length; omega⟩
        · simp [g581_0, hM, g16, g5, g6, hi, ix, ld, upd, q1, q3, st]
          exact hJ _ hi ⟨hi, by simp, ⟨a, b, Fa, Fb, by simp [g5], by simp [g6], by rw [s1 q1]; exact sa, by rw [s3 q3]; exact sb⟩, hk, hln⟩
    · have : i = l.length := by omega
      subst this
      rw [List.take_length] at sa sb
      simp [g581_0, hM, g16, g5, g6]
      exact hR _ _ ⟨a, b, Fa, Fb, rfl, sa, sb, hk, hln⟩
end GL

namespace GL
open Go

/-- a list of lists of one's own, each of which may grow -/
def Pcs (lo : Nat) (h : Heap) (b : Nat) (xs : List (List Int)) : Prop :=
  ∃ rs : List V, h[b]? = some ⟨.own, rs⟩ ∧ rs.length = xs.length ∧ lo ≤ b ∧ (∀ k (hr : k < rs.length) (hx : k < xs.length), Out (b + 1) h rs[k] xs[k]) ∧ ∀ j k (hj : j < rs.length) (hk : k < rs.length), j ≠ k → ∀ i, vB rs[j] i → ¬ vB rs[k] i
theorem Pcs.load {lo : Nat} {h : Heap} {b : Nat} {xs : List (List Int)} (hp : Pcs lo h b xs) {k : Nat} (hk : k < xs.length) : ∃ v, rdH h b k 1 = some [v] ∧ Out (b + 1) h v xs[k] := by
  obtain ⟨rs, hb, hl, h1, h2, h3⟩ := hp
  have hk' : k < rs.length := by omega
  refine ⟨rs[k], ?_, h2 k hk' hk⟩
  rw [rdH_at hb (by simp)]
  simp only [cut]
  rw [if_pos (by show k + 1 ≤ rs.length; omega), List.drop_eq_getElem_cons hk']; rfl
theorem Pcs.push {lo : Nat} {h : Heap} {b : Nat} {xs : List (List Int)} (hp : Pcs lo h b xs) {k : Nat} (hk : k < xs.length) (x : Int) (hx : xs[k].length ≤ 2 ^ 20) {v : V} (hv : rdH h b k 1 = some [v]) :
    ∃ v' h1 h2, appH 1 8 v 1 [vi x] (h ++ [⟨.own, [vi x]⟩]) = some (v', h1) ∧ v'.cells = [v'] ∧ v'.cell = true ∧ wrH h1 b k [v'] = some h2 ∧ Pcs lo h2 b (xs.set k (xs[k] ++ [x])) ∧ KeepsP (fun i => i < lo) h h2 ∧ h.length < h2.length := by
  obtain ⟨rs, hb, hl, h1, h2, h3⟩ := hp
  have hk' : k < rs.length := by omega
  have hv' : v = rs[k] := by
    rw [rdH_at hb (by simp)] at hv
    simp only [cut] at hv
    rw [if_pos (by show k + 1 ≤ rs.length; omega), List.drop_eq_getElem_cons hk'] at hv
    have := Option.some.inj hv
    exact ((List.cons.inj this).1).symm
  subst hv'
  obtain ⟨v', g1, e1, o1, k1, l1, b1⟩ := oneB (h2 k hk' hk) x hx
  have hbl := get_lt hb
  have hb1 : g1[b]? = some ⟨.own, rs⟩ := k1 b _ (fun hv => by have := ((h2 k hk' hk).ge hv).1; omega) hb (by simp)
  refine ⟨v', g1, g1.set b ⟨.own, rs.set k v'⟩, e1, o1.sl.cells, o1.sl.cell, ?_, ?_, fun i blk hi hbi hl2 => ?_, by simp; omega⟩
  · rw [wrH_at hb1 rfl]
    simp only [lay, List.length_singleton]
    have hset : rs.set k v' = rs.take k ++ [v'] ++ rs.drop (k + 1) := by rw [List.set_eq_take_append_cons_drop, if_pos hk']; simp
    rw [if_pos (by show k + 1 ≤ rs.length; omega), hset]; rfl
  · have kb : KeepsP (fun i => i ≠ b) g1 (g1.set b ⟨.own, rs.set k v'⟩) := fun i blk hi hbi _ => by rw [List.getElem?_set_ne (Ne.symm hi)]; exact hbi
    have gb : ∀ j (hj : j < rs.length) i, vB rs[j] i → i ≠ b := fun j hj i hv => by
      have := ((h2 j hj (by omega)).ge hv).1; omega
    refine ⟨rs.set k v', by rw [List.getElem?_set_self (get_lt hb1)], by simp [hl], h1, fun j hj hxj => ?_, fun j j2 hj hj2 hne i hv hv2 => ?_⟩
    · simp only [List.length_set] at hj hxj
      by_cases hjk : k = j
      · subst hjk
        simp only [List.getElem_set_self]
        exact o1.keeps kb (fun i hi => by have := (o1.ge hi).1; omega) (by simp)
      · rw [List.getElem_set_ne hjk, List.getElem_set_ne hjk]
        have hnv : ∀ i, vB rs[j] i → ¬ vB rs[k] i := h3 j k hj hk' (fun e => hjk e.symm)
        exact ((h2 j hj hxj).keeps k1 hnv (by omega)).keeps kb (fun i hi => gb j hj i hi) (by simp)
    · simp only [List.length_set] at hj hj2
      by_cases hjk : k = j
      · subst hjk
        rw [List.getElem_set_self] at hv
        rw [List.getElem_set_ne hne] at hv2
        have := b1 i hv
        have := ((h2 j2 hj2 (by omega)).ge hv2).2
        omega
      · rw [List.getElem_set_ne hjk] at hv
        by_cases hjk2 : k = j2
        · subst hjk2
          rw [List.getElem_set_self] at hv2
          have := b1 i hv2
          have := ((h2 j hj (by omega)).ge hv).2
          omega
        · rw [List.getElem_set_ne hjk2] at hv2
          exact h3 j j2 hj hj2 hne i hv hv2
  · have h5 := k1 i blk (fun hv => by have := ((h2 k hk' hk).ge hv).1; omega) hbi hl2
    rw [List.getElem?_set_ne (by omega)]; exact h5
theorem reps_rows {h : Heap} {lo : Nat} : ∀ {rs : List V} {xs : List (List Int)}, rs.length = xs.length → (∀ k (hr : k < rs.length) (hx : k < xs.length), Out lo h rs[k] xs[k]) → ∃ F, Reps h xs rs F ∧ ∀ b ∈ F, lo ≤ b
  | [], [], _, _ => ⟨[], .nil, by simp⟩
  | [], _ :: _, hl, _ => by simp at hl
  | _ :: _, [], hl, _ => by simp at hl
  | r :: rs, x :: xs, hl, ho => by
    obtain ⟨F1, s1, f1⟩ := (ho 0 (by simp) (by simp)).fr
    obtain ⟨F2, s2, f2⟩ := reps_rows (rs := rs) (xs := xs) (by simpa using hl) fun k hr hx => ho (k + 1) (by simp; omega) (by simp; omega)
    refine ⟨F1 ++ F2, ⟨[r], rs, F1, F2, rfl, rfl, ⟨r, rfl, s1⟩, s2⟩, fun b hb => ?_⟩
    rcases List.mem_append.1 hb with h | h
    · exact f1.ge b h
    · exact f2 b h
theorem Pcs.sdF {lo : Nat} {h : Heap} {b : Nat} {xs : List (List Int)} (hp : Pcs lo h b xs) (hx : xs.length < 2 ^ 63) : ∃ F, SdF h (.slice b 0 xs.length (.k xs.length)) xs F ∧ ∀ i ∈ F, lo ≤ i := by
  obtain ⟨rs, hb, hl, h1, h2, h3⟩ := hp
  obtain ⟨F, hr, hF⟩ := reps_rows hl h2
  have hsz : Data.sz (List Int) = 1 := rfl
  refine ⟨b :: F, ⟨hx, .inr ⟨b, 0, .k xs.length, rfl, Nat.le_refl _, .inr ⟨_, rs, F, rfl, hb, by simp, ?_, hr⟩⟩⟩, fun i hi => ?_⟩
  · rw [hsz, Nat.mul_one, ← hl]; simp [cut]
  · rcases List.mem_cons.1 hi with h | h
    · omega
    · have := hF i h; omega
theorem Pcs.start (h : Heap) (n : Nat) : Pcs h.length (h ++ [⟨.own, List.replicate n V.nils⟩]) h.length (List.replicate n []) :=
  ⟨List.replicate n .nils, by simp, by simp, Nat.le_refl _, fun k hr hx => by rw [List.getElem_replicate, List.getElem_replicate]; exact Out.nil (by simp), fun j k hj hk _ i hv => by rw [List.getElem_replicate] at hv; obtain ⟨_, _, _, e⟩ := hv; cases e⟩

def pcRow (l : List Sp) (n : Nat) (k : Nat) : List Int := (upTo n).filter fun i => decide ((l.getD i.toNat zS).shard = k)
def pcsL (l : List Sp) (n : Nat) : List (List Int) := (List.range 3).map (pcRow l n)
theorem pcRow_succ (l : List Sp) (n k : Nat) : pcRow l (n + 1) k = if (l.getD n zS).shard = k then pcRow l n k ++ [(n : Int)] else pcRow l n k := by
  unfold pcRow
  rw [upTo_succ, List.filter_append]
  by_cases h : (l.getD n zS).shard = k
  · rw [if_pos h]; rw [List.getD_eq_getElem?_getD] at h; simp [h]
  · rw [if_neg h]; rw [List.getD_eq_getElem?_getD] at h; simp [h]
theorem pcRow_len (l : List Sp) (n k : Nat) : (pcRow l n k).length ≤ n := Nat.le_trans (List.length_filter_le ..) (by rw [upTo_len]; omega)
theorem pcsL_len (l : List Sp) (n : Nat) : (pcsL l n).length = 3 := by simp [pcsL]
theorem pcsL_get (l : List Sp) (n : Nat) {k : Nat} (hk : k < (pcsL l n).length) : (pcsL l n)[k] = pcRow l n k := by simp [pcsL]
theorem pcsL_succ (l : List Sp) {n : Nat} (hn : n < l.length) {s : Nat} (hs : l[n].shard = s) (h3 : s < (pcsL l n).length) : pcsL l (n + 1) = (pcsL l n).set s ((pcsL l n)[s] ++ [(n : Int)]) := by
  apply List.ext_getElem
  · simp [pcsL_len]
  · intro k h1 h2
    rw [pcsL_get, pcRow_succ, getD_in hn, hs]
    by_cases hk : s = k
    · subst hk
      rw [if_pos rfl, List.getElem_set_self, pcsL_get]
    · rw [if_neg (by omega), List.getElem_set_ne hk, pcsL_get]
theorem pcsL_zero (l : List Sp) : pcsL l 0 = List.replicate 3 [] := by
  simp [pcsL, pcRow, upTo, List.range_succ, List.replicate_succ]

theorem pieces_ok {h : Heap} {vl : V} {l : List Sp} (hl : Sl h vl l) (hg : stepsB l = true) :
    ∃ r h', call p 603 [vl] h = some (r, h') ∧ ∃ F, SdF h' r (pcsL l l.length) F ∧ (∀ i ∈ F, h.length ≤ i) ∧ Keeps h h' ∧ h.length ≤ h'.length := by
  have c2' := hg
  simp only [stepsB, Bool.and_eq_true, decide_eq_true_eq] at c2'
  have c4 : (72 : Int) ≤ (room : Int) := by unfold room; omega
  have c5 : (3 : Int) ≤ (room : Int) := by unfold room; omega
  refine go (fn := g603) rfl rfl fun R hR => ?_
  simp [g603, hl.len, c4, c5]
  have st0 := Pcs.start h 3
  rw [← pcsL_zero l] at st0
  refine Wc_upM (M := [4, 5, 9, 10, 11, 12, 13, 14, 15, 16, 17, 18, 19, 20, 21, 22, 23, 24, 25, 26]) rfl l.length (fun i s => i ≤ l.length ∧ s.σ 9 = .v (vi i) ∧ Pcs h.length s.h h.length (pcsL l i) ∧ Keeps h s.h ∧ h.length ≤ s.h.length) 0
    ⟨by omega, by simp, by simpa [List.replicate_succ] using st0, Keeps.append _ _, by simp⟩ fun i s ⟨gi, g9, hp, hk, hln⟩ hM J hJ => ?_
  by_cases hi : i < l.length
  · have ix := hl.idx 5 .i64 i hi
    have ld := (hl.keeps hk).loadS i hi
    have st := hl.step hi
    obtain ⟨o1, o2, o3⟩ := stepsP_at c2'.1 hi
    have hsucc := fun (s : Nat) hs h3 => @pcsL_succ l i hi s hs h3
    generalize l[i] = x at *
    obtain ⟨sk, ss, sy, sr, sn⟩ := x
    simp only at o1 hsucc
    obtain ⟨m, rfl⟩ : ∃ m : Nat, ss = m := ⟨ss.toNat, by omega⟩
    have hm3 : m < (pcsL l i).length := by rw [pcsL_len]; omega
    obtain ⟨v, lv, ov⟩ := hp.load hm3
    obtain ⟨v', h1, h2, e1, vc, vcl, e2, p2, k2, l2⟩ := hp.push hm3 (i : Int) (by rw [pcsL_get]; have := pcRow_len l i m; omega) lv
    rw [← hsucc m rfl hm3] at p2
    have hm : (0 : Int) ≤ (m : Int) ∧ (m : Int) < 3 := by omega
    have hm' : m < 3 := by omega
    have lv2 := rdH_keep (Keeps.append s.h [⟨.own, [vi i]⟩]) lv
    simp [g603_0, hM, g9, hi, ix, ld, upd, hm, hm', lv, lv2, fillL, stable, stab1, rdS_last, e1, vc, vcl, e2, st]
    exact hJ _ hi ⟨hi, by simp, p2, Keeps.far (n := h.length) hk k2 (Nat.le_refl _) fun i hi => hi, by show h.length ≤ h2.length; omega⟩
  · have : i = l.length := by omega
    subst this
    obtain ⟨F, sF, hF⟩ := hp.sdF (by rw [pcsL_len]; omega)
    rw [pcsL_len] at sF
    simp [g603_0, hM, g9]
    exact hR _ _ ⟨F, sF, hF, hk, hln⟩
end GL

namespace GL
open Go

def pcR (l : List Sp) : List (List Int) := if stepsB l = true then pcsL l l.length else []
theorem PiecesOf_ok {h : Heap} {vl : V} {l : List Sp} (hl : Sl h vl l) (hll : l.length ≤ 2 ^ 40) :
    ∃ r h', call p 583 [vl] h = some (r, h') ∧ ∃ o F, r = .tup [o, .bool (stepsB l)] ∧ SdF h' o (pcR l) F ∧ Keeps h h' ∧ h.length ≤ h'.length := by
  have e1 := GoodSteps_eq hl hll
  refine go (fn := g583) rfl rfl fun R hR => ?_
  cases c2 : stepsB l with
  | false =>
    rw [c2] at e1
    simp only [pcR, c2] at hR
    simp [g583, e1]
    exact hR _ _ ⟨.nils, [], rfl, .nil, Keeps.refl _, Nat.le_refl _⟩
  | true =>
    rw [c2] at e1
    simp only [pcR, c2, if_true] at hR
    obtain ⟨o, h1, e2, F, s1, _, k1, l1⟩ := pieces_ok hl c2
    simp [g583, e1, e2]
    exact hR _ _ ⟨o, F, rfl, s1, k1, l1⟩
theorem PiecesOfS_ok {h : Heap} {vl : V} {l : List Sp} (hl : Sl h vl l) (hll : l.length ≤ 2 ^ 40) :
    ∃ r h', call p 584 [vl] h = some (r, h') ∧ ∃ o F, r = .tup [o, .bool (stepsB l)] ∧ SdF h' o (pcR l) F ∧ Keeps h h' ∧ h.length ≤ h'.length := by
  have e1 := GoodStepsS_eq hl hll
  refine go (fn := g584) rfl rfl fun R hR => ?_
  cases hg : stepsB l with
  | false =>
    rw [hg] at e1
    simp only [pcR, hg] at hR
    simp [g584, e1]
    exact hR _ _ ⟨.nils, [], rfl, .nil, Keeps.refl _, Nat.le_refl _⟩
  | true =>
    rw [hg] at e1
    simp only [pcR, hg, if_true] at hR
    have c2' := hg
    simp only [stepsB, Bool.and_eq_true, decide_eq_true_eq] at c2'
    have c4 : (72 : Int) ≤ (room : Int) := by unfold room; omega
    have c5 : (3 : Int) ≤ (room : Int) := by unfold room; omega
    simp [g584, e1, hl.len, c4, c5]
    have st0 := Pcs.start h 3
    rw [← pcsL_zero l] at st0
    refine Wc_upM (M := [5, 6, 13, 14, 15, 16, 17, 18, 19, 20, 21, 22, 23, 24, 25, 26, 27, 28, 29, 30]) rfl l.length (fun i s => i ≤ l.length ∧ s.σ 13 = .v (vi i) ∧ Pcs h.length s.h h.length (pcsL l i) ∧ Keeps h s.h ∧ h.length ≤ s.h.length) 0
      ⟨by omega, by simp, by simpa [List.replicate_succ] using st0, Keeps.append _ _, by simp⟩ fun i s ⟨gi, g9, hp, hk, hln⟩ hM J hJ => ?_
    by_cases hi : i < l.length
    · have ix := hl.idx 5 .i64 i hi
      have ld := (hl.keeps hk).loadS i hi
      have st := hl.step hi
      obtain ⟨o1, o2, o3⟩ := stepsP_at c2'.1 hi
      have hsucc := fun (s : Nat) hs h3 => @pcsL_succ l i hi s hs h3
      generalize l[i] = x at *
      obtain ⟨sk, ss, sy, sr, sn⟩ := x
      simp only at o1 hsucc
      obtain ⟨m, rfl⟩ : ∃ m : Nat, ss = m := ⟨ss.toNat, by omega⟩
      have hm3 : m < (pcsL l i).length := by rw [pcsL_len]; omega
      obtain ⟨v, lv, ov⟩ := hp.load hm3
      obtain ⟨v', h1, h2, e1, vc, vcl, e2, p2, k2, l2⟩ := hp.push hm3 (i : Int) (by rw [pcsL_get]; have := pcRow_len l i m; omega) lv
      rw [← hsucc m rfl hm3] at p2
      have hm : (0 : Int) ≤ (m : Int) ∧ (m : Int) < 3 := by omega
      have hm' : m < 3 := by omega
      have lv2 := rdH_keep (Keeps.append s.h [⟨.own, [vi i]⟩]) lv
      simp [g584_0, hM, g9, hi, ix, ld, upd, hm, hm', lv, lv2, fillL, stable, stab1, rdS_last, e1, vc, vcl, e2, st]
      exact hJ _ hi ⟨hi, by simp, p2, Keeps.far (n := h.length) hk k2 (Nat.le_refl _) fun i hi => hi, by show h.length ≤ h2.length; omega⟩
    · have : i = l.length := by omega
      subst this
      obtain ⟨F, sF, hF⟩ := hp.sdF (by rw [pcsL_len]; omega)
      rw [pcsL_len] at sF
      simp [g584_0, hM, g9]
      exact hR _ _ ⟨_, F, rfl, sF, hk, hln⟩

theorem DC.cellsOf {h0 h : Heap} {N : Nat} (d : DC h0 h N) (hN : N < 2 ^ 55) : ∃ v h', call p 594 [.ptr h0.length 0] h = some (v, h') ∧ ∃ (xs : List Int), Out h.length h' v xs ∧ xs.length = 12 ∧ DC h0 h' (N + 100) ∧ KeepsBut h0.length h h' ∧ h.length ≤ h'.length := by
  have hlt := d.lt
  refine go (fn := g594) rfl rfl fun R hR => ?_
  simp [g594]
  refine Wc_upM (M := [3, 4, 5, 6, 7, 8, 9, 10, 11, 12, 13]) rfl 12 (fun i s => i ≤ 12 ∧ s.σ 4 = .v (vi i) ∧ (∃ (v : V) (xs : List Int), s.σ 3 = .v v ∧ Out h.length s.h v xs ∧ xs.length = i) ∧ DC h0 s.h (N + 2 * i) ∧ KeepsBut h0.length h s.h ∧ h.length ≤ s.h.length) 0
    ⟨by omega, by simp, ⟨.nils, [], by simp, Out.nil (Nat.le_refl _), rfl⟩, by simpa using d, KeepsBut.refl _ _, Nat.le_refl _⟩ fun i s ⟨gi, g4, ⟨v, xs, g3, ho, hxl⟩, dc, kb, hl⟩ hM J hJ => ?_
  by_cases hi : i < 12
  · have hi' : (i : Int) < 12 := by omega
    obtain ⟨a, h1, e1, ha, d1, k1, l1⟩ := dc.pick (by omega) 9 (by decide)
    have o1 : Out h.length h1 v xs := ho.keeps k1.P (fun i hi => by have := (ho.ge hi).1; omega) (by omega)
    obtain ⟨v', h2, e2, o2, d2, k2, l2⟩ := Out.draw d1 (kb.trans k1) (ho := o1) (by omega) (by omega) (a : Int) (by omega) (k := 1) (bytes := 8) (cs := [vi a]) rfl (by decide) rfl
    have st : IntKind.i64.wrap ((i : Int) + 1) = (i + 1 : Nat) := by rw [IntWalk.i64_in] <;> omega
    simp [g594_0, hM, g4, g3, hi', hi, e1, fillL, rdS_last, e2, st, -Int.natCast_add]
    exact hJ _ hi ⟨hi, by simp, ⟨v', _, by simp, o2, by simp; omega⟩, d2.mono (by omega), k2, by show h.length ≤ h2.length; omega⟩
  · have hi' : ¬ (i : Int) < 12 := by omega
    obtain ⟨one, h1, e1, d1, k1, l1⟩ := dc.one (by omega) 30 (by decide)
    have o1 : Out h.length h1 v xs := ho.keeps k1.P (fun i hi => by have := (ho.ge hi).1; omega) (by omega)
    cases one with
    | false =>
      simp [g594_0, hM, g4, g3, hi', hi, e1]
      exact hR _ _ ⟨xs, o1, by omega, d1.mono (by omega), kb.trans k1, by omega⟩
    | true =>
      obtain ⟨x, h2, e2, hx, d2, k2, l2⟩ := d1.amongL (by omega) [-1000001, 1000000, 1000001] 3 rfl [vi (-1000001), vi 1000000, vi 1000001] rfl (.k 3) (by simp) (by simp)
      have o2 : Out h.length h2 v xs := o1.keeps k2.P (fun i hi => by have := (ho.ge hi).1; omega) (by omega)
      obtain ⟨h3, e3, o3, k3, l3⟩ := o2.set (i := 0) (by omega) x (o := oOf v + 0 * 1) (cs := [vi x]) (by simp [Flat.sz]) rfl
      have ix := o2.sl.idx 1 .i64 0 (by omega)
      simp only [Nat.mul_one, Nat.add_zero, Nat.zero_mul, Int.natCast_zero] at ix e3
      simp [g594_0, hM, g4, g3, hi', hi, e1, fillL, e2, ix, e3]
      exact hR _ _ ⟨xs.set 0 x, o3, by simp; omega, (d2.far k3 fun i hi hv => by have := (o2.ge hv).1; omega).mono (by omega), ((kb.trans k1).trans k2).far k3 fun i hi _ hv => by have := (o2.ge hv).1; omega, by omega⟩

def tail595 : GL.Code := .seq (.seq (.reg 0 [⟨0, some 74, none, .p .mov, [.t 3]⟩,
    ⟨1, some 75, none, .p .len, [.t 74]⟩,
    ⟨2, some 76, none, .p (.bin .gtr), [.t 75, .c (.int .i64 0)]⟩,
    ⟨3, some 77, none, .p .mov, [.t 76]⟩,
    ⟨4, some 78, some (77, true), .p .mov, [.t 0]⟩,
    ⟨5, some 79, some (77, true), .e .call [] [], [.f 92, .t 78, .c (.int .i64 30)]⟩,
    ⟨6, some 80, none, .p .pick, [.t 77, .t 79, .c (.bool false)]⟩])
   (.cond (.t 80) (.reg 0 [⟨0, some 81, none, .p .mov, [.t 3]⟩,
    ⟨1, some 82, none, .p .mov, [.t 0]⟩,
    ⟨2, some 83, none, .e .call [] [], [.f 91, .t 82, .c (.int .i64 5)]⟩,
    ⟨3, some 84, none, .p .mov, [.t 0]⟩,
    ⟨4, some 85, none, .e .call [] [], [.f 91, .t 84, .c (.int .i64 4)]⟩,
    ⟨5, some 86, none, .p .mov, [.t 0]⟩,
    ⟨6, some 87, none, .e (.new (.lit 1)) [] [], [.c (.int .i64 (-100)), .c (.int .i64 0), .c (.int .i64 99)]⟩,
    ⟨7, some 88, none, .e .call [] [], [.f 93, .t 86, .t 87]⟩,
    ⟨8, some 89, none, .p (.build [.int .i64 0, .int .i64 0, .int .i64 0, .int .i64 0, .int .i64 0] [(0, 1), (1, 1), (4, 1)]), [.t 83, .t 85, .t 88]⟩,
    ⟨9, some 90, none, .p (.idx 5), [.t 81, .c (.int .i64 0)]⟩,
    ⟨10, none, none, .e (.store 5) [] [], [.t 90, .t 89]⟩])
   (.skip)))
   (.seq (.reg 0 [⟨0, some 91, none, .p .mov, [.t 3]⟩,
    ⟨1, some 2, none, .p .mov, [.t 91]⟩])
   (.ret))
theorem DC.steps {h0 h : Heap} {N : Nat} (d : DC h0 h N) (hN : N < 2 ^ 55) : ∃ v h', call p 595 [.ptr h0.length 0] h = some (v, h') ∧ ∃ (xs : List Sp), Out h.length h' v xs ∧ xs.length ≤ 12 ∧ DC h0 h' (N + 1000) ∧ KeepsBut h0.length h h' ∧ h.length ≤ h'.length := by
  have hlt := d.lt
  obtain ⟨n8, t1, e1, hn8, d1, k1, l1⟩ := d.pick (by omega) 8 (by decide)
  obtain ⟨one, t2, e2, d2, k2, l2⟩ := d1.one (by omega) 20 (by decide)
  have loop : ∀ (n : Nat) (s0 : S) (K : Ex → S → Prop), n ≤ 12 → s0.σ 0 = .v (.ptr h0.length 0) → s0.σ 3 = .v .nils → s0.σ 4 = .v (vi n) → s0.σ 5 = .v (vi 0) → DC h0 s0.h (N + 6) → KeepsBut h0.length h s0.h → h.length ≤ s0.h.length →
      (∀ s v (xs : List Sp), s.σ 0 = .v (.ptr h0.length 0) → s.σ 3 = .v v → Out h.length s.h v xs → xs.length ≤ 12 → DC h0 s.h (N + 600) → KeepsBut h0.length h s.h → h.length ≤ s.h.length → K (.exit 0) s) → Wc p (.loop g595_0) s0 K := by
    intro n s0 K hn g0 g3 g4 g5 dc kb hl hK
    refine Wc_upM (M := [3, 5, 6, 14, 15, 16, 17, 18, 19, 20, 21, 22, 23, 24, 25, 26, 27, 28, 29, 30, 31, 32, 33, 34, 35, 36, 37, 38, 39, 40, 41, 42, 43, 44, 45, 46, 47, 48, 49, 50, 51, 52, 53, 54, 55, 56, 57, 58, 59, 60, 61, 62, 63, 64, 65, 66, 67, 68, 69, 70, 71, 72, 73]) rfl n (fun i s => i ≤ n ∧ s.σ 5 = .v (vi i) ∧ (∃ (v : V) (xs : List Sp), s.σ 3 = .v v ∧ Out h.length s.h v xs ∧ xs.length = i) ∧ DC h0 s.h (N + 6 + 40 * i) ∧ KeepsBut h0.length h s.h ∧ h.length ≤ s.h.length) 0
      ⟨by omega, by simpa using g5, ⟨.nils, [], g3, Out.nil hl, rfl⟩, by simpa using dc, kb, hl⟩ fun i s ⟨gi, g5, ⟨v, xs, g3, ho, hxl⟩, dc, kb, hl⟩ hM J hJ => ?_
    by_cases hi : i < n
    · obtain ⟨a1, h1, e1, ha1, d1, k1, l1⟩ := dc.pick (by omega) 3 (by decide)
      obtain ⟨a2, h2, e2, ha2, d2, k2, l2⟩ := d1.pick (by omega) 4 (by decide)
      have st : IntKind.i64.wrap ((i : Int) + 1) = (i + 1 : Nat) := by rw [IntWalk.i64_in] <;> omega
      have k12 := k1.trans k2
      have app : ∀ (x : Sp) (h3 : Heap) (M : Nat), DC h0 h3 M → KeepsBut h0.length s.h h3 → s.h.length ≤ h3.length → ∃ v' h4, appH 5 40 v 1 [vi x.kind, vi x.shard, vi x.key, vi x.src, vi x.n] (h3 ++ [⟨.own, [vi x.kind, vi x.shard, vi x.key, vi x.src, vi x.n]⟩]) = some (v', h4) ∧ Out h.length h4 v' (xs ++ [x]) ∧ DC h0 h4 M ∧ KeepsBut h0.length h h4 ∧ h3.length ≤ h4.length := fun x h3 M d3 k3 l3 => by
        have o3 : Out h.length h3 v xs := ho.keeps k3.P (fun i hi => by have := (ho.ge hi).1; omega) (by omega)
        exact Out.draw d3 (kb.trans k3) (ho := o3) (by omega) (by omega) x (by omega) (k := 5) (bytes := 40) rfl (by decide) rfl
      have fin : ∀ (j : Nat), j < i → ∀ h5 M, DC h0 h5 M → KeepsBut h0.length s.h h5 → s.h.length ≤ h5.length → M < 2 ^ 57 →
          ∃ one h6 y, call p 92 [.ptr h0.length 0, vi 2] h5 = some (.bool one, h6) ∧ idxV 5 v (vi j) = some (.ptr (bOf v) (oOf v + j * 5)) ∧ rdH h6 (bOf v) (oOf v + j * 5 + 1) 1 = some [vi y] ∧
          ∀ x : Sp, ∃ v' h4, appH 5 40 v 1 [vi x.kind, vi x.shard, vi x.key, vi x.src, vi x.n] (h6 ++ [⟨.own, [vi x.kind, vi x.shard, vi x.key, vi x.src, vi x.n]⟩]) = some (v', h4) ∧ Out h.length h4 v' (xs ++ [x]) ∧ DC h0 h4 (M + 2) ∧ KeepsBut h0.length h h4 ∧ h.length ≤ h4.length := fun j hj h5 M d5 k5 l5 hM5 => by
        obtain ⟨one, h6, e6, d6, k6, l6⟩ := d5.one (by omega) 2 (by decide)
        have o6 : Out h.length h6 v xs := ho.keeps (k5.trans k6).P (fun i hi => by have := (ho.ge hi).1; omega) (by omega)
        refine ⟨one, h6, _, e6, o6.sl.idx 5 .i64 j (by omega), o6.sl.loadS1 j (by omega), fun x => ?_⟩
        obtain ⟨v', h4, e4, o4, d4, k4, l4⟩ := app x h6 _ d6 (k5.trans k6) (by omega)
        exact ⟨v', h4, e4, o4, d4, k4, by omega⟩
      by_cases hi0 : 0 < i
      · have hi0i : (0 : Int) < i := by omega
        obtain ⟨one, h3, e3, d3, k3, l3⟩ := d2.one (by omega) 3 (by decide)
        have k13 := k12.trans k3
        cases one with
        | true =>
          obtain ⟨v', h4, e4, o4, d4, k4, l4⟩ := app ⟨1, a1, a2, 0, 0⟩ h3 _ d3 k13 (by omega)
          simp at e4
          simp [g595_0, hM, g0, g4, g5, g3, hi, hi0, hi0i, e1, e2, e3, upd, fillL, rdS_last, e4, st, -Int.natCast_add]
          exact hJ _ hi ⟨hi, by simp, ⟨v', _, by simp, o4, by simp; omega⟩, d4.mono (by omega), k4, by show h.length ≤ h4.length; omega⟩
        | false =>
          obtain ⟨a3, h5, e5, ha3, d5, k5, l5⟩ := d3.pick (by omega) 3 (by decide)
          obtain ⟨a4, h6, e6, ha4, d6, k6, l6⟩ := d5.pick (by omega) (i : Int) (by omega)
          obtain ⟨a5, h7, e7, ha5, d7, k7, l7⟩ := d6.pick (by omega) 20 (by decide)
          have wa : IntKind.i64.wrap ((a5 : Int) - 9) = (a5 : Int) - 9 := by rw [IntWalk.i64_in] <;> omega
          obtain ⟨two, h8, e8, d8, k8, l8⟩ := d7.one (by omega) 2 (by decide)
          have k18 := (((k13.trans k5).trans k6).trans k7).trans k8
          cases two with
          | false =>
            obtain ⟨o5, h9, y, e9, ix, ld, fa⟩ := fin a4 (by omega) h8 _ d8 k18 (by omega) (by omega)
            have finJ : ∀ (x : Sp), ∃ v' h4, appH 5 40 v 1 [vi x.kind, vi x.shard, vi x.key, vi x.src, vi x.n] (h9 ++ [⟨.own, [vi x.kind, vi x.shard, vi x.key, vi x.src, vi x.n]⟩]) = some (v', h4) ∧ ∀ s' : S, s'.h = h4 → s'.σ 5 = .v (vi (i + 1 : Nat)) → s'.σ 3 = .v v' → J s' := fun x => by
              obtain ⟨v', h4, e4, o4, d4, k4, l4⟩ := fa x
              exact ⟨v', h4, e4, fun s' q1 q2 q3 => hJ s' hi ⟨hi, q2, ⟨v', _, q3, by rw [q1]; exact o4, by simp; omega⟩, by rw [q1]; exact d4.mono (by omega), by rw [q1]; exact k4, by rw [q1]; exact l4⟩⟩
            cases o5 with
            | false =>
              obtain ⟨v', h4, e4, hf⟩ := finJ ⟨2, a3, 0, a4, (a5 : Int) - 9⟩
              simp at e4
              simp [g595_0, hM, g0, g4, g5, g3, hi, hi0, hi0i, e1, e2, e3, e5, e6, e7, wa, e8, e9, upd, fillL, rdS_last, e4, st, -Int.natCast_add]
              exact hf _ rfl (by simp) (by simp)
            | true =>
              by_cases hgt : (a3 : Int) < y
              · obtain ⟨v', h4, e4, hf⟩ := finJ ⟨2, y, 0, a4, (a5 : Int) - 9⟩
                simp at e4
                simp [g595_0, hM, g0, g4, g5, g3, hi, hi0, hi0i, e1, e2, e3, e5, e6, e7, wa, e8, e9, ix, ld, hgt, upd, fillL, rdS_last, e4, st, -Int.natCast_add]
                exact hf _ rfl (by simp) (by simp)
              · obtain ⟨v', h4, e4, hf⟩ := finJ ⟨2, a3, 0, a4, (a5 : Int) - 9⟩
                simp at e4
                simp [g595_0, hM, g0, g4, g5, g3, hi, hi0, hi0i, e1, e2, e3, e5, e6, e7, wa, e8, e9, ix, ld, hgt, upd, fillL, rdS_last, e4, st, -Int.natCast_add]
                exact hf _ rfl (by simp) (by simp)
          | true =>
            obtain ⟨b1, h10, f1, hb1, d10, k10, l10⟩ := d8.pick (by omega) 3 (by decide)
            obtain ⟨b2, h11, f2, hb2, d11, k11, l11⟩ := d10.pick (by omega) 4 (by decide)
            obtain ⟨b3, h12, f3, hb3, d12, k12', l12⟩ := d11.pick (by omega) (i : Int) (by omega)
            have k112 := ((k18.trans k10).trans k11).trans k12'
            obtain ⟨o5, h9, y, e9, ix, ld, fa⟩ := fin b3 (by omega) h12 _ d12 k112 (by omega) (by omega)
            have finJ : ∀ (x : Sp), ∃ v' h4, appH 5 40 v 1 [vi x.kind, vi x.shard, vi x.key, vi x.src, vi x.n] (h9 ++ [⟨.own, [vi x.kind, vi x.shard, vi x.key, vi x.src, vi x.n]⟩]) = some (v', h4) ∧ ∀ s' : S, s'.h = h4 → s'.σ 5 = .v (vi (i + 1 : Nat)) → s'.σ 3 = .v v' → J s' := fun x => by
              obtain ⟨v', h4, e4, o4, d4, k4, l4⟩ := fa x
              exact ⟨v', h4, e4, fun s' q1 q2 q3 => hJ s' hi ⟨hi, q2, ⟨v', _, q3, by rw [q1]; exact o4, by simp; omega⟩, by rw [q1]; exact d4.mono (by omega), by rw [q1]; exact k4, by rw [q1]; exact l4⟩⟩
            cases o5 with
            | false =>
              obtain ⟨v', h4, e4, hf⟩ := finJ ⟨3, b1, b2, b3, 0⟩
              simp at e4
              simp [g595_0, hM, g0, g4, g5, g3, hi, hi0, hi0i, e1, e2, e3, e5, e6, e7, wa, e8, f1, f2, f3, e9, upd, fillL, rdS_last, e4, st, -Int.natCast_add]
              exact hf _ rfl (by simp) (by simp)
            | true =>
              by_cases hgt : (b1 : Int) < y
              · obtain ⟨v', h4, e4, hf⟩ := finJ ⟨3, y, b2, b3, 0⟩
                simp at e4
                simp [g595_0, hM, g0, g4, g5, g3, hi, hi0, hi0i, e1, e2, e3, e5, e6, e7, wa, e8, f1, f2, f3, e9, ix, ld, hgt, upd, fillL, rdS_last, e4, st, -Int.natCast_add]
                exact hf _ rfl (by simp) (by simp)
              · obtain ⟨v', h4, e4, hf⟩ := finJ ⟨3, b1, b2, b3, 0⟩
                simp at e4
                simp [g595_0, hM, g0, g4, g5, g3, hi, hi0, hi0i, e1, e2, e3, e5, e6, e7, wa, e8, f1, f2, f3, e9, ix, ld, hgt, upd, fillL, rdS_last, e4, st, -Int.natCast_add]
                exact hf _ rfl (by simp) (by simp)
      · have hi0i : ¬ (0 : Int) < i := by omega
        obtain ⟨v', h4, e4, o4, d4, k4, l4⟩ := app ⟨1, a1, a2, 0, 0⟩ h2 _ d2 k12 (by omega)
        simp at e4
        simp [g595_0, hM, g0, g4, g5, g3, hi, hi0, hi0i, e1, e2, upd, fillL, rdS_last, e4, st, -Int.natCast_add]
        exact hJ _ hi ⟨hi, by simp, ⟨v', _, by simp, o4, by simp; omega⟩, d4.mono (by omega), k4, by show h.length ≤ h4.length; omega⟩
    · simp [g595_0, hM, g4, g5, hi]
      exact hK _ v xs (by simp [hM, g0]) (by simp [g3]) ho (by omega) (dc.mono (by omega)) kb hl
  refine go (fn := g595) rfl rfl fun R hR => ?_
  have tl : ∀ (s : S) (v : V) (xs : List Sp), s.σ 0 = .v (.ptr h0.length 0) → s.σ 3 = .v v → Out h.length s.h v xs → xs.length ≤ 12 → DC h0 s.h (N + 600) → KeepsBut h0.length h s.h → h.length ≤ s.h.length → Wc p tail595 s (finK [.tmp 2] fun r => R r.1 r.2) := by
    intro s v xs g0 g3 ho hxl dc kb hl
    by_cases hx0 : 0 < xs.length
    · have hx0i : (0 : Int) < xs.length := by omega
      obtain ⟨one, h1, e1, d1, k1, l1⟩ := dc.one (by omega) 30 (by decide)
      have o1 : Out h.length h1 v xs := ho.keeps k1.P (fun i hi => by have := (ho.ge hi).1; omega) (by omega)
      cases one with
      | false =>
        simp [tail595, g0, g3, ho.sl.len, hx0, hx0i, e1]
        exact hR _ _ ⟨xs, o1, hxl, d1.mono (by omega), kb.trans k1, by omega⟩
      | true =>
        obtain ⟨a, h2, e2, ha, d2, k2, l2⟩ := d1.pick (by omega) 5 (by decide)
        obtain ⟨b, h3, e3, hb, d3, k3, l3⟩ := d2.pick (by omega) 4 (by decide)
        obtain ⟨x, h4, e4, hx, d4, k4, l4⟩ := d3.amongL (by omega) [-100, 0, 99] 3 rfl [vi (-100), vi 0, vi 99] rfl (.k 3) (by simp) (by simp)
        have k14 := ((k1.trans k2).trans k3).trans k4
        have o4 : Out h.length h4 v xs := ho.keeps k14.P (fun i hi => by have := (ho.ge hi).1; omega) (by omega)
        obtain ⟨h5, e5, o5, k5, l5⟩ := o4.set (i := 0) hx0 (⟨a, b, 0, 0, x⟩ : Sp) (o := oOf v + 0 * 5) (cs := [vi a, vi b, vi 0, vi 0, vi x]) (by simp [Flat.sz]) rfl
        have ix := o4.sl.idx 5 .i64 0 hx0
        simp only [Nat.add_zero, Nat.zero_mul, Int.natCast_zero] at ix e5
        simp [tail595, g0, g3, ho.sl.len, hx0, hx0i, e1, e2, e3, fillL, e4, ix, e5]
        exact hR _ _ ⟨_, o5, by simpa using hxl, (d4.far k5 fun i hi hv => by have := (o4.ge hv).1; omega).mono (by omega), (kb.trans k14).far k5 fun i hi _ hv => by have := (o4.ge hv).1; omega, by omega⟩
    · have hx0i : ¬ (0 : Int) < xs.length := by omega
      simp [tail595, g0, g3, ho.sl.len, hx0, hx0i]
      exact hR _ _ ⟨xs, ho, hxl, dc.mono (by omega), kb, hl⟩
  show Wc p (.seq _ (.seq _ (.seq _ (.seq _ (.seq _ tail595))))) _ _
  cases one with
  | false =>
    simp [g595, e1, e2]
    exact loop n8 _ _ (by omega) (by simp) (by simp) (by simp) (by simp) (d2.mono (by omega)) (k1.trans k2) (by show h.length ≤ t2.length; omega) fun s v xs g0 g3 ho hx dc kb hl => by simpa using tl s v xs g0 g3 ho hx dc kb hl
  | true =>
    obtain ⟨m, t3, e3, hm, d3, k3, l3⟩ := d2.pick (by omega) 2 (by decide)
    have wm : IntKind.i64.wrap (10 + (m : Int)) = (10 + m : Nat) := by rw [IntWalk.i64_in] <;> omega
    simp [g595, e1, e2, e3, wm, -Int.natCast_add]
    exact loop (10 + m) _ _ (by omega) (by simp) (by simp) (by simp) (by simp) (d3.mono (by omega)) ((k1.trans k2).trans k3) (by show h.length ≤ t3.length; omega) fun s v xs g0 g3 ho hx dc kb hl => by simpa using tl s v xs g0 g3 ho hx dc kb hl

theorem drawRunSteps_ok {h : Heap} {v : V} {bs : List Byte} (hs : Sl h v bs) : ∃ r h', call p 578 [v] h = some (r, h') ∧ ∃ (a b : V) (st : List Int) (l : List Sp), r = .tup [a, b] ∧ Sl h' a st ∧ Sl h' b l ∧ st.length = 12 ∧ l.length ≤ 12 ∧ Keeps h h' ∧ h.length ≤ h'.length := by
  have d0 := DC.start hs
  obtain ⟨a, h1, e1, st, o1, hst, d1, k1, l1⟩ := d0.cellsOf (by decide)
  obtain ⟨b, h2, e2, l, o2, hl, d2, k2, l2⟩ := d1.steps (by omega)
  have o1' : Out (h ++ [(⟨.own, [v, vi 0, .int .u64 0]⟩ : Blk)]).length h2 a st := o1.keeps k2.P (fun i hi => by have := (o1.ge hi).1; simp at this; omega) l2
  simp at e1 e2 l1 l2
  refine go (fn := g578) rfl rfl fun R hR => ?_
  simp [g578, hs.cells, hs.cell, fillL, e1, e2]
  exact hR _ _ ⟨a, b, st, l, rfl, o1'.sl, o2.sl, hst, hl, d2.keep, by omega⟩
theorem drawGoodSteps_ok {h : Heap} {v : V} {bs : List Byte} (hs : Sl h v bs) : ∃ r h', call p 602 [v] h = some (r, h') ∧ ∃ (l : List Sp), Sl h' r l ∧ l.length ≤ 12 ∧ Keeps h h' ∧ h.length ≤ h'.length := by
  have d0 := DC.start hs
  obtain ⟨b, h2, e2, l, o2, hl, d2, k2, l2⟩ := d0.steps (by decide)
  simp at e2 l2
  refine go (fn := g602) rfl rfl fun R hR => ?_
  simp [g602, hs.cells, hs.cell, fillL, e2]
  exact hR _ _ ⟨l, o2.sl, hl, d2.keep, by omega⟩
theorem drawPiecesOf_ok {h : Heap} {v : V} {bs : List Byte} (hs : Sl h v bs) : ∃ r h', call p 582 [v] h = some (r, h') ∧ ∃ (l : List Sp), Sl h' r l ∧ l.length ≤ 12 ∧ Keeps h h' ∧ h.length ≤ h'.length := by
  obtain ⟨r, h1, e1, l, s1, hl, k1, l1⟩ := drawGoodSteps_ok hs
  refine go (fn := g582) rfl rfl fun R hR => ?_
  simp [g582, e1]
  exact hR _ _ ⟨l, s1, hl, k1, l1⟩
end GL

namespace GL
open Go

def tail577 : GL.Code := .seq (.reg 0 [⟨0, some 168, none, .p .mov, [.t 1]⟩,
    ⟨1, some 169, none, .e .call [] [], [.f 582, .t 168]⟩,
    ⟨2, some 22, none, .p .mov, [.t 169]⟩])
   (.seq (.reg 0 [⟨0, some 171, none, .p .mov, [.t 22]⟩,
    ⟨1, some 172, none, .e .call [] [], [.f 583, .t 171]⟩,
    ⟨2, some 170, none, .p .mov, [.t 172]⟩,
    ⟨3, some 173, none, .p (.extract 0), [.t 170]⟩,
    ⟨4, some 174, none, .p (.extract 1), [.t 170]⟩,
    ⟨5, some 23, none, .p .mov, [.t 173]⟩,
    ⟨6, some 24, none, .p .mov, [.t 174]⟩])
   (.seq (.reg 0 [⟨0, some 176, none, .p .mov, [.t 22]⟩,
    ⟨1, some 177, none, .e .call [] [], [.f 584, .t 176]⟩,
    ⟨2, some 175, none, .p .mov, [.t 177]⟩,
    ⟨3, some 178, none, .p (.extract 0), [.t 175]⟩,
    ⟨4, some 179, none, .p (.extract 1), [.t 175]⟩,
    ⟨5, some 25, none, .p .mov, [.t 178]⟩,
    ⟨6, some 26, none, .p .mov, [.t 179]⟩])
   (.seq (.seq (.reg 0 [⟨0, some 180, none, .p .mov, [.t 24]⟩,
    ⟨1, some 181, none, .p .mov, [.t 26]⟩,
    ⟨2, some 182, none, .p (.eqB true), [.t 180, .t 181]⟩,
    ⟨3, some 183, none, .p .mov, [.t 182]⟩,
    ⟨4, some 184, some (183, false), .p .mov, [.t 23]⟩,
    ⟨5, some 185, some (183, false), .p .mov, [.t 25]⟩,
    ⟨6, some 186, some (183, false), .e .call [] [], [.f 383, .t 184, .t 185]⟩,
    ⟨7, some 187, some (183, false), .p (.un .not), [.t 186]⟩,
    ⟨8, some 188, none, .p .pick, [.t 183, .c (.bool true), .t 187]⟩])
   (.cond (.t 188) (.seq (.reg 0 [⟨0, some 4, none, .p .mov, [.c (.bool false)]⟩])
   (.ret))
   (.skip)))
   (.seq (.reg 0 [⟨0, some 27, none, .p .mov, [.c (.int .i64 0)]⟩])
   (.seq (.seq (.reg 0 [⟨0, some 189, none, .p .mov, [.t 23]⟩,
    ⟨1, some 190, none, .p .len, [.t 189]⟩,
    ⟨2, some 191, none, .p .mov, [.c (.int .i64 0)]⟩])
   (.block 2 (.loop g577_2)))
   (.seq (.reg 0 [⟨0, some 215, none, .p .mov, [.t 24]⟩,
    ⟨1, some 216, none, .p (.un .not), [.t 215]⟩,
    ⟨2, some 217, none, .p .mov, [.t 216]⟩,
    ⟨3, some 218, some (217, false), .p .mov, [.t 27]⟩,
    ⟨4, some 219, some (217, false), .p .mov, [.t 22]⟩,
    ⟨5, some 220, some (217, false), .p .len, [.t 219]⟩,
    ⟨6, some 221, some (217, false), .p (.bin .eql), [.t 218, .t 220]⟩,
    ⟨7, some 222, none, .p .pick, [.t 217, .c (.bool true), .t 221]⟩,
    ⟨8, some 4, none, .p .mov, [.t 222]⟩])
   (.ret)))))))

theorem pcRow_mem {l : List Sp} {n k : Nat} {i : Int} (h : i ∈ pcRow l n k) : (0 ≤ i ∧ i < n) ∧ (l.getD i.toNat zS).shard = k := by
  simpa [pcRow, mem_upTo] using h
theorem pcs_count {l : List Sp} (hg : stepsP l l.length = true) : ∀ n, n ≤ l.length → numN (pcsL l n) = n
  | 0, _ => by rw [pcsL_zero]; rfl
  | n + 1, hn => by
    have ih := pcs_count hg n (by omega)
    have hok := stepsP_at hg (i := n) (by omega)
    have e : ∀ m, numN (pcsL l m) = (pcRow l m 0).length + (pcRow l m 1).length + (pcRow l m 2).length := fun m => by
      simp [numN, pcsL, List.range_succ]; omega
    rw [e] at ih ⊢
    rw [pcRow_succ, pcRow_succ, pcRow_succ, getD_in (by omega : n < l.length)]
    obtain ⟨h1, _⟩ := hok
    have h3 : l[n].shard = 0 ∨ l[n].shard = 1 ∨ l[n].shard = 2 := by omega
    rcases h3 with h | h | h <;> simp [h] <;> omega

theorem runs_tail {R : V → Heap → Prop} (hR : ∀ v h, v = .bool true → R v h) (s : S) {vb : V} {bs : List Byte} (hb : Sl s.h vb bs) (g1 : s.σ 1 = .v vb) : Wc p tail577 s (finK [.tmp 4] fun r => R r.1 r.2) := by
  obtain ⟨u, h1, e1, l, sl, hl, k1, l1⟩ := drawPiecesOf_ok hb
  obtain ⟨_, h2, e2, o2, F2, rfl, s2, k2, l2⟩ := PiecesOf_ok sl (by omega)
  obtain ⟨_, h3, e3, o3, F3, rfl, s3, k3, l3⟩ := PiecesOfS_ok (sl.keeps k2) (by omega)
  have e4 := sameRows_same (s2.keep k3) s3
  have s2' := s2.keep k3
  have sl' := sl.keeps (k2.trans k3)
  cases hg : stepsB l with
  | false =>
    rw [hg] at e2 e3
    have hp : pcR l = [] := by simp [pcR, hg]
    rw [hp] at s2'
    simp [tail577, g1, e1, e2, e3, e4, s2'.len]
    refine Wc_upM (M := [4, 27, 28, 29, 31, 191, 192, 193, 194, 195, 196, 197, 198, 199, 200, 201, 202, 203, 204, 205, 206, 207, 208, 209, 210, 211, 212, 213, 214]) rfl 0 (fun i s => i = 0 ∧ s.σ 191 = .v (vi (0 : Nat))) 0 ⟨rfl, by simp⟩ fun i s ⟨gi, g191⟩ hM J hJ => ?_
    simp [g577_2, hM, g191]
    exact hR _ _ rfl
  | true =>
    rw [hg] at e2 e3
    have hg' := hg
    simp only [stepsB, Bool.and_eq_true, decide_eq_true_eq] at hg'
    have hp : pcR l = pcsL l l.length := by simp [pcR, hg]
    have hcnt := pcs_count hg'.1 l.length (Nat.le_refl _)
    have hpl := pcsL_len l l.length
    have hrow : ∀ i (hi : i < (pcR l).length), ∀ x ∈ (pcR l)[i], (0 ≤ x ∧ x < l.length) ∧ (l.getD x.toNat zS).shard = i := by
      rw [hp]; intro i hi x hx; rw [pcsL_get] at hx; exact pcRow_mem hx
    rw [← hp] at hcnt hpl
    generalize pcR l = rs at *
    simp [tail577, g1, e1, e2, e3, e4, s2'.len]
    refine Wc_upM (M := [4, 27, 28, 29, 31, 191, 192, 193, 194, 195, 196, 197, 198, 199, 200, 201, 202, 203, 204, 205, 206, 207, 208, 209, 210, 211, 212, 213, 214]) rfl rs.length (fun i s => i ≤ rs.length ∧ s.σ 191 = .v (vi i) ∧ s.σ 27 = .v (vi (numN (rs.take i))) ∧ s.h = h3) 0
      ⟨by omega, by simp, by simp [numN], by simp⟩ fun i s ⟨gi, g191, g27, gh⟩ hM J hJ => ?_
    by_cases hi : i < rs.length
    · obtain ⟨zi, Fi, li, hzi, _⟩ := s2'.loadL i hi
      have ii := s2'.idx 1 .i64 i hi
      simp only [Nat.mul_one] at ii
      have st := s2'.step hi
      have hn1 := numN_take hi
      have hn2 := numN_le rs (i + 1)
      have hr := hrow i hi
      have w1 : IntKind.i64.wrap ((numN (rs.take i) : Int) + (rs[i].length : Int)) = (numN (rs.take (i + 1)) : Int) := by rw [hn1, IntWalk.i64_in] <;> omega
      generalize numN (rs.take (i + 1)) = nn at *
      generalize hrr : rs[i] = row at *
      simp [g577_2, hM, g191, g27, gh, hi, ii, li, hzi.len, w1]
      refine Wc_upM (M := [4, 31, 202, 203, 204, 205, 206, 207, 208, 209, 210, 211, 212, 213]) rfl row.length (fun j s => j ≤ row.length ∧ s.σ 202 = .v (vi j) ∧ s.h = h3) 0 ⟨by omega, by simp, by simp⟩ fun j s2 ⟨gj, g202, gh2⟩ hM2 J2 hJ2 => ?_
      by_cases hj : j < row.length
      · have ix := hzi.idx 1 .i64 j hj
        simp only [Nat.mul_one] at ix
        have ld := hzi.sl.loadI j hj
        have stj := hzi.step hj
        obtain ⟨hx1, hx2⟩ := hr _ (List.getElem_mem hj)
        generalize row[j] = x at *
        obtain ⟨m, rfl⟩ : ∃ m : Nat, x = m := ⟨x.toNat, by omega⟩
        have hm : m < l.length := by omega
        have iy := sl'.idx 5 .i64 m hm
        have le := sl'.loadS1 m hm
        simp only [Int.toNat_natCast, getD_in hm] at hx2
        rw [hx2] at le
        simp [g577_1, hM2, hM, g202, gh2, hj, ix, ld, iy, le, stj]
        exact hJ2 _ hj ⟨hj, by simp, rfl⟩
      · simp [g577_1, hM2, hM, g202, gh2, hj, g191, st]
        exact hJ _ hi ⟨hi, by simp, by simp [hM2], rfl⟩
    · have : i = rs.length := by omega
      subst this
      rw [List.take_length, hcnt] at g27
      simp [g577_2, hM, g191, g27, gh, sl.len]
      exact hR _ _ rfl
end GL

namespace GL
open Go

/-- steps run on a store in which one cell is other that is not got -/
theorem runs_other {l : List Sp} (hg : stepsP l l.length = true) {st ot : List Int} (hs : st.length = 12) (ho : ot.length = 12) {a : Nat} (hne : ∀ k, k ≠ a → ot.getD k 0 = st.getD k 0) (ha : (∀ s ∈ l, s.kind = 1 → (cellS s).toNat ≠ a) ∨ ot = st) :
    ∀ n, n ≤ l.length → (runF l (upTo n) ot).2 = (runF l (upTo n) st).2 ∧ (runF l (upTo n) ot).1.length = 12 ∧ (runF l (upTo n) st).1.length = 12 ∧
      (∀ k, k ≠ a → (runF l (upTo n) ot).1.getD k 0 = (runF l (upTo n) st).1.getD k 0) ∧ (ot = st ∨ (∃ s ∈ l.take n, s.kind = 3 ∧ (cellS s).toNat = a) → (runF l (upTo n) ot).1.getD a 0 = (runF l (upTo n) st).1.getD a 0) ∧
      ∀ k, (∀ s ∈ l.take n, s.kind = 3 → (cellS s).toNat ≠ k) → (runF l (upTo n) st).1.getD k 0 = st.getD k 0
  | 0, _ => ⟨rfl, ho, hs, hne, fun h => by
      rcases h with h | ⟨s, h, _⟩
      · rw [h]
      · simp at h, fun _ _ => rfl⟩
  | n + 1, hn => by
    obtain ⟨i1, i2, i3, i4, i5, i6⟩ := runs_other hg hs ho hne ha n (by omega)
    have hn' : n < l.length := by omega
    obtain ⟨o1, o2, o3⟩ := stepsP_at hg hn'
    have hmem : l[n] ∈ l := List.getElem_mem hn'
    have htk : ∀ s, s ∈ l.take (n + 1) ↔ s ∈ l.take n ∨ s = l[n] := fun s => mem_take_succ hn'
    have e : ∀ s, runF l (upTo (n + 1)) s = stepR l (runF l (upTo n) s) n := fun s => by
      simp only [runF, upTo_succ, List.foldl_append, List.foldl_cons, List.foldl_nil]
    rw [e, e]
    generalize runF l (upTo n) ot = p at *
    generalize runF l (upTo n) st = q at *
    obtain ⟨p1, p2⟩ := p
    obtain ⟨q1, q2⟩ := q
    simp only at i1 i2 i3 i4 i5 i6
    subst i1
    simp only [stepR, Int.toNat_natCast, getD_in hn']
    generalize hx : l[n] = x at *
    rcases o3 with ⟨k1, _⟩ | ⟨k2, _⟩ | ⟨k3, _⟩
    · have hc : p1.getD (cellS x).toNat 0 = q1.getD (cellS x).toNat 0 := by
        rcases ha with h | h
        · exact i4 _ (h x hmem k1)
        · by_cases hca : (cellS x).toNat = a
          · rw [hca]; exact i5 (.inl h)
          · exact i4 _ hca
      simp only [k1, if_true]
      refine ⟨by rw [hc], i2, i3, i4, fun h => i5 ?_, fun k hk => i6 k fun s hs => hk s ((htk s).2 (.inl hs))⟩
      rcases h with h | ⟨s, h1, h2, h3⟩
      · exact .inl h
      · rcases (htk s).1 h1 with h | h
        · exact .inr ⟨s, h, h2, h3⟩
        · subst h; omega
    · simp only [k2, show ¬ ((2 : Int) = 1) by decide, if_false, if_true]
      refine ⟨trivial, i2, i3, i4, fun h => i5 ?_, fun k hk => i6 k fun s hs => hk s ((htk s).2 (.inl hs))⟩
      rcases h with h | ⟨s, h1, h2, h3⟩
      · exact .inl h
      · rcases (htk s).1 h1 with h | h
        · exact .inr ⟨s, h, h2, h3⟩
        · subst h; omega
    · simp only [k3, show ¬ ((3 : Int) = 1) by decide, show ¬ ((3 : Int) = 2) by decide, if_false]
      have hcl : (cellS x).toNat < 12 := by unfold cellS; omega
      refine ⟨trivial, by simpa using i2, by simpa using i3, fun k hk => ?_, fun h => ?_, fun k hk => ?_⟩
      · rw [getD_set, getD_set]
        by_cases hck : (cellS x).toNat = k
        · rw [if_pos ⟨hck, by omega⟩, if_pos ⟨hck, by omega⟩]
        · rw [if_neg (by omega), if_neg (by omega)]; exact i4 k hk
      · rw [getD_set, getD_set]
        by_cases hck : (cellS x).toNat = a
        · rw [if_pos ⟨hck, by omega⟩, if_pos ⟨hck, by omega⟩]
        · rw [if_neg (by omega), if_neg (by omega)]
          refine i5 ?_
          rcases h with h | ⟨s, h1, h2, h3⟩
          · exact .inl h
          · rcases (htk s).1 h1 with h | h
            · exact .inr ⟨s, h, h2, h3⟩
            · subst h; exact absurd h3 hck
      · have h1 := hk x ((htk x).2 (.inr rfl)) k3
        rw [getD_set, if_neg (by omega)]
        exact i6 k fun s hs => hk s ((htk s).2 (.inl hs))

theorem runs_loop (s0 : S) (K : Ex → S → Prop) {v5 v7 v11 v18 : V} {st r2 ro : List Int} {l : List Sp} {F7 F11 F18 : List Nat} {a : Nat} (g5 : s0.σ 5 = .v v5) (g7 : s0.σ 7 = .v v7) (g11 : s0.σ 11 = .v v11) (g18 : s0.σ 18 = .v v18) (g17 : s0.σ 17 = .v (vi a)) (g127 : s0.σ 127 = .v (vi 12)) (g128 : s0.σ 128 = .v (vi 0))
    (q5 : Sl s0.h v5 st) (q7 : SdF s0.h v7 r2 F7) (q11 : SdF s0.h v11 (usedL 3 l) F11) (q18 : SdF s0.h v18 ro F18) (l5 : st.length = 12) (l7 : r2.length = 12) (l18 : ro.length = 12) (hg : stepsP l l.length = true)
    (i4 : ∀ k, k ≠ a → ro.getD k 0 = r2.getD k 0) (i5 : (∃ s ∈ l, s.kind = 3 ∧ (cellS s).toNat = a) → ro.getD a 0 = r2.getD a 0) (i6 : ∀ k, (∀ s ∈ l, s.kind = 3 → (cellS s).toNat ≠ k) → r2.getD k 0 = st.getD k 0)
    (hK : ∀ s, s.h = s0.h → s.σ 1 = s0.σ 1 → K (.exit 0) s) : Wc p (.loop g577_0) s0 K := by
  refine Wc_upM (M := [4, 21, 128, 129, 130, 131, 132, 133, 134, 135, 136, 137, 138, 139, 140, 141, 142, 143, 144, 145, 146, 147, 148, 149, 150, 151, 152, 153, 154, 155, 156, 157, 158, 159, 160, 161, 162, 163, 164, 165, 166, 167]) rfl 12 (fun i s => i ≤ 12 ∧ s.σ 128 = .v (vi i) ∧ s.h = s0.h) 0 ⟨by omega, by simpa using g128, rfl⟩ fun i s ⟨gi, g128, gh⟩ hM J hJ => ?_
  by_cases hi : i < 12
  · have hi' : (i : Int) < 12 := by omega
    have st' : IntKind.i64.wrap ((i : Int) + 1) = (i + 1 : Nat) := by rw [IntWalk.i64_in] <;> omega
    have h1 := has_eq q11.sl (i : Int)
    have ixa := q5.idx 1 .i64 i (by omega)
    have ixb := q7.idx 1 .i64 i (by omega)
    have ixc := q18.idx 1 .i64 i (by omega)
    have lda := q5.loadI i (by omega)
    have ldb := q7.sl.loadI i (by omega)
    have ldc := q18.sl.loadI i (by omega)
    simp only [Nat.mul_one] at ixa ixb ixc
    have e4 := i4 i
    have e6 := i6 i
    rw [getD_at (by omega), getD_at (by omega)] at e4 e6
    have hput : (i : Int) ∈ usedL 3 l → ∃ s ∈ l, s.kind = 3 ∧ (cellS s).toNat = i := fun h => by
      obtain ⟨_, s, h1, h2, h3⟩ := mem_usedL.1 h
      exact ⟨s, h1, h2, by omega⟩
    have hnot : (i : Int) ∉ usedL 3 l → ∀ s ∈ l, s.kind = 3 → (cellS s).toNat ≠ i := fun h s hs hk hc => h (by
      obtain ⟨j, hj, rfl⟩ := List.getElem_of_mem hs
      obtain ⟨p1, p2, _⟩ := stepsP_at hg hj
      have hcc : cellS l[j] = i := by unfold cellS at hc ⊢; omega
      exact mem_usedL.2 ⟨by omega, l[j], hs, hk, hcc⟩)
    by_cases hm : (i : Int) ∈ usedL 3 l
    · rw [decide_eq_true hm] at h1
      have exs : ro[i] = r2[i] := by
        by_cases hia : i = a
        · subst hia
          have := i5 (hput hm)
          rwa [getD_at (by omega), getD_at (by omega)] at this
        · exact e4 hia
      rw [exs] at ldc
      by_cases hia : (i : Int) = a
      · have hia2 : i = a := by omega
        subst hia2
        simp [g577_0, hM, g7, g11, g18, g17, g127, g128, gh, hi, hi', h1, ixb, ixc, ldb, ldc, st', -Int.natCast_add]
        exact hJ _ hi ⟨hi, by simp, rfl⟩
      · simp [g577_0, hM, g5, g7, g11, g18, g17, g127, g128, gh, hi, hi', h1, ixb, ixc, ldb, ldc, hia, st', -Int.natCast_add]
        exact hJ _ hi ⟨hi, by simp, rfl⟩
    · rw [decide_eq_false hm] at h1
      rw [e6 (hnot hm)] at ldb
      by_cases hia : (i : Int) = a
      · have hia2 : i = a := by omega
        subst hia2
        simp [g577_0, hM, g5, g7, g11, g17, g127, g128, gh, hi, hi', h1, ixa, ixb, lda, ldb, st', -Int.natCast_add]
        exact hJ _ hi ⟨hi, by simp, rfl⟩
      · rw [e4 (fun e => hia (by omega)), e6 (hnot hm)] at ldc
        simp [g577_0, hM, g5, g7, g11, g18, g17, g127, g128, gh, hi, hi', h1, ixa, ixb, ixc, lda, ldb, ldc, hia, st', -Int.natCast_add]
        exact hJ _ hi ⟨hi, by simp, rfl⟩
  · have hi' : ¬ (i : Int) < 12 := by omega
    simp [g577_0, hM, g127, g128, gh, hi, hi']
    exact hK _ (by simp [gh]) (by simp [hM])

set_option maxRecDepth 20000 in
theorem FnRuns_ok {h : Heap} {va vb : V} {as bs : List Byte} (ha : Sl h va as) (hb : Sl h vb bs) : ∃ r h', call p 577 [va, vb] h = some (r, h') ∧ r = .bool true := by
  refine go (fn := g577) rfl rfl fun R hR => ?_
  by_cases hbig : (1048576 : Int) < IntKind.i64.wrap ((as.length : Int) + bs.length)
  · simp [g577, ha.len, hb.len, hbig]
    exact hR _ _ rfl
  · obtain ⟨_, h1, e1, vst, vl, st, l, rfl, sst, sl, hst, hl, k1, l1⟩ := drawRunSteps_ok ha
    obtain ⟨_, h2, e2, a2, b2, Fa2, Fb2, rfl, sa2, sb2, k2, l2⟩ := RunSteps_ok sst sl (by omega)
    obtain ⟨_, h3, e3, a3, b3, Fa3, Fb3, rfl, sa3, sb3, k3, l3⟩ := KeysUsed_ok (sl.keeps k2) (by omega)
    obtain ⟨_, h4, e4, a4, b4, Fa4, Fb4, rfl, sa4, sb4, k4, l4⟩ := KeysUsedS_ok ((sl.keeps k2).keeps k3) (by omega)
    have f1 := sameInts_eq (sa3.sl.keeps k4) sa4.sl
    have f2 := sameInts_eq (sb3.sl.keeps k4) sb4.sl
    rw [decide_eq_true rfl] at f1 f2
    have k24 := (k2.trans k3).trans k4
    cases hrb : runB l st with
    | false =>
      rw [hrb] at e2
      show Wc p (.seq _ (.seq _ (.seq _ (.seq _ (.seq _ (.seq _ (.seq _ (.seq _ tail577)))))))) _ _
      simp [g577, ha.len, hb.len, hbig, e1, e2, e3, e4, f1, f2]
      exact runs_tail hR _ (hb.keeps (k1.trans k24)) (by simp)
    | true =>
      rw [hrb] at e2
      have hrb' := hrb
      simp only [runB, Bool.and_eq_true] at hrb'
      obtain ⟨hsb, hgb⟩ := hrb'
      rw [hgb] at e3 e4
      have hgb' := hgb
      simp only [stepsB, Bool.and_eq_true, decide_eq_true_eq] at hgb'
      have hu1 : usedR 1 l = usedL 1 l := by rw [usedR, if_pos hgb]
      have hu3 : usedR 3 l = usedL 3 l := by rw [usedR, if_pos hgb]
      have hr1 : runR l st = runF l (upTo l.length) st := by rw [runR, if_pos hrb]
      rw [hu1] at sa3
      rw [hu3] at sb3
      rw [hr1] at sa2 sb2
      have kl : Keeps h4 (h4 ++ [⟨.own, []⟩]) := Keeps.append _ _
      obtain ⟨ys5, v5, h5, e5, e6, o5, k5, l5, b5⟩ := (Out.empty (α := Int) (lo := h4.length) (h := h4 ++ [⟨.own, []⟩]) (b := h4.length) (Nat.le_refl _) (by simp)).appT ((sst.keeps k24).keeps kl) (bytes := 8) (by decide) (by simp; omega) (k := 1) rfl (n := st.length) rfl
      simp only [List.nil_append] at o5
      have k45 : Keeps h4 h5 := Keeps.far (n := h4.length) kl k5 (Nat.le_refl _) fun i hi ⟨_, _, _, e⟩ => by cases e; omega
      obtain ⟨nn, hnn, e7⟩ := numberOf_eq (hb.keeps ((k1.trans k24).trans k45))
      obtain ⟨a, hat, ha12⟩ : ∃ a : Nat, (nn : Int).tmod 12 = a ∧ a < 12 := ⟨nn % 12, by rw [Int.tmod_eq_emod_of_nonneg (by omega)]; omega, by omega⟩
      have wat : IntKind.i64.wrap (a : Int) = a := by rw [IntWalk.i64_in] <;> omega
      have c1 := has_eq ((sa3.sl.keeps k4).keeps k45) (a : Int)
      -- the other store
      have other : ∃ (ot : List Int) (h6 : Heap), ot.length = 12 ∧ (∀ k, k ≠ a → ot.getD k 0 = st.getD k 0) ∧ ((∀ s ∈ l, s.kind = 1 → (cellS s).toNat ≠ a) ∨ ot = st) ∧ storeB ot = true ∧ Out h4.length h6 v5 ot ∧ Keeps h4 h6 ∧ h4.length ≤ h6.length ∧
          (if (a : Int) ∈ usedL 1 l then h6 = h5 else wrH h5 (bOf v5) (oOf v5 + a) [vi 77] = some h6) := by
        by_cases hm : (a : Int) ∈ usedL 1 l
        · exact ⟨st, h5, hst, fun _ _ => rfl, .inr rfl, hsb, o5, k45, by simp at l5; omega, by rw [if_pos hm]⟩
        · obtain ⟨h6, q1, q2, q3, q4⟩ := o5.set (i := a) (by omega) (77 : Int) (o := oOf v5 + a) (cs := [vi 77]) (by simp [Flat.sz]) rfl
          refine ⟨st.set a 77, h6, by simpa using hst, fun k hk => by rw [getD_set, if_neg (by omega)], .inl fun s hs hk hc => hm ?_, ?_, q2, o5.far k45 q3 (Nat.le_refl _), by simp at l5; omega, by rw [if_neg hm]; exact q1⟩
          · obtain ⟨i, hi, rfl⟩ := List.getElem_of_mem hs
            obtain ⟨p1, p2, _⟩ := stepsP_at hgb'.1 hi
            have hcc : cellS l[i] = a := by unfold cellS at hc ⊢; omega
            exact mem_usedL.2 ⟨by omega, l[i], hs, hk, hcc⟩
          · simp only [storeB, Bool.and_eq_true, decide_eq_true_eq, List.all_eq_true] at hsb ⊢
            refine ⟨by simpa using hst, fun x hx => ?_⟩
            rcases List.mem_or_eq_of_mem_set hx with h | h
            · exact hsb.2 x h
            · omega
      obtain ⟨ot, h6, hol, hoe, hoa, hos, o6, k46, l46, hwr⟩ := other
      have hrb2 : runB l ot = true := by simp [runB, hos, hgb]
      have hr2 : runR l ot = runF l (upTo l.length) ot := by rw [runR, if_pos hrb2]
      obtain ⟨_, h7, e8, a7, b7, Fa7, Fb7, rfl, sa7, sb7, k7, l7⟩ := RunSteps_ok o6.sl (sl.keeps (k24.trans k46)) (by omega)
      rw [hrb2] at e8
      rw [hr2] at sa7 sb7
      obtain ⟨i1, i2, i3, i4, i5, i6⟩ := runs_other hgb'.1 hst hol hoe hoa l.length (Nat.le_refl _)
      rw [List.take_length] at i5 i6
      have k47 := k46.trans k7
      have sa2' := sa2.keep (((k3.trans k4)).trans k47)
      have sb2' := sb2.keep (((k3.trans k4)).trans k47)
      have sst' := sst.keeps (k24.trans k47)
      have sb3' := sb3.keep (k4.trans k47)
      have f3 := sameInts_eq sb2'.sl sb7.sl
      rw [i1, decide_eq_true rfl] at f3
      generalize runF l (upTo l.length) st = Rs at *
      generalize runF l (upTo l.length) ot = Ro at *
      have ln2 := sa2'.len
      have ln7 := sa7.len
      rw [i3] at ln2
      rw [i2] at ln7
      have stl := sst.len
      rw [hst] at stl
      have o5l := o5.sl.len
      rw [hst] at o5l e5 e6
      have w5 := o5.sl.idx 1 .i64 a (by omega)
      simp only [Nat.mul_one] at w5
      show Wc p (.seq _ (.seq _ (.seq _ (.seq _ (.seq _ (.seq _ (.seq _ (.seq _ tail577)))))))) _ _
      by_cases hm : (a : Int) ∈ usedL 1 l
      · rw [if_pos hm] at hwr
        subst hwr
        rw [decide_eq_true hm] at c1
        simp [g577, ha.len, hb.len, hbig, e1, e2, e3, e4, f1, f2, stl, e5, e6, o5l, e7, hat, wat, c1, e8, f3, ln2, ln7]
        refine runs_loop _ _ (a := a) (by simp) (by simp) (by simp) (by simp) (by simp) (by simp) (by simp) sst' sa2' sb3' sa7 hst i3 i2 hgb'.1 i4 (fun h => i5 (.inr h)) i6 fun s q1 q2 => ?_
        simp
        exact runs_tail hR s (by rw [q1]; exact hb.keeps ((k1.trans k24).trans k47)) (by rw [q2]; simp)
      · rw [if_neg hm] at hwr
        rw [decide_eq_false hm] at c1
        simp [g577, ha.len, hb.len, hbig, e1, e2, e3, e4, f1, f2, stl, e5, e6, o5l, e7, hat, wat, c1, w5, hwr, e8, f3, ln2, ln7]
        refine runs_loop _ _ (a := a) (by simp) (by simp) (by simp) (by simp) (by simp) (by simp) (by simp) sst' sa2' sb3' sa7 hst i3 i2 hgb'.1 i4 (fun h => i5 (.inr h)) i6 fun s q1 q2 => ?_
        simp
        exact runs_tail hR s (by rw [q1]; exact hb.keeps ((k1.trans k24).trans k47)) (by rw [q2]; simp)
end GL

