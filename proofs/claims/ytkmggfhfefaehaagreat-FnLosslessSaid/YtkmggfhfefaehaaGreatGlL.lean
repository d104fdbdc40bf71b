import Derived.Below
import Derived.Shelf.GgSortFunc.InsertionK
import Derived.Sort.OwnSortedInts
import Derived.Test.YtkmggfhfefaehaaGreatGlK
/- GL, a small deterministic machine: its definitions, and that its calls are calls of the program. -/
set_option linter.unusedSimpArgs false
set_option linter.unusedVariables false
set_option linter.unnecessarySimpa false
/-! GL: slices.SortFunc at values and at lists: sound by the shelf's contracts. -/
namespace GL
open Go

theorem putGetE {α : Type} [Inhabited α] {enc : α → Value} {off : Nat} {d : Array α} {arr : Array Value} {i : Nat} : (Go.Sort.putCells enc off d arr)[i]? = if off ≤ i ∧ i < off + d.size then (arr[i]?).map (fun _ => enc d[i - off]!) else arr[i]? := by
  simp only [Go.Sort.putCells, Array.getElem?_mapIdx]
  split
  · cases arr[i]? <;> simp [*]
  · cases arr[i]? <;> simp [*]
/-- a row written by a contract, in a world that drew and laid blocks -/
theorem putRow_hs {fid : Nat → FuncId} {ρ : Rho} {h h' : Heap} {w : World} {b off : Nat} {ys : List V} {α : Type} [Inhabited α] {enc : α → Value} {d : Array α} {at' : At}
    (hm : RM fid ρ h w) (hw : wrH h b off ys = some h') (hcl : allCell ys = true) (hlen : d.size = ys.length) (hrv : ∀ (i : Nat) (v : V), ys[i]? = some v → RV fid ρ v (enc d[i]!)) (g1 : ρ b = some at') (k : Nat) (os : Array Obj) :
    HS fid ρ h w (.tup []) h' (.tuple #[]) (Go.Sort.grow (Go.Sort.putRow enc (Go.Sort.ahead w k) at'.cb (at'.co + off) d) os) := by
  obtain ⟨blk, cs, hb, ho, hlay, rfl⟩ := wrH_eq hw
  obtain ⟨hsz, arr, T, harr, hco⟩ := hm.own b blk at' hb g1 ho
  have hcb := hm.bd b blk at' hb g1 (by rw [ho]; decide)
  obtain ⟨ll1, ll2⟩ := lay_len hlay
  let arr' := Go.Sort.putCells enc (at'.co + off) d arr
  have hsize : arr'.size = arr.size := by simp [arr', Go.Sort.putCells]
  have hrm : RM fid ρ (h.set b { blk with cells := cs }) (setO w at'.cb (.cells arr' T (0, 0))) := by
    refine hm.write hb g1 ho (lay_cell hlay (hm.cel _ _ hb (by rw [ho]; decide)) hcl) ll1 harr hsize fun i v hi => ?_
    rw [lay_get hlay] at hi
    have hag : arr'[at'.co + i]? = if at'.co + off ≤ at'.co + i ∧ at'.co + i < at'.co + off + d.size then (arr[at'.co + i]?).map (fun _ => enc d[at'.co + i - (at'.co + off)]!) else arr[at'.co + i]? := putGetE
    have hold : ∀ v, blk.cells[i]? = some v → ∃ x, arr[at'.co + i]? = some x ∧ RV fid ρ v x := fun v hi => by
      obtain ⟨x, hx, hrx⟩ := hm.cell b blk at' i v hb g1 (by rw [ho]; decide) hi
      rw [cell?_arr harr] at hx
      exact ⟨x, hx, hrx⟩
    by_cases h1 : i < off
    · rw [if_pos h1] at hi
      rw [hag, if_neg (by omega)]
      exact hold v hi
    · rw [if_neg h1] at hi
      by_cases h2 : i < off + ys.length
      · rw [if_pos h2] at hi
        rw [hag, if_pos (by omega)]
        have hlt : at'.co + i < arr.size := by omega
        have hsub : at'.co + i - (at'.co + off) = i - off := by omega
        rw [hsub, Array.getElem?_eq_getElem hlt]
        exact ⟨_, rfl, hrv _ _ hi⟩
      · rw [if_neg h2] at hi
        rw [hag, if_neg (by omega)]
        exact hold v hi
  have hbel : Go.RowKit.Below (setO w at'.cb (.cells arr' T (0, 0))).heap.size (setO w at'.cb (.cells arr' T (0, 0))) (Go.Sort.grow (Go.Sort.putRow enc (Go.Sort.ahead w k) at'.cb (at'.co + off) d) os) := by
    refine ⟨rfl, rfl, rfl, by simp [setO, Go.Sort.grow, Go.Sort.putRow, Go.Sort.mapBlock, Go.Sort.ahead], fun j hj => ?_⟩
    have hj' : j < w.heap.size := by simpa [setO] using hj
    rw [Go.Sort.heap_grow_old _ _ (by simpa [Go.Sort.putRow, Go.Sort.mapBlock, Go.Sort.ahead] using hj')]
    by_cases hje : j = at'.cb
    · subst hje
      rw [setO_eq _ _ hcb]
      simp [Go.Sort.putRow, Go.Sort.mapBlock, Go.Sort.ahead, Array.getElem?_modify, harr, Go.Sort.onCells, arr']
    · rw [setO_ne _ _ hje]
      have : ¬ at'.cb = j := fun e => hje e.symm
      simp [Go.Sort.putRow, Go.Sort.mapBlock, Go.Sort.ahead, Array.getElem?_modify, this]
  have hfs : Fr (Owned ρ h) w (setO w at'.cb (.cells arr' T (0, 0))) := Fr.set _ _ ⟨b, blk, at', hb, ho, g1, rfl⟩
  exact ⟨ρ, hrm.below hbel, Keep.refl _ _, ⟨hbel.os.trans hfs.os, hbel.tape.trans hfs.tape, hbel.output.trans hfs.output, Nat.le_trans hfs.size hbel.size, fun cb hc ho => (hbel.block cb (Nat.lt_of_lt_of_le hc hfs.size)).trans (hfs.block cb hc ho)⟩, OI.set hb (fun _ => rfl), .tup .nil⟩

/-! values -/
def encV (z : Val2) : List Value := [.bool z.1, .int .i64 z.2]
def flatV (zs : List Val2) : Array Value := (zs.flatMap encV).toArray
theorem valsP_some : ∀ (n : Nat) {xs : List V} {zs : List Val2}, xs.length ≤ n → valsP xs = some zs → xs = valC zs
  | _, [], zs, _, h => by simp [valsP] at h; subst h; rfl
  | _, [x], zs, _, h => by simp [valsP] at h
  | 0, x :: y :: r, zs, hn, h => by simp at hn
  | n + 1, x :: y :: r, zs, hn, h => by
    simp only [valsP, Option.bind_eq_some_iff] at h
    obtain ⟨z, hz, t, ht, h⟩ := h
    injection h with h
    subst h
    have ih := valsP_some n (by simp at hn; omega) ht
    split at hz
    · injection hz with hz
      subst hz
      rw [ih]; rfl
    · cases hz
theorem valsP_eq : ∀ zs : List Val2, valsP (valC zs) = some zs
  | [] => rfl
  | z :: zs => by
    show (some z).bind (fun z => (valsP (valC zs)).bind fun t => some (z :: t)) = _
    rw [valsP_eq zs]; rfl
theorem valC_len (zs : List Val2) : (valC zs).length = 2 * zs.length := by
  induction zs with
  | nil => rfl
  | cons z zs ih => simp only [valC, List.flatMap_cons, List.length_append, List.length_cons, List.length_nil] at *; omega
theorem flatV_len (zs : List Val2) : (zs.flatMap encV).length = 2 * zs.length := by
  induction zs with
  | nil => rfl
  | cons z zs ih => simp only [encV, List.flatMap_cons, List.length_append, List.length_cons, List.length_nil] at *; omega
theorem flatV_size (zs : List Val2) : (flatV zs).size = 2 * zs.length := by rw [flatV, List.size_toArray, flatV_len]
theorem valC_rv {fid : Nat → FuncId} {ρ : Rho} : ∀ (zs : List Val2), RVs fid ρ (valC zs) (zs.flatMap encV)
  | [] => .nil
  | z :: zs => .cons (.bool _) (.cons (.int _ _) (valC_rv zs))
theorem valC_cell (zs : List Val2) : allCell (valC zs) = true := by
  induction zs with
  | nil => rfl
  | cons z zs ih =>
    have e : valC (z :: zs) = .bool z.1 :: .int .i64 z.2 :: valC zs := rfl
    rw [e]; simpa [allCell, V.cell] using ih
theorem srtV_len (zs : List Val2) : (srtV zs).length = zs.length := by simp [srtV]

theorem sortVE_some {args : List V} {h : Heap} {r : V × Heap} (hr : sortVE args h = some r) : ∃ v n zs, args = [v, .fn 152 []] ∧ lenV v = some n ∧ n ≤ 1099511627776 ∧ rdS h 2 v n = some (valC zs) ∧ r.1 = .tup [] ∧
    ((zs = [] ∧ r.2 = h ∧ (v = .nils ∨ ∃ b off m c, v = .slice b off m c)) ∨ (zs ≠ [] ∧ ∃ b off m c, v = .slice b off m c ∧ wrH h b off (valC (srtV zs)) = some r.2)) := by
  unfold sortVE at hr
  split at hr
  case h_2 => cases hr
  rename_i v f
  split at hr
  case isFalse => cases hr
  rename_i hf
  subst hf
  simp only [Option.bind_eq_some_iff] at hr
  obtain ⟨n, hn, hr⟩ := hr
  split at hr
  case isFalse => cases hr
  rename_i hle
  simp only [Option.bind_eq_some_iff] at hr
  obtain ⟨vs, hvs, zs, hzs, hr⟩ := hr
  have e := valsP_some _ (Nat.le_refl _) hzs
  subst e
  refine ⟨v, n, zs, rfl, hn, hle, hvs, ?_⟩
  split at hr
  · split at hr
    · rename_i h0
      injection hr with hr; subst hr
      exact ⟨rfl, .inl ⟨h0, rfl, .inr ⟨_, _, _, _, rfl⟩⟩⟩
    · rename_i h0
      simp only [Option.bind_eq_some_iff] at hr
      obtain ⟨h', hw, hr⟩ := hr
      injection hr with hr; subst hr
      exact ⟨rfl, .inr ⟨h0, _, _, _, _, rfl, hw⟩⟩
  · injection hr with hr; subst hr
    simp only [lenV] at hn
    injection hn with hn
    subst hn
    have : zs = [] := by
      have h1 := rdS_len hvs
      rw [valC_len] at h1
      exact List.eq_nil_of_length_eq_zero (by omega)
    exact ⟨rfl, .inl ⟨this, rfl, .inl rfl⟩⟩
  · cases hr
theorem sortVE_nil {h : Heap} {v : V} (hv : v = .nils ∨ ∃ b off m c, v = .slice b off m c) (hn : lenV v = some 0) : sortVE [v, .fn 152 []] h = some (.tup [], h) := by
  rcases hv with rfl | ⟨b, off, m, c, rfl⟩
  · simp [sortVE, lenV, rdS, valsP]
  · simp only [lenV] at hn
    injection hn with hn; subst hn
    simp [sortVE, lenV, rdS, valsP]
theorem sortVE_eq {h h' : Heap} {b off m : Nat} {c : Cap} {zs : List Val2} (hm : m ≤ 1099511627776) (hr : rdS h 2 (.slice b off m c) m = some (valC zs)) (h0 : zs ≠ []) (hw : wrH h b off (valC (srtV zs)) = some h') : sortVE [.slice b off m c, .fn 152 []] h = some (.tup [], h') := by
  simp [sortVE, lenV, hm, hr, valsP_eq, h0, hw]
theorem get_bang {xs : List Value} {i : Nat} {v : Value} (h : xs[i]? = some v) : xs.toArray[i]! = v := by
  rw [Array.getElem!_eq_getD, Array.getD_eq_getD_getElem?, List.getElem?_toArray, h]; rfl
theorem sortVE_ok {P : Program} {fid : Nat → FuncId} {f : Nat} (hf : ∃ F, P.funcs[fid f]? = some F ∧ (F.name == "runtime.NumGoroutine") = false ∧ F.body.isNone = false)
    (hc : ∀ (blk off cap : Nat) (zs : List Val2) (W : World), Go.Sort.Holds id W blk off (flatV zs) → blk < W.heap.size → zs.length < 4611686018427387904 →
      Calls P (fid f) #[.slice (some ⟨blk, off, none⟩) zs.length cap, .func (.func (fid 152)) #[] #[]] W fun e w' => e = .returned (.tuple #[]) ∧ ∃ k os, w' = Go.Sort.grow (Go.Sort.putRow id (Go.Sort.ahead W k) blk off (flatV (srtV zs))) os)
    (hn : ∀ (p : Option Addr) (cap : Nat) (W : World), Calls P (fid f) #[.slice p 0 cap, .func (.func (fid 152)) #[] #[]] W fun e w' => e = .returned (.tuple #[]) ∧ w' = W) :
    CallOK P fid fun g args h => if g = f then sortVE args h else none := by
  refine ⟨fun g args h v h' ρ w vs hx hm ha => ?_, fun g args h v h' q blk hx hd => ?_, fun g args h v h' hx => ?_⟩
  · split at hx
    case isFalse => cases hx
    rename_i e
    subst e
    obtain ⟨x, n, zs, rfl, hl, hle, hr, e1, hcase⟩ := sortVE_some hx
    simp only at e1 hcase
    subst e1
    cases ha with
    | cons h1 h2 =>
    cases h2 with
    | cons h2 h3 =>
    cases h3
    cases h2 with
    | fn h2 =>
    cases h2
    have hlen : n = zs.length := by
      have := rdS_len hr
      rw [valC_len] at this; omega
    subst hlen
    rcases hcase with ⟨rfl, rfl, hs⟩ | ⟨h0, b, off, m, c, rfl, hw⟩
    · obtain ⟨p, cap, hy⟩ : ∃ (p : Option Addr) (cap : Nat), _ = Value.slice p 0 cap := by
        rcases sI (zs := []) hm h1 hl (by rcases hs with rfl | ⟨b, off, m, c, rfl⟩ <;> simp [rdS]) with ⟨A, cap, hy, _⟩ | ⟨b, off, cap, hy, _⟩
        · exact ⟨A, cap, hy⟩
        · exact ⟨_, cap, hy⟩
      subst hy
      refine ⟨hf, (hn p cap w).mono ?_⟩
      rintro e' w' ⟨rfl, rfl⟩
      exact ⟨_, rfl, HS.same hm (.tup .nil)⟩
    · have hpos : 0 < zs.length := List.length_pos_iff.2 h0
      simp only [lenV] at hl
      injection hl with hl
      subst hl
      cases h1 with
      | slice g1 g2 g3 g4 g5 =>
      rename_i C at' A
      have hA := g5 (by omega)
      subst hA
      obtain ⟨blk, cs, hb, ho, hlay, hw2⟩ := wrH_eq hw
      have hcb := hm.bd b blk at' hb g1 (by rw [ho]; decide)
      obtain ⟨_, arr, T, harr, _⟩ := hm.own b blk at' hb g1 ho
      rw [rdS, if_pos (Nat.le_refl _), if_neg (by omega)] at hr
      have hH : Go.Sort.Holds id w at'.cb (at'.co + off) (flatV zs) := by
        intro j hj
        have hj' : j < (valC zs).length := by rw [valC_len]; rwa [flatV_size] at hj
        refine ⟨?_, by simp [World.frozen?, harr]⟩
        obtain ⟨y, hy, hry⟩ := (valC_rv (fid := fid) (ρ := ρ) zs).get (List.getElem?_eq_getElem hj')
        rw [rdH, hb] at hr
        simp only [ho] at hr
        rw [if_neg (by decide)] at hr
        have hcell : blk.cells[off + j]? = some (valC zs)[j] := by
          unfold cut at hr
          split at hr
          case isFalse => cases hr
          injection hr with hr
          have e2 : (valC zs)[j]? = blk.cells[off + j]? := by
            rw [← hr, List.getElem?_take, List.getElem?_drop]
            rw [if_pos (by rw [valC_len] at hj'; omega)]
          rw [← e2, List.getElem?_eq_getElem hj']
        obtain ⟨y2, hy2, hry2⟩ := hm.cell b blk at' (off + j) _ hb g1 (by rw [ho]; decide) hcell
        have e3 : y2 = y := by
          have e4 : ∀ {v : V} {a c : Value}, (∃ t, v = .bool t) ∨ (∃ t, v = .int .i64 t) → RV fid ρ v a → RV fid ρ v c → a = c := by
            rintro v a c (⟨t, rfl⟩ | ⟨t, rfl⟩) h1 h2 <;> cases h1 <;> cases h2 <;> rfl
          have e5 : ∀ (zs : List Val2) (v : V), v ∈ valC zs → (∃ t, v = .bool t) ∨ (∃ t, v = .int .i64 t) := by
            intro zs v hv
            simp only [valC, List.mem_flatMap, List.mem_cons, List.not_mem_nil, or_false] at hv
            obtain ⟨z, _, rfl | rfl⟩ := hv
            · exact .inl ⟨_, rfl⟩
            · exact .inr ⟨_, rfl⟩
          exact e4 (e5 zs _ (List.getElem_mem hj')) hry2 hry
        subst e3
        rw [show at'.co + off + j = at'.co + (off + j) by omega, hy2]
        rw [flatV, get_bang hy]; rfl
      refine ⟨hf, (hc at'.cb (at'.co + off) C zs w hH hcb (by omega)).mono ?_⟩
      rintro e' w' ⟨rfl, k, os, rfl⟩
      refine ⟨_, rfl, putRow_hs hm hw (valC_cell _) (by rw [flatV_size, valC_len]) (fun i v hi => ?_) g1 k os⟩
      obtain ⟨y, hy, hry⟩ := (valC_rv (fid := fid) (ρ := ρ) (srtV zs)).get hi
      rw [flatV, get_bang hy]; exact hry
  · split at hx
    case isFalse => cases hx
    rename_i e
    subst e
    obtain ⟨x, n, zs, rfl, hl, hle, hr, e1, hcase⟩ := sortVE_some hx
    simp only at e1 hcase
    subst e1
    rw [if_pos rfl]
    have hlen : n = zs.length := by
      have := rdS_len hr
      rw [valC_len] at this; omega
    subst hlen
    rcases hcase with ⟨rfl, rfl, hs⟩ | ⟨h0, b, off, m, c, rfl, hw⟩
    · exact ⟨hd, sortVE_nil hs hl⟩
    · simp only [lenV] at hl
      injection hl with hl
      subst hl
      obtain ⟨hd', hw'⟩ := wrH_fill (nb := blk) hd hw
      exact ⟨hd', sortVE_eq hle (rdS_fill hd hr) h0 hw'⟩
  · split at hx
    case isFalse => cases hx
    obtain ⟨x, n, zs, rfl, hl, hle, hr, e1, hcase⟩ := sortVE_some hx
    rcases hcase with ⟨rfl, e2, hs⟩ | ⟨h0, b, off, m, c, rfl, hw⟩
    · simp only at e2; subst e2; exact Nat.le_refl _
    · rw [wrH_len hw]; exact Nat.le_refl _
end GL
/-! GL: slices.SortFunc at lists: sound by the shelf's contract. -/
namespace GL
open Go

/-- a slice of the program holds numbers, not in block blk -/
def HoldsL (W : World) (blk : Nat) (v : Value) (xs : List Int) : Prop :=
  xs.length ≤ 1099511627776 ∧ ((∃ A cap, v = .slice A 0 cap ∧ xs = []) ∨ ∃ b off cap, v = .slice (some ⟨b, off, none⟩) xs.length cap ∧ b ≠ blk ∧ b < W.heap.size ∧ ∀ j, j < xs.length → W.cell? ⟨b, off + j, none⟩ = some (.int .i64 (xs[j]?.getD 0)))
theorem tupP_some {h : Heap} {b : Nat} : ∀ {xs : List V} {cs : List (List Int)}, tupP h b xs = some cs → cs.length = xs.length ∧ ∀ i x, xs[i]? = some x → lenV x = some (cs.getD i []).length ∧ (cs.getD i []).length ≤ 1099511627776 ∧ (blkV x ≠ some b ∨ (cs.getD i []).length = 0) ∧ rdS h 1 x (cs.getD i []).length = some ((cs.getD i []).map (V.int .i64))
  | [], cs, e => by
    simp [tupP] at e
    subst e
    exact ⟨rfl, fun i x hx => by simp at hx⟩
  | y :: xs, cs, e => by
    simp only [tupP, Option.bind_eq_some_iff] at e
    obtain ⟨m, hm, e⟩ := e
    split at e
    case isFalse => cases e
    rename_i hc
    simp only [Option.bind_eq_some_iff] at e
    obtain ⟨vs, hvs, z, hz, t, ht, e⟩ := e
    injection e with e
    subst e
    have e1 := intsV_some hz
    subst e1
    have hml : m = z.length := by have := rdS_len hvs; simpa using this.symm
    subst hml
    obtain ⟨q1, q2⟩ := tupP_some ht
    refine ⟨by simp [q1], fun i x hx => ?_⟩
    cases i with
    | zero =>
      simp at hx
      subst hx
      exact ⟨hm, hc.1, hc.2, hvs⟩
    | succ i =>
      simp at hx
      simpa using q2 i x hx
theorem tupP_fill {h : Heap} {b p : Nat} {nb : Blk} (hd : isDead h p = true) : ∀ {xs : List V} {cs : List (List Int)}, tupP h b xs = some cs → tupP (h.set p nb) b xs = some cs
  | [], cs, e => e
  | y :: xs, cs, e => by
    simp only [tupP, Option.bind_eq_some_iff] at e
    obtain ⟨m, hm, e⟩ := e
    split at e
    case isFalse => cases e
    rename_i hc
    simp only [Option.bind_eq_some_iff] at e
    obtain ⟨vs, hvs, z, hz, t, ht, e⟩ := e
    have q1 := rdS_fill (nb := nb) hd hvs
    have q2 := tupP_fill (nb := nb) hd ht
    simp only [tupP, hm, Option.bind_some, if_pos hc, q1, hz, q2, e]
theorem lenV_cell {x : V} {n : Nat} (h : lenV x = some n) : x.cell = true := by
  cases x <;> simp [lenV] at h <;> rfl
theorem holdsL_of {fid : Nat → FuncId} {ρ : Rho} {w : World} {h : Heap} {x : V} {y : Value} {zs : List Int} {b : Nat} {blk : Blk} {a : At} (hm : RM fid ρ h w) (hx : RV fid ρ x y) (hn : lenV x = some zs.length) (hz : rdS h 1 x zs.length = some (zs.map (V.int .i64)))
    (hl : zs.length ≤ 1099511627776) (hne : blkV x ≠ some b ∨ zs.length = 0) (hb : h[b]? = some blk) (ho : blk.st = .own) (ha : ρ b = some a) : HoldsL w a.cb y zs := by
  refine ⟨hl, ?_⟩
  rcases sI hm hx hn hz with h0 | ⟨b', off, cap, hy, hlt, hc⟩
  · exact .inl h0
  · by_cases h0 : zs = []
    · subst h0
      exact .inl ⟨_, _, hy, rfl⟩
    · refine .inr ⟨b', off, cap, hy, ?_, hlt, hc⟩
      have hpos : 0 < zs.length := List.length_pos_iff.2 h0
      subst hy
      cases hx with
      | slice g1 g2 g3 g4 g5 =>
      rename_i b1 off1 cap1 at1
      simp only [lenV] at hn
      have hbb : b ≠ b1 := fun e => by
        rcases hne with hne | hne
        · exact hne (by rw [e]; rfl)
        · omega
      have hA := g5 (by omega)
      injection hA with e1 e2
      rw [rdS, if_pos (by omega), if_neg (by omega), rdH] at hz
      split at hz
      case h_2 => cases hz
      rename_i blk1 hb1
      split at hz
      case isTrue => cases hz
      rename_i hl1
      rw [e1]
      exact fun e => hm.sep b b1 blk blk1 a at1 hbb hb hb1 ha g1 ho hl1 e.symm
theorem sortTE_some {args : List V} {h : Heap} {r : V × Heap} (hr : sortTE args h = some r) : ∃ v n xs, args = [v, .fn 677 []] ∧ lenV v = some n ∧ n ≤ 1099511627776 ∧ rdS h 1 v n = some xs ∧ r.1 = .tup [] ∧
    ((xs = [] ∧ r.2 = h ∧ (v = .nils ∨ ∃ b off m c, v = .slice b off m c)) ∨ (xs ≠ [] ∧ ∃ b off m c cs, v = .slice b off m c ∧ tupP h b xs = some cs ∧ wrH h b off ((idxT cs).map fun i => xs.getD i .nils) = some r.2)) := by
  unfold sortTE at hr
  split at hr
  case h_2 => cases hr
  rename_i v f
  split at hr
  case isFalse => cases hr
  rename_i hf
  subst hf
  simp only [Option.bind_eq_some_iff] at hr
  obtain ⟨n, hn, hr⟩ := hr
  split at hr
  case isFalse => cases hr
  rename_i hle
  simp only [Option.bind_eq_some_iff] at hr
  obtain ⟨xs, hvs, hr⟩ := hr
  refine ⟨v, n, xs, rfl, hn, hle, hvs, ?_⟩
  split at hr
  · simp only [Option.bind_eq_some_iff] at hr
    obtain ⟨cs, hcs, hr⟩ := hr
    have hlc := (tupP_some hcs).1
    split at hr
    · rename_i h0
      subst h0
      injection hr with hr; subst hr
      exact ⟨rfl, .inl ⟨List.eq_nil_of_length_eq_zero (by simpa using hlc.symm), rfl, .inr ⟨_, _, _, _, rfl⟩⟩⟩
    · rename_i h0
      simp only [Option.bind_eq_some_iff] at hr
      obtain ⟨h', hw, hr⟩ := hr
      injection hr with hr; subst hr
      exact ⟨rfl, .inr ⟨fun e => by subst e; exact h0 (List.eq_nil_of_length_eq_zero (by simpa using hlc)), _, _, _, _, _, rfl, hcs, hw⟩⟩
  · injection hr with hr; subst hr
    simp only [lenV] at hn
    injection hn with hn
    subst hn
    have : xs = [] := by
      have h1 := rdS_len hvs
      exact List.eq_nil_of_length_eq_zero (by omega)
    exact ⟨rfl, .inl ⟨this, rfl, .inl rfl⟩⟩
  · cases hr
theorem sortTE_nil {h : Heap} {v : V} (hv : v = .nils ∨ ∃ b off m c, v = .slice b off m c) (hn : lenV v = some 0) : sortTE [v, .fn 677 []] h = some (.tup [], h) := by
  rcases hv with rfl | ⟨b, off, m, c, rfl⟩
  · simp [sortTE, lenV, rdS]
  · simp only [lenV] at hn
    injection hn with hn; subst hn
    simp [sortTE, lenV, rdS, tupP]
theorem sortTE_eq {h h' : Heap} {b off m : Nat} {c : Cap} {xs : List V} {cs : List (List Int)} (hm : m ≤ 1099511627776) (hr : rdS h 1 (.slice b off m c) m = some xs) (h0 : xs ≠ []) (hcs : tupP h b xs = some cs) (hw : wrH h b off ((idxT cs).map fun i => xs.getD i .nils) = some h') : sortTE [.slice b off m c, .fn 677 []] h = some (.tup [], h') := by
  have h1 : cs ≠ [] := fun e => by
    have := (tupP_some hcs).1
    rw [e] at this
    exact h0 (List.eq_nil_of_length_eq_zero (by simpa using this.symm))
  simp only [sortTE, if_true, lenV, Option.bind_some, if_pos hm, hr, hcs, if_neg h1, hw]
theorem range_bang {n i : Nat} (h : i < n) : (Array.range n)[i]! = i := by simp [h]
theorem sortTE_ok {P : Program} {fid : Nat → FuncId} {f : Nat} (hf : ∃ F, P.funcs[fid f]? = some F ∧ (F.name == "runtime.NumGoroutine") = false ∧ F.body.isNone = false)
    (hc : ∀ (blk off cap : Nat) (enc : Nat → Value) (cs : List (List Int)) (W : World), cs.length < 4611686018427387904 → Go.Sort.Holds enc W blk off (Array.range cs.length) → blk < W.heap.size → (∀ i, HoldsL W blk (enc i) (cs.getD i [])) →
      Calls P (fid f) #[.slice (some ⟨blk, off, none⟩) cs.length cap, .func (.func (fid 677)) #[] #[]] W fun e w' => e = .returned (.tuple #[]) ∧ ∃ k os, w' = Go.Sort.grow (Go.Sort.putRow enc (Go.Sort.ahead W k) blk off (idxT cs).toArray) os)
    (hn : ∀ (p : Option Addr) (cap : Nat) (W : World), Calls P (fid f) #[.slice p 0 cap, .func (.func (fid 677)) #[] #[]] W fun e w' => e = .returned (.tuple #[]) ∧ w' = W) :
    CallOK P fid fun g args h => if g = f then sortTE args h else none := by
  refine ⟨fun g args h v h' ρ w vs hx hm ha => ?_, fun g args h v h' q blk hx hd => ?_, fun g args h v h' hx => ?_⟩
  · split at hx
    case isFalse => cases hx
    rename_i e
    subst e
    obtain ⟨x, n, xs, rfl, hl, hle, hr, e1, hcase⟩ := sortTE_some hx
    simp only at e1 hcase
    subst e1
    cases ha with
    | cons h1 h2 =>
    cases h2 with
    | cons h2 h3 =>
    cases h3
    cases h2 with
    | fn h2 =>
    cases h2
    have hlen : n = xs.length := by
      have := rdS_len hr
      omega
    subst hlen
    rcases hcase with ⟨rfl, rfl, hs⟩ | ⟨h0, b, off, m, c, cs, rfl, hcs, hw⟩
    · obtain ⟨p, cap, hy⟩ : ∃ (p : Option Addr) (cap : Nat), _ = Value.slice p 0 cap := by
        rcases sI (zs := []) hm h1 hl (by simpa using hr) with ⟨A, cap, hy, _⟩ | ⟨b, off, cap, hy, _⟩
        · exact ⟨A, cap, hy⟩
        · exact ⟨_, cap, hy⟩
      subst hy
      refine ⟨hf, (hn p cap w).mono ?_⟩
      rintro e' w' ⟨rfl, rfl⟩
      exact ⟨_, rfl, HS.same hm (.tup .nil)⟩
    · have hpos : 0 < xs.length := List.length_pos_iff.2 h0
      simp only [lenV] at hl
      injection hl with hl
      subst hl
      cases h1 with
      | slice g1 g2 g3 g4 g5 =>
      rename_i C at' A
      have hA := g5 (by omega)
      subst hA
      obtain ⟨blk, cs2, hb, ho, hlay, hw2⟩ := wrH_eq hw
      have hcb := hm.bd b blk at' hb g1 (by rw [ho]; decide)
      obtain ⟨_, arr, T, harr, _⟩ := hm.own b blk at' hb g1 ho
      rw [rdS, if_pos (Nat.le_refl _), if_neg (by omega)] at hr
      obtain ⟨hcl, hct⟩ := tupP_some hcs
      have hcell : ∀ j (hj : j < xs.length), blk.cells[off + j]? = some xs[j] := by
        intro j hj
        rw [rdH, hb] at hr
        simp only [ho] at hr
        rw [if_neg (by decide)] at hr
        unfold cut at hr
        split at hr
        case isFalse => cases hr
        injection hr with hr
        have e2 : xs[j]? = blk.cells[off + j]? := by
          conv => lhs; rw [← hr]
          rw [List.getElem?_take, List.getElem?_drop, if_pos (by omega)]
        rw [← e2, List.getElem?_eq_getElem hj]
      have hval : ∀ j (hj : j < xs.length), ∃ y, w.cell? ⟨at'.cb, at'.co + off + j, none⟩ = some y ∧ RV fid ρ xs[j] y := fun j hj => by
        obtain ⟨y, hy, hry⟩ := hm.cell b blk at' (off + j) _ hb g1 (by rw [ho]; decide) (hcell j hj)
        exact ⟨y, by rw [show at'.co + off + j = at'.co + (off + j) by omega]; exact hy, hry⟩
      let enc : Nat → Value := fun j => if j < xs.length then (w.cell? ⟨at'.cb, at'.co + off + j, none⟩).getD (.slice none 0 0) else .slice none 0 0
      have henc : ∀ j, RV fid ρ (xs.getD j .nils) (enc j) := fun j => by
        by_cases hj : j < xs.length
        · obtain ⟨y, hy, hry⟩ := hval j hj
          have : enc j = y := by simp only [enc, if_pos hj, hy, Option.getD_some]
          rw [this, List.getD_eq_getElem?_getD, List.getElem?_eq_getElem hj]; exact hry
        · have : enc j = .slice none 0 0 := by simp only [enc, if_neg hj]
          rw [this, List.getD_eq_getElem?_getD, List.getElem?_eq_none (by omega)]; exact .nils
      have hH : Go.Sort.Holds enc w at'.cb (at'.co + off) (Array.range cs.length) := by
        intro j hj
        have hj' : j < xs.length := by rw [← hcl]; simpa using hj
        refine ⟨?_, by simp [World.frozen?, harr]⟩
        obtain ⟨y, hy, hry⟩ := hval j hj'
        rw [range_bang (by simpa using hj), hy]
        simp only [enc, if_pos hj', hy, Option.getD_some]
      have hL : ∀ i, HoldsL w at'.cb (enc i) (cs.getD i []) := fun i => by
        by_cases hi : i < xs.length
        · obtain ⟨q1, q2, q3, q4⟩ := hct i _ (List.getElem?_eq_getElem hi)
          have hre := henc i
          rw [List.getD_eq_getElem?_getD, List.getElem?_eq_getElem hi] at hre
          exact holdsL_of hm hre q1 q4 q2 q3 hb ho g1
        · rw [show cs.getD i [] = [] by rw [List.getD_eq_getElem?_getD, List.getElem?_eq_none (by omega)]; rfl]
          exact ⟨by simp, .inl ⟨none, 0, by simp only [enc, if_neg hi], rfl⟩⟩
      refine ⟨hf, ?_⟩
      have hcall := hc at'.cb (at'.co + off) C enc cs w (by omega) hH hcb hL
      rw [hcl] at hcall
      refine hcall.mono ?_
      rintro e' w' ⟨rfl, k, os, rfl⟩
      refine ⟨_, rfl, putRow_hs hm hw ?_ (by simp) (fun i v hi => ?_) g1 k os⟩
      · simp only [allCell, List.all_eq_true, List.mem_map]
        rintro v ⟨i, _, rfl⟩
        by_cases hi : i < xs.length
        · rw [List.getD_eq_getElem?_getD, List.getElem?_eq_getElem hi]
          exact lenV_cell (hct i _ (List.getElem?_eq_getElem hi)).1
        · rw [List.getD_eq_getElem?_getD, List.getElem?_eq_none (by omega)]; rfl
      · rw [List.getElem?_map, Option.map_eq_some_iff] at hi
        obtain ⟨j, hj, rfl⟩ := hi
        have : (idxT cs).toArray[i]! = j := by
          rw [Array.getElem!_eq_getD, Array.getD_eq_getD_getElem?, List.getElem?_toArray, hj]; rfl
        rw [this]; exact henc j
  · split at hx
    case isFalse => cases hx
    rename_i e
    subst e
    obtain ⟨x, n, xs, rfl, hl, hle, hr, e1, hcase⟩ := sortTE_some hx
    simp only at e1 hcase
    subst e1
    rw [if_pos rfl]
    have hlen : n = xs.length := by
      have := rdS_len hr
      omega
    subst hlen
    rcases hcase with ⟨rfl, rfl, hs⟩ | ⟨h0, b, off, m, c, cs, rfl, hcs, hw⟩
    · exact ⟨hd, sortTE_nil hs hl⟩
    · simp only [lenV] at hl
      injection hl with hl
      subst hl
      obtain ⟨hd', hw'⟩ := wrH_fill (nb := blk) hd hw
      exact ⟨hd', sortTE_eq hle (rdS_fill hd hr) h0 (tupP_fill hd hcs) hw'⟩
  · split at hx
    case isFalse => cases hx
    obtain ⟨x, n, xs, rfl, hl, hle, hr, e1, hcase⟩ := sortTE_some hx
    rcases hcase with ⟨rfl, e2, hs⟩ | ⟨h0, b, off, m, c, cs, rfl, hcs, hw⟩
    · simp only at e2; subst e2; exact Nat.le_refl _
    · rw [wrH_len hw]; exact Nat.le_refl _
end GL
