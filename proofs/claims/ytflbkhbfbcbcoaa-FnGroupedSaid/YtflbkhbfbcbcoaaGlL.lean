import Derived.Below
import Derived.Shelf.GgSortFunc.InsertionK
import Derived.Sort.OwnSortedInts
import Derived.Test.YtflbkhbfbcbcoaaGlK
/- GL, a small deterministic machine: its definitions, and that its calls are calls of the program. -/
set_option linter.unusedSimpArgs false
set_option linter.unusedVariables false
set_option linter.unnecessarySimpa false
/-! GL: slices.SortFunc at values and at lists: sound by the shelf's contracts. -/
namespace GL
open Go

theorem putGetE {α : Type} [Inhabited α] {enc : α → Value} {off : Nat} {d : Array α} {arr : Array Value} {i : Nat} : (Go.Sort.putCells enc off d arr)[i]? = if off ≤ i ∧ i < off + d.size then (arr[i]?).map (fun _ => enc d[i - off]!) else arr[i]? := by
  simp only [Go.Sort.putCells, Array.getElem?_mapIdx]
  split
  · cases arr[i]? <;> simp [*]
  · cases arr[i]? <;> simp [*]
/-- a row written by a contract, in a world that drew and laid blocks -/
theorem putRow_hs {fid : Nat → FuncId} {ρ : Rho} {h h' : Heap} {w : World} {b off : Nat} {ys : List V} {α : Type} [Inhabited α] {enc : α → Value} {d : Array α} {at' : At}
    (hm : RM fid ρ h w) (hw : wrH h b off ys = some h') (hcl : allCell ys = true) (hlen : d.size = ys.length) (hrv : ∀ (i : Nat) (v : V), ys[i]? = some v → RV fid ρ v (enc d[i]!)) (g1 : ρ b = some at') (k : Nat) (os : Array Obj) :
    HS fid ρ h w (.tup []) h' (.tuple #[]) (Go.Sort.grow (Go.Sort.putRow enc (Go.Sort.ahead w k) at'.cb (at'.co + off) d) os) := by
  obtain ⟨blk, cs, hb, ho, hlay, rfl⟩ := wrH_eq hw
  obtain ⟨hsz, arr, T, harr, hco⟩ := hm.own b blk at' hb g1 ho
  have hcb := hm.bd b blk at' hb g1 (by rw [ho]; decide)
  obtain ⟨ll1, ll2⟩ := lay_len hlay
  let arr' := Go.Sort.putCells enc (at'.co + off) d arr
  have hsize : arr'.size = arr.size := by simp [arr', Go.Sort.putCells]
  have hrm : RM fid ρ (h.set b { blk with cells := cs }) (setO w at'.cb (.cells arr' T (0, 0))) := by
    refine hm.write hb g1 ho (lay_cell hlay (hm.cel _ _ hb (by rw [ho]; decide)) hcl) ll1 harr hsize fun i v hi => ?_
    rw [lay_get hlay] at hi
    have hag : arr'[at'.co + i]? = if at'.co + off ≤ at'.co + i ∧ at'.co + i < at'.co + off + d.size then (arr[at'.co + i]?).map (fun _ => enc d[at'.co + i - (at'.co + off)]!) else arr[at'.co + i]? := putGetE
    have hold : ∀ v, blk.cells[i]? = some v → ∃ x, arr[at'.co + i]? = some x ∧ RV fid ρ v x := fun v hi => by
      obtain ⟨x, hx, hrx⟩ := hm.cell b blk at' i v hb g1 (by rw [ho]; decide) hi
      rw [cell?_arr harr] at hx
      exact ⟨x, hx, hrx⟩
    by_cases h1 : i < off
    · rw [if_pos h1] at hi
      rw [hag, if_neg (by omega)]
      exact hold v hi
    · rw [if_neg h1] at hi
      by_cases h2 : i < off + ys.length
      · rw [if_pos h2] at hi
        rw [hag, if_pos (by omega)]
        have hlt : at'.co + i < arr.size := by omega
        have hsub : at'.co + i - (at'.co + off) = i - off := by omega
        rw [hsub, Array.getElem?_eq_getElem hlt]
        exact ⟨_, rfl, hrv _ _ hi⟩
      · rw [if_neg h2] at hi
        rw [hag, if_neg (by omega)]
        exact hold v hi
  have hbel : Go.RowKit.Below (setO w at'.cb (.cells arr' T (0, 0))).heap.size (setO w at'.cb (.cells arr' T (0, 0))) (Go.Sort.grow (Go.Sort.putRow enc (Go.Sort.ahead w k) at'.cb (at'.co + off) d) os) := by
    refine ⟨rfl, rfl, rfl, by simp [setO, Go.Sort.grow, Go.Sort.putRow, Go.Sort.mapBlock, Go.Sort.ahead], fun j hj => ?_⟩
    have hj' : j < w.heap.size := by simpa [setO] using hj
    rw [Go.Sort.heap_grow_old _ _ (by simpa [Go.Sort.putRow, Go.Sort.mapBlock, Go.Sort.ahead] using hj')]
    by_cases hje : j = at'.cb
    · subst hje
      rw [setO_eq _ _ hcb]
      simp [Go.Sort.putRow, Go.Sort.mapBlock, Go.Sort.ahead, Array.getElem?_modify, harr, Go.Sort.onCells, arr']
    · rw [setO_ne _ _ hje]
      have : ¬ at'.cb = j := fun e => hje e.symm
      simp [Go.Sort.putRow, Go.Sort.mapBlock, Go.Sort.ahead, Array.getElem?_modify, this]
  have hfs : Fr (Owned ρ h) w (setO w at'.cb (.cells arr' T (0, 0))) := Fr.set _ _ ⟨b, blk, at', hb, ho, g1, rfl⟩
  exact ⟨ρ, hrm.below hbel, Keep.refl _ _, ⟨hbel.os.trans hfs.os, hbel.tape.trans hfs.tape, hbel.output.trans hfs.output, Nat.le_trans hfs.size hbel.size, fun cb hc ho => (hbel.block cb (Nat.lt_of_lt_of_le hc hfs.size)).trans (hfs.block cb hc ho)⟩, OI.set hb (fun _ => rfl), .tup .nil⟩

/-! values -/
def encV (z : Val2) : List Value := [.bool z.1, .int .i64 z.2]
def flatV (zs : List Val2) : Array Value := (zs.flatMap encV).toArray
theorem valsP_some : ∀ (n : Nat) {xs : List V} {zs : List Val2}, xs.length ≤ n → valsP xs = some zs → xs = valC zs
  | _, [], zs, _, h => by simp [valsP] at h; subst h; rfl
  | _, [x], zs, _, h => by simp [valsP] at h
  | 0, x :: y :: r, zs, hn, h => by simp at hn
  | n + 1, x :: y :: r, zs, hn, h => by
    simp only [valsP, Option.bind_eq_some_iff] at h
    obtain ⟨z, hz, t, ht, h⟩ := h
    injection h with h
    subst h
    have ih := valsP_some n (by simp at hn; omega) ht
    split at hz
    · injection hz with hz
      subst hz
      rw [ih]; rfl
    · cases hz
theorem valsP_eq : ∀ zs : List Val2, valsP (valC zs) = some zs
  | [] => rfl
  | z :: zs => by
    show (some z).bind (fun z => (valsP (valC zs)).bind fun t => some (z :: t)) = _
    rw [valsP_eq zs]; rfl
theorem valC_len (zs : List Val2) : (valC zs).length = 2 * zs.length := by
  induction zs with
  | nil => rfl
  | cons z zs ih => simp only [valC, List.flatMap_cons, List.length_append, List.length_cons, List.length_nil] at *; omega
theorem flatV_len (zs : List Val2) : (zs.flatMap encV).length = 2 * zs.length := by
  induction zs with
  | nil => rfl
  | cons z zs ih => simp only [encV, List.flatMap_cons, List.length_append, List.length_cons, List.length_nil] at *; omega
theorem flatV_size (zs : List Val2) : (flatV zs).size = 2 * zs.length := by rw [flatV, List.size_toArray, flatV_len]
theorem valC_rv {fid : Nat → FuncId} {ρ : Rho} : ∀ (zs : List Val2), RVs fid ρ (valC zs) (zs.flatMap encV)
  | [] => .nil
  | z :: zs => .cons (.bool _) (.cons (.int _ _) (valC_rv zs))
theorem valC_cell (zs : List Val2) : allCell (valC zs) = true := by
  induction zs with
  | nil => rfl
  | cons z zs ih =>
    have e : valC (z :: zs) = .bool z.1 :: .int .i64 z.2 :: valC zs := rfl
    rw [e]; simpa [allCell, V.cell] using ih
theorem srtV_len (zs : List Val2) : (srtV zs).length = zs.length := by simp [srtV]

theorem sortVE_some {args : List V} {h : Heap} {r : V × Heap} (hr : sortVE args h = some r) : ∃ v n zs, args = [v, .fn 152 []] ∧ lenV v = some n ∧ n ≤ 1099511627776 ∧ rdS h 2 v n = some (valC zs) ∧ r.1 = .tup [] ∧
    ((zs = [] ∧ r.2 = h ∧ (v = .nils ∨ ∃ b off m c, v = .slice b off m c)) ∨ (zs ≠ [] ∧ ∃ b off m c, v = .slice b off m c ∧ wrH h b off (valC (srtV zs)) = some r.2)) := by
  unfold sortVE at hr
  split at hr
  case h_2 => cases hr
  rename_i v f
  split at hr
  case isFalse => cases hr
  rename_i hf
  subst hf
  simp only [Option.bind_eq_some_iff] at hr
  obtain ⟨n, hn, hr⟩ := hr
  split at hr
  case isFalse => cases hr
  rename_i hle
  simp only [Option.bind_eq_some_iff] at hr
  obtain ⟨vs, hvs, zs, hzs, hr⟩ := hr
  have e := valsP_some _ (Nat.le_refl _) hzs
  subst e
  refine ⟨v, n, zs, rfl, hn, hle, hvs, ?_⟩
  split at hr
  · split at hr
    · rename_i h0
      injection hr with hr; subst hr
      exact ⟨rfl, .inl ⟨h0, rfl, .inr ⟨_, _, _, _, rfl⟩⟩⟩
    · rename_i h0
      simp only [Option.bind_eq_some_iff] at hr
      obtain ⟨h', hw, hr⟩ := hr
      injection hr with hr; subst hr
      exact ⟨rfl, .inr ⟨h0, _, _, _, _, rfl, hw⟩⟩
  · injection hr with hr; subst hr
    simp only [lenV] at hn
    injection hn with hn
    subst hn
    have : zs = [] := by
      have h1 := rdS_len hvs
      rw [valC_len] at h1
      exact List.eq_nil_of_length_eq_zero (by omega)
    exact ⟨rfl, .inl ⟨this, rfl, .inl rfl⟩⟩
  · cases hr
theorem sortVE_nil {h : Heap} {v : V} (hv : v = .nils ∨ ∃ b off m c, v = .slice b off m c) (hn : lenV v = some 0) : sortVE [v, .fn 152 []] h = some (.tup [], h) := by
  rcases hv with rfl | ⟨b, off, m, c, rfl⟩
  · simp [sortVE, lenV, rdS, valsP]
  · simp only [lenV] at hn
    injection hn with hn; subst hn
    simp [sortVE, lenV, rdS, valsP]
theorem sortVE_eq {h h' : Heap} {b off m : Nat} {c : Cap} {zs : List Val2} (hm : m ≤ 1099511627776) (hr : rdS h 2 (.slice b off m c) m = some (valC zs)) (h0 : zs ≠ []) (hw : wrH h b off (valC (srtV zs)) = some h') : sortVE [.slice b off m c, .fn 152 []] h = some (.tup [], h') := by
  simp [sortVE, lenV, hm, hr, valsP_eq, h0, hw]
theorem get_bang {xs : List Value} {i : Nat} {v : Value} (h : xs[i]? = some v) : xs.toArray[i]! = v := by
  rw [Array.getElem!_eq_getD, Array.getD_eq_getD_getElem?, List.getElem?_toArray, h]; rfl
theorem sortVE_ok {P : Program} {fid : Nat → FuncId} {f : Nat} (hf : ∃ F, P.funcs[fid f]? = some F ∧ (F.name == "runtime.NumGoroutine") = false ∧ F.body.isNone = false)
    (hc : ∀ (blk off cap : Nat) (zs : List Val2) (W : World), Go.Sort.Holds id W blk off (flatV zs) → blk < W.heap.size → zs.length < 4611686018427387904 →
      Calls P (fid f) #[.slice (some ⟨blk, off, none⟩) zs.length cap, .func (.func (fid 152)) #[] #[]] W fun e w' => e = .returned (.tuple #[]) ∧ ∃ k os, w' = Go.Sort.grow (Go.Sort.putRow id (Go.Sort.ahead W k) blk off (flatV (srtV zs))) os)
    (hn : ∀ (p : Option Addr) (cap : Nat) (W : World), Calls P (fid f) #[.slice p 0 cap, .func (.func (fid 152)) #[] #[]] W fun e w' => e = .returned (.tuple #[]) ∧ w' = W) :
    CallOK P fid fun g args h => if g = f then sortVE args h else none := by
  refine ⟨fun g args h v h' ρ w vs hx hm ha => ?_, fun g args h v h' q blk hx hd => ?_, fun g args h v h' hx => ?_⟩
  · split at hx
    case isFalse => cases hx
    rename_i e
    subst e
    obtain ⟨x, n, zs, rfl, hl, hle, hr, e1, hcase⟩ := sortVE_some hx
    simp only at e1 hcase
    subst e1
    cases ha with
    | cons h1 h2 =>
    cases h2 with
    | cons h2 h3 =>
    cases h3
    cases h2 with
    | fn h2 =>
    cases h2
    have hlen : n = zs.length := by
      have := rdS_len hr
      rw [valC_len] at this; omega
    subst hlen
    rcases hcase with ⟨rfl, rfl, hs⟩ | ⟨h0, b, off, m, c, rfl, hw⟩
    · obtain ⟨p, cap, hy⟩ : ∃ (p : Option Addr) (cap : Nat), _ = Value.slice p 0 cap := by
        rcases sI (zs := []) hm h1 hl (by rcases hs with rfl | ⟨b, off, m, c, rfl⟩ <;> simp [rdS]) with ⟨A, cap, hy, _⟩ | ⟨b, off, cap, hy, _⟩
        · exact ⟨A, cap, hy⟩
        · exact ⟨_, cap, hy⟩
      subst hy
      refine ⟨hf, (hn p cap w).mono ?_⟩
      rintro e' w' ⟨rfl, rfl⟩
      exact ⟨_, rfl, HS.same hm (.tup .nil)⟩
    · have hpos : 0 < zs.length := List.length_pos_iff.2 h0
      simp only [lenV] at hl
      injection hl with hl
      subst hl
      cases h1 with
      | slice g1 g2 g3 g4 g5 =>
      rename_i C at' A
      have hA := g5 (by omega)
      subst hA
      obtain ⟨blk, cs, hb, ho, hlay, hw2⟩ := wrH_eq hw
      have hcb := hm.bd b blk at' hb g1 (by rw [ho]; decide)
      obtain ⟨_, arr, T, harr, _⟩ := hm.own b blk at' hb g1 ho
      rw [rdS, if_pos (Nat.le_refl _), if_neg (by omega)] at hr
      have hH : Go.Sort.Holds id w at'.cb (at'.co + off) (flatV zs) := by
        intro j hj
        have hj' : j < (valC zs).length := by rw [valC_len]; rwa [flatV_size] at hj
        refine ⟨?_, by simp [World.frozen?, harr]⟩
        obtain ⟨y, hy, hry⟩ := (valC_rv (fid := fid) (ρ := ρ) zs).get (List.getElem?_eq_getElem hj')
        rw [rdH, hb] at hr
        simp only [ho] at hr
        rw [if_neg (by decide)] at hr
        have hcell : blk.cells[off + j]? = some (valC zs)[j] := by
          unfold cut at hr
          split at hr
          case isFalse => cases hr
          injection hr with hr
          have e2 : (valC zs)[j]? = blk.cells[off + j]? := by
            rw [← hr, List.getElem?_take, List.getElem?_drop]
            rw [if_pos (by rw [valC_len] at hj'; omega)]
          rw [← e2, List.getElem?_eq_getElem hj']
        obtain ⟨y2, hy2, hry2⟩ := hm.cell b blk at' (off + j) _ hb g1 (by rw [ho]; decide) hcell
        have e3 : y2 = y := by
          have e4 : ∀ {v : V} {a c : Value}, (∃ t, v = .bool t) ∨ (∃ t, v = .int .i64 t) → RV fid ρ v a → RV fid ρ v c → a = c := by
            rintro v a c (⟨t, rfl⟩ | ⟨t, rfl⟩) h1 h2 <;> cases h1 <;> cases h2 <;> rfl
          have e5 : ∀ (zs : List Val2) (v : V), v ∈ valC zs → (∃ t, v = .bool t) ∨ (∃ t, v = .int .i64 t) := by
            intro zs v hv
            simp only [valC, List.mem_flatMap, List.mem_cons, List.not_mem_nil, or_false] at hv
            obtain ⟨z, _, rfl | rfl⟩ := hv
            · exact .inl ⟨_, rfl⟩
            · exact .inr ⟨_, rfl⟩
          exact e4 (e5 zs _ (List.getElem_mem hj')) hry2 hry
        subst e3
        rw [show at'.co + off + j = at'.co + (off + j) by omega, hy2]
        rw [flatV, get_bang hy]; rfl
      refine ⟨hf, (hc at'.cb (at'.co + off) C zs w hH hcb (by omega)).mono ?_⟩
      rintro e' w' ⟨rfl, k, os, rfl⟩
      refine ⟨_, rfl, putRow_hs hm hw (valC_cell _) (by rw [flatV_size, valC_len]) (fun i v hi => ?_) g1 k os⟩
      obtain ⟨y, hy, hry⟩ := (valC_rv (fid := fid) (ρ := ρ) (srtV zs)).get hi
      rw [flatV, get_bang hy]; exact hry
  · split at hx
    case isFalse => cases hx
    rename_i e
    subst e
    obtain ⟨x, n, zs, rfl, hl, hle, hr, e1, hcase⟩ := sortVE_some hx
    simp only at e1 hcase
    subst e1
    rw [if_pos rfl]
    have hlen : n = zs.length := by
      have := rdS_len hr
      rw [valC_len] at this; omega
    subst hlen
    rcases hcase with ⟨rfl, rfl, hs⟩ | ⟨h0, b, off, m, c, rfl, hw⟩
    · exact ⟨hd, sortVE_nil hs hl⟩
    · simp only [lenV] at hl
      injection hl with hl
      subst hl
      obtain ⟨hd', hw'⟩ := wrH_fill (nb := blk) hd hw
      exact ⟨hd', sortVE_eq hle (rdS_fill hd hr) h0 hw'⟩
  · split at hx
    case isFalse => cases hx
    obtain ⟨x, n, zs, rfl, hl, hle, hr, e1, hcase⟩ := sortVE_some hx
    rcases hcase with ⟨rfl, e2, hs⟩ | ⟨h0, b, off, m, c, rfl, hw⟩
    · simp only at e2; subst e2; exact Nat.le_refl _
    · rw [wrH_len hw]; exact Nat.le_refl _
end GL
