import Derived.Sort.OwnSortedInts
import Derived.Test.YtflbkhbfbcbcoaaGlJ
/- GL, a small deterministic machine: its definitions, and that its calls are calls of the program. -/
set_option linter.unusedSimpArgs false
set_option linter.unusedVariables false
set_option linter.unnecessarySimpa false
/-! GL: slices.Sort at whole numbers, by the shelf's contract. -/
namespace GL
open Go

/-- slices.Sort -/
def sortE : List V → Heap → Option (V × Heap)
  | [v], h => (lenV v).bind fun n => if n ≤ 1099511627776 then (rdS h 1 v n).bind fun vs => (intsV vs).bind fun zs =>
      match v with
      | .slice b off _ _ => if zs = [] then some (.tup [], h) else (wrH h b off ((srtI zs).map (V.int .i64))).bind fun h' => some (.tup [], h')
      | .nils => some (.tup [], h)
      | _ => none
    else none
  | _, _ => none
theorem sortE_some {args : List V} {h : Heap} {r : V × Heap} (hr : sortE args h = some r) : ∃ v n zs, args = [v] ∧ lenV v = some n ∧ n ≤ 1099511627776 ∧ rdS h 1 v n = some (zs.map (V.int .i64)) ∧ r.1 = .tup [] ∧
    ((zs = [] ∧ r.2 = h ∧ (v = .nils ∨ ∃ b off m c, v = .slice b off m c)) ∨ (zs ≠ [] ∧ ∃ b off m c, v = .slice b off m c ∧ wrH h b off ((srtI zs).map (V.int .i64)) = some r.2)) := by
  unfold sortE at hr
  split at hr
  case h_2 => cases hr
  rename_i v
  simp only [Option.bind_eq_some_iff] at hr
  obtain ⟨n, hn, hr⟩ := hr
  split at hr
  case isFalse => cases hr
  rename_i hle
  simp only [Option.bind_eq_some_iff] at hr
  obtain ⟨vs, hvs, zs, hzs, hr⟩ := hr
  have e := intsV_some hzs
  subst e
  refine ⟨v, n, zs, rfl, hn, hle, hvs, ?_⟩
  split at hr
  · split at hr
    · rename_i h0
      injection hr with hr; subst hr
      exact ⟨rfl, .inl ⟨h0, rfl, .inr ⟨_, _, _, _, rfl⟩⟩⟩
    · rename_i h0
      simp only [Option.bind_eq_some_iff] at hr
      obtain ⟨h', hw, hr⟩ := hr
      injection hr with hr; subst hr
      exact ⟨rfl, .inr ⟨h0, _, _, _, _, rfl, hw⟩⟩
  · injection hr with hr; subst hr
    simp only [lenV] at hn
    injection hn with hn
    subst hn
    have : zs = [] := by
      have := rdS_len hvs
      simpa using this
    exact ⟨rfl, .inl ⟨this, rfl, .inl rfl⟩⟩
  · cases hr
theorem sortE_nil {h : Heap} {v : V} (hv : v = .nils ∨ ∃ b off m c, v = .slice b off m c) (hn : lenV v = some 0) : sortE [v] h = some (.tup [], h) := by
  rcases hv with rfl | ⟨b, off, m, c, rfl⟩
  · simp [sortE, lenV, rdS, intsV]
  · simp only [lenV] at hn
    injection hn with hn; subst hn
    simp [sortE, lenV, rdS, intsV]
theorem sortE_eq {h h' : Heap} {b off m : Nat} {c : Cap} {zs : List Int} (hm : m ≤ 1099511627776) (hr : rdS h 1 (.slice b off m c) m = some (zs.map (V.int .i64))) (h0 : zs ≠ []) (hw : wrH h b off ((srtI zs).map (V.int .i64)) = some h') : sortE [.slice b off m c] h = some (.tup [], h') := by
  simp [sortE, lenV, hm, hr, intsV_eq, h0, hw]
theorem putGet {off : Nat} {d : List Int} {arr : Array Value} {i : Nat} : (Go.Sort.putCells (Value.int .i64) off d.toArray arr)[i]? = if off ≤ i ∧ i < off + d.length then (arr[i]?).map (fun _ => Value.int .i64 (d[i - off]?.getD 0)) else arr[i]? := by
  simp only [Go.Sort.putCells, Array.getElem?_mapIdx, List.size_toArray]
  split
  · rename_i h
    have hi : i - off < d.length := by omega
    cases arr[i]? <;> simp [hi]
  · rename_i h
    cases arr[i]? <;> simp
theorem sortE_ok {P : Program} {fid : Nat → FuncId} {f : Nat} (hf : ∃ F, P.funcs[fid f]? = some F ∧ (F.name == "runtime.NumGoroutine") = false ∧ F.body.isNone = false)
    (hc : ∀ (blk off cap : Nat) (ss : List Int) (W : World), Go.Sort.Holds (Value.int .i64) W blk off ss.toArray → blk < W.heap.size → ss.length < 4611686018427387904 →
      Calls P (fid f) #[.slice (some ⟨blk, off, none⟩) ss.length cap] W fun e w' => e = .returned (.tuple #[]) ∧ ∃ k os, w' = Go.Sort.grow (Go.Sort.putRow (Value.int .i64) (Go.Sort.ahead W k) blk off (ss.mergeSort fun x y => decide (x ≤ y)).toArray) os)
    (hn : ∀ (p : Option Addr) (cap : Nat) (W : World), Calls P (fid f) #[.slice p 0 cap] W fun e w' => e = .returned (.tuple #[]) ∧ w' = W) :
    CallOK P fid fun g args h => if g = f then sortE args h else none := by
  refine ⟨fun g args h v h' ρ w as hx hm ha => ?_, fun g args h v h' q blk hx hd => ?_, fun g args h v h' hx => ?_⟩
  · split at hx
    case isFalse => cases hx
    rename_i e
    subst e
    obtain ⟨x, n, zs, rfl, hl, hle, hr, e1, hcase⟩ := sortE_some hx
    simp only at e1 hcase
    subst e1
    cases ha with
    | cons h1 h2 =>
    cases h2
    have hlen : n = zs.length := by
      have := rdS_len hr
      simpa using this.symm
    subst hlen
    rcases hcase with ⟨rfl, rfl, hs⟩ | ⟨h0, b, off, m, c, rfl, hw⟩
    · obtain ⟨p, cap, hy⟩ : ∃ (p : Option Addr) (cap : Nat), _ = Value.slice p 0 cap := by
        rcases sI hm h1 hl hr with ⟨A, cap, hy, _⟩ | ⟨b, off, cap, hy, _⟩
        · exact ⟨A, cap, hy⟩
        · exact ⟨_, cap, hy⟩
      subst hy
      refine ⟨hf, (hn p cap w).mono ?_⟩
      rintro e' w' ⟨rfl, rfl⟩
      exact ⟨_, rfl, HS.same hm (.tup .nil)⟩
    · have hpos : 0 < zs.length := List.length_pos_iff.2 h0
      simp only [lenV] at hl
      injection hl with hl
      subst hl
      cases h1 with
      | slice g1 g2 g3 g4 g5 =>
      rename_i C at' A
      have hA := g5 (by omega)
      subst hA
      obtain ⟨blk, cs, hb, ho, hlay, rfl⟩ := wrH_eq hw
      obtain ⟨hsz, arr, T, harr, hco⟩ := hm.own b blk at' hb g1 ho
      have hcb := hm.bd b blk at' hb g1 (by rw [ho]; decide)
      obtain ⟨ll1, ll2⟩ := lay_len hlay
      simp only [List.length_map, srtI_length] at ll2
      have hsI := sI hm (.slice g1 g2 g3 g4 g5) rfl hr
      have hcells : ∀ j, j < zs.length → w.cell? ⟨at'.cb, at'.co + off + j, none⟩ = some (.int .i64 (zs[j]?.getD 0)) := by
        rcases hsI with ⟨_, _, _, h⟩ | ⟨b', off', cap', hy, _, h⟩
        · exact absurd h h0
        · cases hy; exact h
      have hH : Go.Sort.Holds (Value.int .i64) w at'.cb (at'.co + off) zs.toArray := by
        intro j hj
        have hj' : j < zs.length := by simpa using hj
        refine ⟨?_, by simp [World.frozen?, harr]⟩
        rw [hcells j hj']
        simp [hj']
      refine ⟨hf, (hc at'.cb (at'.co + off) C zs w hH hcb (by omega)).mono ?_⟩
      rintro e' w' ⟨rfl, k, os, rfl⟩
      refine ⟨_, rfl, ?_⟩
      have hsw : ((zs.mergeSort fun x y => decide (x ≤ y)).toArray) = (srtI zs).toArray := rfl
      rw [hsw]
      let arr' := Go.Sort.putCells (Value.int .i64) (at'.co + off) (srtI zs).toArray arr
      have hsize : arr'.size = arr.size := by simp [arr', Go.Sort.putCells]
      have hlw : (srtI zs).length = zs.length := srtI_length zs
      have hrm : RM fid ρ (h.set b { blk with cells := cs }) (setO w at'.cb (.cells arr' T (0, 0))) := by
        refine hm.write hb g1 ho (lay_cell hlay (hm.cel _ _ hb (by rw [ho]; decide)) (by simp [allCell, V.cell])) ll1 harr hsize fun i v hi => ?_
        rw [lay_get hlay] at hi
        simp only [List.length_map, hlw] at hi
        have hag : arr'[at'.co + i]? = if at'.co + off ≤ at'.co + i ∧ at'.co + i < at'.co + off + (srtI zs).length then (arr[at'.co + i]?).map (fun _ => Value.int .i64 ((srtI zs)[at'.co + i - (at'.co + off)]?.getD 0)) else arr[at'.co + i]? := putGet
        have hold : ∀ v, blk.cells[i]? = some v → ∃ x, arr[at'.co + i]? = some x ∧ RV fid ρ v x := fun v hi => by
          obtain ⟨x, hx, hrx⟩ := hm.cell b blk at' i v hb g1 (by rw [ho]; decide) hi
          rw [cell?_arr harr] at hx
          exact ⟨x, hx, hrx⟩
        by_cases h1 : i < off
        · rw [if_pos h1] at hi
          rw [hag, if_neg (by omega)]
          exact hold v hi
        · rw [if_neg h1] at hi
          by_cases h2 : i < off + zs.length
          · rw [if_pos h2] at hi
            rw [hag, if_pos (by omega)]
            rw [List.getElem?_map] at hi
            rw [Option.map_eq_some_iff] at hi
            obtain ⟨z, hz, rfl⟩ := hi
            have hlt : at'.co + i < arr.size := by omega
            have hsub : at'.co + i - (at'.co + off) = i - off := by omega
            rw [hsub, hz, Array.getElem?_eq_getElem hlt]
            exact ⟨_, rfl, .int _ _⟩
          · rw [if_neg h2] at hi
            rw [hag, if_neg (by omega)]
            exact hold v hi
      have hbel : Go.RowKit.Below (setO w at'.cb (.cells arr' T (0, 0))).heap.size (setO w at'.cb (.cells arr' T (0, 0))) (Go.Sort.grow (Go.Sort.putRow (Value.int .i64) (Go.Sort.ahead w k) at'.cb (at'.co + off) (srtI zs).toArray) os) := by
        refine ⟨rfl, rfl, rfl, by simp [setO, Go.Sort.grow, Go.Sort.putRow, Go.Sort.mapBlock, Go.Sort.ahead], fun j hj => ?_⟩
        have hj' : j < w.heap.size := by simpa [setO] using hj
        rw [Go.Sort.heap_grow_old _ _ (by simpa [Go.Sort.putRow, Go.Sort.mapBlock, Go.Sort.ahead] using hj')]
        by_cases hje : j = at'.cb
        · subst hje
          rw [setO_eq _ _ hcb]
          simp [Go.Sort.putRow, Go.Sort.mapBlock, Go.Sort.ahead, Array.getElem?_modify, harr, Go.Sort.onCells, arr']
        · rw [setO_ne _ _ hje]
          have : ¬ at'.cb = j := fun e => hje e.symm
          simp [Go.Sort.putRow, Go.Sort.mapBlock, Go.Sort.ahead, Array.getElem?_modify, this]
      have hfs : Fr (Owned ρ h) w (setO w at'.cb (.cells arr' T (0, 0))) := Fr.set _ _ ⟨b, blk, at', hb, ho, g1, rfl⟩
      refine ⟨ρ, hrm.below hbel, Keep.refl _ _, ⟨hbel.os.trans hfs.os, hbel.tape.trans hfs.tape, hbel.output.trans hfs.output, Nat.le_trans hfs.size hbel.size, fun cb hc ho => (hbel.block cb (Nat.lt_of_lt_of_le hc hfs.size)).trans (hfs.block cb hc ho)⟩, OI.set hb (fun _ => rfl), .tup .nil⟩
  · split at hx
    case isFalse => cases hx
    rename_i e
    subst e
    obtain ⟨x, n, zs, rfl, hl, hle, hr, e1, hcase⟩ := sortE_some hx
    simp only at e1 hcase
    subst e1
    rw [if_pos rfl]
    have hlen : n = zs.length := by
      have := rdS_len hr
      simpa using this.symm
    subst hlen
    rcases hcase with ⟨rfl, rfl, hs⟩ | ⟨h0, b, off, m, c, rfl, hw⟩
    · exact ⟨hd, sortE_nil hs hl⟩
    · simp only [lenV] at hl
      injection hl with hl
      subst hl
      obtain ⟨hd', hw'⟩ := wrH_fill (nb := blk) hd hw
      exact ⟨hd', sortE_eq hle (rdS_fill hd hr) h0 hw'⟩
  · split at hx
    case isFalse => cases hx
    obtain ⟨x, n, zs, rfl, hl, hle, hr, e1, hcase⟩ := sortE_some hx
    rcases hcase with ⟨rfl, e2, hs⟩ | ⟨h0, b, off, m, c, rfl, hw⟩
    · simp only at e2; subst e2; exact Nat.le_refl _
    · rw [wrH_len hw]; exact Nat.le_refl _

/-- the functions that are taken by contracts -/
def extF (i : Nat) : Option (List V → Heap → Option (V × Heap)) := bif Nat.beq i 171 then some lenE else bif Nat.beq i 340 then some sortE else bif Nat.beq i 406 then some valuesE else bif Nat.beq i 407 then some sortedE else bif Nat.beq i 351 then some lastE else bif Nat.beq i 151 then some sortVE else bif Nat.beq i 685 then some sortTE else bif Nat.beq i 145 then some insE else bif Nat.beq i 666 then some repE else none
end GL
