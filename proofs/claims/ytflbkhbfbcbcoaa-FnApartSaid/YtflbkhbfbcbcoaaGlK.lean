import Derived.Sort.OwnSortedInts
import Derived.Test.YtflbkhbfbcbcoaaGlJ
/- GL, a small deterministic machine: its definitions, and that its calls are calls of the program. -/
set_option linter.unusedSimpArgs false
set_option linter.unusedVariables false
set_option linter.unnecessarySimpa false
/-! GL: slices.Sort at whole numbers, by the shelf's contract. -/
namespace GL
open Go

/-- slices.Sort -/
def sortE : List V → Heap → Option (V × Heap)
  | [v], h => (lenV v).bind fun n => if n ≤ 1099511627776 then (rdS h 1 v n).bind fun vs => (intsV vs).bind fun zs =>
      match v with
      | .slice b off _ _ => if zs = [] then some (.tup [], h) else (wrH h b off ((srtI zs).map (V.int .i64))).bind fun h' => some (.tup [], h')
      | .nils => some (.tup [], h)
      | _ => none
    else none
  | _, _ => none
theorem sortE_some {args : List V} {h : Heap} {r : V × Heap} (hr : sortE args h = some r) : ∃ v n zs, args = [v] ∧ lenV v = some n ∧ n ≤ 1099511627776 ∧ rdS h 1 v n = some (zs.map (V.int .i64)) ∧ r.1 = .tup [] ∧
    ((zs = [] ∧ r.2 = h ∧ (v = .nils ∨ ∃ b off m c, v = .slice b off m c)) ∨ (zs ≠ [] ∧ ∃ b off m c, v = .slice b off m c ∧ wrH h b off ((srtI zs).map (V.int .i64)) = some r.2)) := by
  unfold sortE at hr
  split at hr
  case h_2 => cases hr
  rename_i v
  simp only [Option.bind_eq_some_iff] at hr
  obtain ⟨n, hn, hr⟩ := hr
  split at hr
  case isFalse => cases hr
  rename_i hle
  simp only [Option.bind_eq_some_iff] at hr
  obtain ⟨vs, hvs, zs, hzs, hr⟩ := hr
  have e := intsV_some hzs
  subst e
  refine ⟨v, n, zs, rfl, hn, hle, hvs, ?_⟩
  split at hr
  · split at hr
    · rename_i h0
      injection hr with hr; subst hr
      exact ⟨rfl, .inl ⟨h0, rfl, .inr ⟨_, _, _, _, rfl⟩⟩⟩
    · rename_i h0
      simp only [Option.bind_eq_some_iff] at hr
      obtain ⟨h', hw, hr⟩ := hr
      injection hr with hr; subst hr
      exact ⟨rfl, .inr ⟨h0, _, _, _, _, rfl, hw⟩⟩
  · injection hr with hr; subst hr
    simp only [lenV] at hn
    injection hn with hn
    subst hn
    have : zs = [] := by
      have := rdS_len hvs
      simpa using this
    exact ⟨rfl, .inl ⟨this, rfl, .inl rfl⟩⟩
  · cases hr
theorem sortE_nil {h : Heap} {v : V} (hv : v = .nils ∨ ∃ b off m c, v = .slice b off m c) (hn : lenV v = some 0) : sortE [v] h = some (.tup [], h) := by
  rcases hv with rfl | ⟨b, off, m, c, rfl⟩
  · simp [sortE, lenV, rdS, intsV]
  · simp only [lenV] at hn
    injection hn with hn; subst hn
    simp [sortE, lenV, rdS, intsV]
theorem sortE_eq {h h' : Heap} {b off m : Nat} {c : Cap} {zs : List Int} (hm : m ≤ 1099511627776) (hr : rdS h 1 (.slice b off m c) m = some (zs.map (V.int .i64))) (h0 : zs ≠ []) (hw : wrH h b off ((srtI zs).map (V.int .i64)) = some h') : sortE [.slice b off m c] h = some (.tup [], h') := by
  simp [sortE, lenV, hm, hr, intsV_eq, h0, hw]
theorem putGet {off : Nat} {d : List Int} {arr : Array Value} {i : Nat} : (Go.Sort.putCells (Value.int .i64) off d.toArray arr)[i]? = if off ≤ i ∧ i < off + d.length then (arr[i]?).map (fun _ => Value.int .i64 (d[i - off]?.getD 0)) else arr[i]? := by
  simp only [Go.Sort.putCells, Array.getElem?_mapIdx, List.size_toArray]
  split
  · rename_i h
    have hi : i - off < d.length := by omega
    cases arr[i]? <;> simp [hi]
  · rename_i h
    cases arr[i]? <;> simp
theorem sortE_ok {P : Program} {fid : Nat → FuncId} {f : Nat} (hf : ∃ F, P.funcs[fid f]? = some F ∧ (F.name == "runtime.NumGoroutine") = false ∧ F.body.isNone = false)
    (hc : ∀ (blk off cap : Nat) (ss : List Int) (W : World), Go.Sort.Holds (Value.int .i64) W blk off ss.toArray → blk < W.heap.size → ss.length < 4611686018427387904 →
      Calls P (fid f) #[.slice (some ⟨blk, off, none⟩) ss.length cap] W fun e w' => e = .returned (.tuple #[]) ∧ ∃ k os, w' = Go.Sort.grow (Go.Sort.putRow (Value.int .i64) (Go.Sort.ahead W k) blk off (ss.mergeSort fun x y => decide (x ≤ y)).toArray) os)
    (hn : ∀ (p : Option Addr) (cap : Nat) (W : World), Calls P (fid f) #[.slice p 0 cap] W fun e w' => e = .returned (.tuple #[]) ∧ w' = W) :
    CallOK P fid fun g args h => if g = f then sortE args h else none := by
  refine ⟨fun g args h v h' ρ w as hx hm ha => ?_, fun g args h v h' q blk hx hd => ?_, fun g args h v h' hx => ?_⟩
  · split at hx
    case isFalse => cases hx
    rename_i e
    subst e
    obtain ⟨x, n, zs, rfl, hl, hle, hr, e1, hcase⟩ := sortE_some hx
    simp only at e1 hcase
    subst e1
    cases ha with
    | cons h1 h2 =>
    cases h2
    have hlen : n = zs.length := by
      have := rdS_len hr
      simpa using this.symm
    subst hlen
    rcases hcase with ⟨rfl, rfl, hs⟩ | ⟨h0, b, off, m, c, rfl, hw⟩
    · obtain ⟨p, cap, hy⟩ : ∃ (p : Option Addr) (cap : Nat), _ = Value.slice p 0 cap := by
        rcases sI hm h1 hl hr with ⟨A, cap, hy, _⟩ | ⟨b, off, cap, hy, _⟩
        · exact ⟨A, cap, hy⟩
        · exact ⟨_, cap, hy⟩
      subst hy
      refine ⟨hf, (hn p cap w).mono ?_⟩
      rintro e' w' ⟨rfl, rfl⟩
      exact ⟨_, rfl, HS.same hm (.tup .nil)⟩
    · have hpos : 0 < zs.length := List.length_pos_iff.2 h0
      simp only [lenV] at hl
      injection hl with hl
      subst hl
      cases h1 with
      | slice g1 g2 g3 g4 g5 =>
      rename_i C at' A
      have hA := g5 (by omega)
      subst hA
      obtain ⟨blk, cs, hb, ho, hlay, rfl⟩ := wrH_eq hw
      obtain ⟨hsz, arr, T, harr, hco⟩ := hm.own b blk at' hb g1 ho
      have hcb := hm.bd b blk at' hb g1 (by rw [ho]; decide)
      obtain ⟨ll1, ll2⟩ := lay_len hlay
      simp only [List.length_map, srtI_length] at ll2
      have hsI := sI hm (.slice g1 g2 g3 g4 g5) rfl hr
      have hcells : ∀ j, j < zs.length → w.cell? ⟨at'.cb, at'.co + off + j, none⟩ = some (.int .i64 (zs[j]?.getD 0)) := by
        rcases hsI with ⟨_, _, _, h⟩ | ⟨b', off', cap', hy, _, h⟩
        · exact absurd h h0
        · cases hy; exact h
      have hH : Go.Sort.Holds (Value.int .i64) w at'.cb (at'.co + off) zs.toArray := by
        intro j hj
        have hj' : j < zs.length := by simpa using hj
        refine ⟨?_, by simp [World.frozen?, harr]⟩
        rw [hcells j hj']
        simp [hj']
      refine ⟨hf, (hc at'.cb (at'.co + off) C zs w hH hcb (by omega)).mono ?_⟩
      rintro e' w' ⟨rfl, k, os, rfl⟩
      refine ⟨_, rfl, ?_⟩
      have hsw : ((zs.mergeSort fun x y => decide (x ≤ y)).toArray) = (srtI zs).toArray := rfl
      rw [hsw]
      let arr' := Go.Sort.putCells (Value.int .i64) (at'.co + off) (srtI zs).toArray arr
      have hsize : arr'.size = arr.size := by simp [arr', Go.Sort.putCells]
      have hlw : (srtI zs).length = zs.length := srtI_length zs
      have hrm : RM fid ρ (h.set b { blk with cells := cs }) (setO w at'.cb (.cells arr' T (0, 0))) := by
        refine hm.write hb g1 ho (lay_cell hlay (hm.cel _ _ hb (by rw [ho]; decide)) (by simp [allCell, V.cell])) ll1 harr hsize fun i v hi => ?_
        rw [lay_get hlay] at hi
        simp only [List.length_map, hlw] at hi
        have hag : arr'[at'.co + i]? = if at'.co + off ≤ at'.co + i ∧ at'.co + i < at'.co + off + (srtI zs).length then (arr[at'.co + i]?).map (fun _ => Value.int .i64 ((srtI zs)[at'.co + i - (at'.co + off)]?.getD 0)) else arr[at'.co + i]? := putGet
        have hold : ∀ v, blk.cells[i]? = some v → ∃ x, arr[at'.co + i]? = some x ∧ RV fid ρ v x := fun v hi => by
          obtain ⟨x, hx, hrx⟩ := hm.cell b blk at' i v hb g1 (by rw [ho]; decide) hi
          rw [cell?_arr harr] at hx
          exact ⟨x, hx, hrx⟩
        by_cases h1 : i < off
        · rw [if_pos h1] at hi
          rw [hag, if_neg (by omega)]
          exact hold v hi
        · rw [if_neg h1] at hi
          by_cases h2 : i < off + zs.length
          · rw [if_pos h2] at hi
            rw [hag, if_pos (by omega)]
            rw [List.getElem?_map] at hi
            rw [Option.map_eq_some_iff] at hi
            obtain ⟨z, hz, rfl⟩ := hi
            have hlt : at'.co + i < arr.size := by omega
            have hsub : at'.co + i - (at'.co + off) = i - off := by omega
            rw [hsub, hz, Array.getElem?_eq_getElem hlt]
            exact ⟨_, rfl, .int _ _⟩
          · rw [if_neg h2] at hi
            rw [hag, if_neg (by omega)]
            exact hold v hi
      have hbel : Go.RowKit.Below (setO w at'.cb (.cells arr' T (0, 0))).heap.size (setO w at'.cb (.cells arr' T (0, 0))) (Go.Sort.grow (Go.Sort.putRow (Value.int .i64) (Go.Sort.ahead w k) at'.cb (at'.co + off) (srtI zs).toArray) os) := by
        refine ⟨rfl, rfl, rfl, by simp [setO, Go.Sort.grow, Go.Sort.putRow, Go.Sort.mapBlock, Go.Sort.ahead], fun j hj => ?_⟩
        have hj' : j < w.heap.size := by simpa [setO] using hj
        rw [Go.Sort.heap_grow_old _ _ (by simpa [Go.Sort.putRow, Go.Sort.mapBlock, Go.Sort.ahead] using hj')]
        by_cases hje : j = at'.cb
        · subst hje
          rw [setO_eq _ _ hcb]
          simp [Go.Sort.putRow, Go.Sort.mapBlock, Go.Sort.ahead, Array.getElem?_modify, harr, Go.Sort.onCells, arr']
        · rw [setO_ne _ _ hje]
          have : ¬ at'.cb = j := fun e => hje e.symm
          simp [Go.Sort.putRow, Go.Sort.mapBlock, Go.Sort.ahead, Array.getElem?_modify, this]
      have hfs : Fr (Owned ρ h) w (setO w at'.cb (.cells arr' T (0, 0))) := Fr.set _ _ ⟨b, blk, at', hb, ho, g1, rfl⟩
      refine ⟨ρ, hrm.below hbel, Keep.refl _ _, ⟨hbel.os.trans hfs.os, hbel.tape.trans hfs.tape, hbel.output.trans hfs.output, Nat.le_trans hfs.size hbel.size, fun cb hc ho => (hbel.block cb (Nat.lt_of_lt_of_le hc hfs.size)).trans (hfs.block cb hc ho)⟩, OI.set hb (fun _ => rfl), .tup .nil⟩
  · split at hx
    case isFalse => cases hx
    rename_i e
    subst e
    obtain ⟨x, n, zs, rfl, hl, hle, hr, e1, hcase⟩ := sortE_some hx
    simp only at e1 hcase
    subst e1
    rw [if_pos rfl]
    have hlen : n = zs.length := by
      have := rdS_len hr
      simpa using this.symm
    subst hlen
    rcases hcase with ⟨rfl, rfl, hs⟩ | ⟨h0, b, off, m, c, rfl, hw⟩
    · exact ⟨hd, sortE_nil hs hl⟩
    · simp only [lenV] at hl
      injection hl with hl
      subst hl
      obtain ⟨hd', hw'⟩ := wrH_fill (nb := blk) hd hw
      exact ⟨hd', sortE_eq hle (rdS_fill hd hr) h0 hw'⟩
  · split at hx
    case isFalse => cases hx
    obtain ⟨x, n, zs, rfl, hl, hle, hr, e1, hcase⟩ := sortE_some hx
    rcases hcase with ⟨rfl, e2, hs⟩ | ⟨h0, b, off, m, c, rfl, hw⟩
    · simp only at e2; subst e2; exact Nat.le_refl _
    · rw [wrH_len hw]; exact Nat.le_refl _

/-- the functions that are taken by contracts -/
def extF (i : Nat) : Option (List V → Heap → Option (V × Heap)) := bif Nat.beq i 171 then some lenE else bif Nat.beq i 340 then some sortE else bif Nat.beq i 406 then some valuesE else bif Nat.beq i 407 then some sortedE else bif Nat.beq i 351 then some lastE else bif Nat.beq i 151 then some sortVE else bif Nat.beq i 685 then some sortTE else bif Nat.beq i 145 then some insE else bif Nat.beq i 666 then some repE else none
end GL
/-! GL: slices.Insert at rows and slices.Replace at lists: sound, where their walks are given. -/
namespace GL
open Go

def one1 (v : Value) : Prop := (∀ cs, v ≠ .agg cs) ∧ (∀ cs, v ≠ .tuple cs)
/-- what stands in memory when elements are put in between: the old row with room, or a new one -/
def SplPost (k n n' c cb co : Nat) (A : Addr) (arr : Array Value) (T : TypeId) (new : List Value) (w : World) (e : Ending) (w' : World) : Prop :=
  (n' ≤ c ∧ e = .returned (.slice (some A) n' c) ∧ ∃ (d : Nat) (arr' : Array Value), w' = setO { w with drawn := d } cb (.cells arr' T (0, 0)) ∧ arr'.size = arr.size ∧ ∀ (q : Nat) (v : Value), new[q]? = some v → arr'[co + q]? = some v) ∨
  (∃ (nc : Nat) (arr' : Array Value) (T' : TypeId) (d : Nat), e = .returned (.slice (some ⟨w.heap.size, 0, none⟩) n' nc) ∧ n' ≤ nc ∧ arr'.size = nc * k ∧ w' = pushO { w with drawn := d } (.cells arr' T' (0, 0)) ∧ ∀ (q : Nat) (v : Value), new[q]? = some v → arr'[q]? = some v)
structure SplPre (k m n c i j cb co vb vo vc : Nat) (A : Addr) (cs vs : List Value) (arr arr2 : Array Value) (T T2 : TypeId) (w : World) : Prop where
  ha : w.heap[cb]? = some (.cells arr T (0, 0))
  hv : w.heap[vb]? = some (.cells arr2 T2 (0, 0))
  hne : vb ≠ cb
  hA : c ≠ 0 → A = ⟨cb, co, none⟩
  hij : i ≤ j
  hj : j ≤ n
  hn : n ≤ c
  hnb : n ≤ 1048576
  hsz : c = n ∨ co + c * k = arr.size
  hmc : m ≤ vc
  hcl : cs.length = n * k
  hvl : vs.length = m * k
  hcs : ∀ (q : Nat) (v : Value), cs[q]? = some v → arr[co + q]? = some v
  hvs : ∀ (q : Nat) (v : Value), vs[q]? = some v → arr2[vo + q]? = some v
  h1c : ∀ v ∈ cs, one1 v
  h1v : ∀ v ∈ vs, one1 v
def SplC (P : Program) (f : FuncId) (k m d : Nat) (mk : Value → Nat → Value → Array Value) : Prop :=
  ∀ (n c i cb co vb vo vc : Nat) (A : Addr) (cs vs : List Value) (arr arr2 : Array Value) (T T2 : TypeId) (w : World), SplPre k m n c i (i + d) cb co vb vo vc A cs vs arr arr2 T T2 w →
    Calls P f (mk (.slice (some A) n c) i (.slice (some ⟨vb, vo, none⟩) m vc)) w (SplPost k n (n - d + m) c cb co A arr T (cs.take (i * k) ++ vs ++ cs.drop ((i + d) * k)) w)

section
variable {fid : Nat → FuncId} {ρ : Rho} {h : Heap} {w : World}
/-- a block is given up; its row in memory, written anew, goes on under another name -/
theorem hs_relay (hm : RM fid ρ h w) {b k : Nat} {blk : Blk} {at' : At} {cells : List V} {arr arr' : Array Value} {T : TypeId} {n' c : Nat} (hb : h[b]? = some blk) (ho : blk.st = .own) (ha : ρ b = some at') (hk0 : 0 < k)
    (harr : w.heap[at'.cb]? = some (.cells arr T (0, 0))) (hco : at'.co + at'.sz = arr.size) (hsz : c * k = at'.sz) (hasz : arr'.size = arr.size) (hc : allCell cells = true) (hcl : cells.length ≤ at'.sz) (hle : n' ≤ c)
    (hcell : ∀ (q : Nat) (v : V), cells[q]? = some v → ∃ x, arr'[at'.co + q]? = some x ∧ RV fid ρ v x) (d : Nat) (A : Addr) (hA : A = ⟨at'.cb, at'.co, none⟩) :
    HS fid ρ h w (.slice h.length 0 n' (.o k)) (h.set b { blk with st := .dead } ++ [⟨.own, cells⟩]) (.slice (some A) n' c) (setO { w with drawn := d } at'.cb (.cells arr' T (0, 0))) := by
  refine HS.drawn d ?_
  have hm : RM fid ρ h { w with drawn := d } := hm.congr rfl
  have harr : ({ w with drawn := d } : World).heap[at'.cb]? = some (.cells arr T (0, 0)) := harr
  generalize ({ w with drawn := d } : World) = w at *
  have hcb := hm.bd b blk at' hb ha (by rw [ho]; decide)
  subst hA
  let na : At := ⟨at'.cb, at'.co, c * k⟩
  have e := Ext.push (hm.out h.length (Nat.le_refl _)) na
  have hkl : ∀ {i : Nat} {bk : Blk}, (h.set b { blk with st := .dead } ++ [⟨.own, cells⟩])[i]? = some bk → bk.st ≠ .dead → i ≠ b ∧ h[i]? = some bk ∧ i < h.length ∨ i = h.length ∧ bk = ⟨.own, cells⟩ := fun {i bk} hi hl => by
    rcases get_append hi with ⟨hi, hlt⟩ | ⟨rfl, rfl⟩
    · rcases get_set hi with ⟨hne, hi⟩ | ⟨_, rfl, _⟩
      · exact .inl ⟨hne, hi, by simpa using hlt⟩
      · exact absurd rfl hl
    · exact .inr ⟨by simp, rfl⟩
  have hat : ∀ {i : Nat} {x : At}, pushR ρ h.length na i = some x → i < h.length → ρ i = some x := fun {i x} hx hlt => by
    rcases at_push hx with ⟨_, hx⟩ | ⟨rfl, _⟩
    · exact hx
    · omega
  have hat' : ∀ {x : At}, pushR ρ h.length na h.length = some x → x = na := fun {x} hx => by
    rw [pushR_self] at hx; cases hx; rfl
  refine ⟨pushR ρ h.length na, ?_, Keep.push _ _ _, Fr.set _ _ ⟨b, blk, at', hb, ho, ha, rfl⟩, ?_, ?_⟩
  · refine { out := fun i hi => by simp at hi; unfold pushR; rw [if_neg (by omega)]; exact hm.out i (by omega), has := fun i bk hi hl => ?_, bd := fun i bk x hi hx hl => ?_, cell := fun i bk x j v hi hx hl hv' => ?_, cel := fun i bk hi hl => ?_, own := fun i bk x hi hx hl => ?_, sep := fun i j bk bk' x x' hne hi hj hx hx' hl hl' => ?_ }
    · rcases hkl hi hl with ⟨_, hi, hlt⟩ | ⟨rfl, rfl⟩
      · obtain ⟨x, hx⟩ := hm.has i bk hi hl
        exact ⟨x, e _ _ hx⟩
      · exact ⟨_, pushR_self _ _ _⟩
    · have hss : (setO w at'.cb (.cells arr' T (0, 0))).heap.size = w.heap.size := by simp [setO]
      rw [hss]
      rcases hkl hi hl with ⟨_, hi, hlt⟩ | ⟨rfl, rfl⟩
      · exact hm.bd i bk x hi (hat hx hlt) hl
      · rw [hat' hx]; exact hcb
    · rcases hkl hi hl with ⟨hne, hi, hlt⟩ | ⟨rfl, rfl⟩
      · have hx := hat hx hlt
        have hd := hm.sep b i blk bk at' x (Ne.symm hne) hb hi ha hx ho hl
        obtain ⟨y, hy, hr⟩ := hm.cell i bk x j v hi hx hl hv'
        exact ⟨y, by rw [cell?_block (setO_ne _ _ (Ne.symm hd))]; exact hy, hr.ext e⟩
      · rw [hat' hx]
        show ∃ y, World.cell? _ ⟨at'.cb, at'.co + j, none⟩ = some y ∧ _
        rw [cell?_arr (setO_eq _ _ hcb)]
        obtain ⟨y, hy, hr⟩ := hcell j v hv'
        exact ⟨y, hy, hr.ext e⟩
    · rcases hkl hi hl with ⟨_, hi, _⟩ | ⟨rfl, rfl⟩
      · exact hm.cel i bk hi hl
      · exact hc
    · rcases hkl hi (by rw [hl]; decide) with ⟨hne, hi, hlt⟩ | ⟨rfl, rfl⟩
      · have hx := hat hx hlt
        have hd := hm.sep b i blk bk at' x (Ne.symm hne) hb hi ha hx ho (by rw [hl]; decide)
        obtain ⟨q2, arr0, T', q3, q4⟩ := hm.own i bk x hi hx hl
        exact ⟨q2, arr0, T', by rw [setO_ne _ _ (Ne.symm hd)]; exact q3, q4⟩
      · rw [hat' hx]
        refine ⟨?_, arr', T, setO_eq _ _ hcb, ?_⟩
        · show cells.length ≤ c * k; omega
        · show at'.co + c * k = arr'.size; omega
    · rcases hkl hi (by rw [hl]; decide) with ⟨hnb, hi, hlt⟩ | ⟨rfl, rfl⟩ <;> rcases hkl hj hl' with ⟨hnb', hj, hlt'⟩ | ⟨rfl, rfl⟩
      · exact hm.sep i j bk bk' x x' hne hi hj (hat hx hlt) (hat hx' hlt') hl hl'
      · rw [hat' hx']; exact Ne.symm (hm.sep b i blk bk at' x (Ne.symm hnb) hb hi ha (hat hx hlt) ho (by rw [hl]; decide))
      · rw [hat' hx]; exact hm.sep b j blk bk' at' x' (Ne.symm hnb') hb hj ha (hat hx' hlt') ho hl'
      · exact absurd rfl hne
  · intro i bk x hi hx hl
    rcases hkl hi hl with ⟨_, hi, _⟩ | ⟨rfl, rfl⟩
    · exact .inl ⟨bk, hi, rfl⟩
    · rw [hat' hx]; exact .inr (.inl ⟨b, blk, at', hb, ho, ha, rfl⟩)
  · exact .slice (a := na) (pushR_self _ _ _) hle (fun c0 h => by cases h) (fun k' h => by cases h; exact ⟨hk0, by simp [na]⟩) (fun _ => by simp [na])

theorem splSim (hm : RM fid ρ h w) {sv wv : V} {y1 y2 : Value} {k m i j : Nat} {r : V × Heap} (h1 : RV fid ρ sv y1) (h2 : RV fid ρ wv y2) (hk0 : 0 < k) (hx : splH k m sv i j wv h = some r) (hmj : j - i < m) :
    ∃ (n c cb co vb vo vc : Nat) (A : Addr) (cs vs : List Value) (arr arr2 : Array Value) (T T2 : TypeId), y1 = .slice (some A) n c ∧ y2 = .slice (some ⟨vb, vo, none⟩) m vc ∧ SplPre k m n c i j cb co vb vo vc A cs vs arr arr2 T T2 w ∧
      ∀ e w', SplPost k n (n - (j - i) + m) c cb co A arr T (cs.take (i * k) ++ vs ++ cs.drop (j * k)) w e w' → ∃ y, e = .returned y ∧ HS fid ρ h w r.1 r.2 y w' := by
  unfold splH at hx
  split at hx
  case h_2 => cases hx
  rename_i b off n cap
  split at hx
  case h_2 => cases hx
  rename_i blk hb
  split at hx
  case isFalse => cases hx
  rename_i hcond
  obtain ⟨⟨ho, rfl, hij, hj, hnb, hcl⟩, hcap, hlw, hbw, how⟩ := hcond
  simp only [Option.bind_eq_some_iff] at hx
  obtain ⟨ys, hys, hx⟩ := hx
  injection hx with hx
  subst hx
  -- what is put in
  unfold ownV at how
  split at how
  case h_2 => cases how
  rename_i b2 off2 m2 cap2
  split at how
  case h_2 => cases how
  rename_i blk2 hb2
  have ho2 : blk2.st = .own := by simpa using how
  simp only [lenV, Option.some.injEq] at hlw
  subst hlw
  have hbb : b2 ≠ b := fun e => hbw (by rw [e]; rfl)
  cases h2 with
  | slice q1 q2 q3 q4 q5 =>
  rename_i vc at2 A2
  have hA2 := q5 (by omega)
  subst hA2
  obtain ⟨hl2, arr2, T2, harr2, hco2⟩ := hm.own b2 blk2 at2 hb2 q1 ho2
  cases h1 with
  | slice g1 g2 g3 g4 g5 =>
  rename_i c at' A
  obtain ⟨hl1, arr, T, harr, hco⟩ := hm.own b blk at' hb g1 ho
  have hcell1 := fun (q : Nat) (v : V) (hq : blk.cells[q]? = some v) => by
    have := hm.cell b blk at' q v hb g1 (by rw [ho]; decide) hq
    rwa [cell?_arr harr] at this
  have hcell2 := fun (q : Nat) (v : V) (hq : blk2.cells[q]? = some v) => by
    have := hm.cell b2 blk2 at2 q v hb2 q1 (by rw [ho2]; decide) hq
    rwa [cell?_arr harr2] at this
  have hmk : 0 < m2 * k := Nat.mul_pos (by omega) hk0
  rw [rdS, if_pos (Nat.le_refl _), if_neg (by omega), rdH, hb2] at hys
  simp only [ho2] at hys
  rw [if_neg (by decide)] at hys
  unfold cut at hys
  split at hys
  case isFalse => cases hys
  rename_i hle2
  injection hys with hys
  let cs : List Value := (arr.toList.drop at'.co).take (n * k)
  let vs : List Value := (arr2.toList.drop (at2.co + off2)).take (m2 * k)
  have hcsl : cs.length = n * k := by simp [cs]; omega
  have hvsl : vs.length = m2 * k := by simp [vs]; omega
  have hcs : ∀ (q : Nat) (v : Value), cs[q]? = some v → arr[at'.co + q]? = some v := fun q v hq => by
    simp only [cs, List.getElem?_take, List.getElem?_drop] at hq
    split at hq
    · rw [← Array.getElem?_toList]; exact hq
    · cases hq
  have hvs : ∀ (q : Nat) (v : Value), vs[q]? = some v → arr2[at2.co + off2 + q]? = some v := fun q v hq => by
    simp only [vs, List.getElem?_take, List.getElem?_drop] at hq
    split at hq
    · rw [← Array.getElem?_toList]; exact hq
    · cases hq
  have r1 : RVs fid ρ blk.cells cs := .of_get (by omega) fun q x y hx hy => by
    obtain ⟨z, hz, hr⟩ := hcell1 q x hx
    rw [hcs q y hy] at hz
    exact (Option.some.inj hz) ▸ hr
  have hysl : ys.length = m2 * k := by rw [← hys]; simp; omega
  have r2 : RVs fid ρ ys vs := .of_get (by omega) fun q x y hx hy => by
    rw [← hys, List.getElem?_take, List.getElem?_drop] at hx
    split at hx
    · obtain ⟨z, hz, hr⟩ := hcell2 _ x hx
      rw [← Nat.add_assoc, hvs q y hy] at hz
      exact (Option.some.inj hz) ▸ hr
    · cases hx
  have hcel1 := hm.cel b blk hb (by rw [ho]; decide)
  have hcel2 := hm.cel b2 blk2 hb2 (by rw [ho2]; decide)
  have hcelY : allCell ys = true := by rw [← hys]; exact allCell_sub hcel2 fun x hx => List.mem_of_mem_drop (List.mem_of_mem_take hx)
  have rn : RVs fid ρ (blk.cells.take (i * k) ++ ys ++ blk.cells.drop (j * k)) (cs.take (i * k) ++ vs ++ cs.drop (j * k)) := ((r1.take _).append r2).append (r1.drop _)
  have hceln : allCell (blk.cells.take (i * k) ++ ys ++ blk.cells.drop (j * k)) = true := by
    simp only [allCell_append, Bool.and_eq_true]
    exact ⟨⟨allCell_sub hcel1 fun x hx => List.mem_of_mem_take hx, hcelY⟩, allCell_sub hcel1 fun x hx => List.mem_of_mem_drop hx⟩
  have hik : i * k ≤ j * k := Nat.mul_le_mul_right k hij
  have hjk : j * k ≤ n * k := Nat.mul_le_mul_right k hj
  have hnl : (blk.cells.take (i * k) ++ ys ++ blk.cells.drop (j * k)).length = (n - (j - i) + m2) * k := by
    have e : (n - (j - i) + m2) * k = n * k - (j * k - i * k) + m2 * k := by rw [Nat.add_mul, Nat.sub_mul, Nat.sub_mul]
    rw [e]
    simp only [List.length_append, List.length_take, List.length_drop, hysl]; omega
  refine ⟨n, c, at'.cb, at'.co, at2.cb, at2.co + off2, vc, A, cs, vs, arr, arr2, T, T2, rfl, rfl, ⟨harr, harr2, Ne.symm (hm.sep b b2 blk blk2 at' at2 (Ne.symm hbb) hb hb2 g1 q1 ho (by rw [ho2]; decide)), fun h0 => by rw [g5 h0]; simp, hij, hj, g2, hnb, ?_, q2, hcsl, hvsl, hcs, hvs, fun v hv => ?_, fun v hv => ?_⟩, fun e w' hp => ?_⟩
  · cases cap with
    | k c0 =>
      have := g3 _ rfl
      have h3 : c0 = n := by simpa [capS] using hcap
      left; omega
    | o k' =>
      have h3 : k' = k := by simpa [capS] using hcap
      obtain ⟨_, h4⟩ := g4 _ rfl
      right; rw [← hco, ← h4, h3]; omega
  · exact allCell_sound r1 hcel1 v hv
  · exact allCell_sound r2 hcelY v hv
  · rcases hp with ⟨hle, rfl, d, arr', rfl, hs', hq⟩ | ⟨nc, arr', T', d, rfl, hle, hs', rfl, hq⟩
    · have hcn : c ≠ n := by omega
      have hck : c * k = at'.sz := by
        cases cap with
        | k c0 =>
          have := g3 _ rfl
          have h3 : c0 = n := by simpa [capS] using hcap
          omega
        | o k' =>
          have h3 : k' = k := by simpa [capS] using hcap
          obtain ⟨_, h4⟩ := g4 _ rfl
          rw [← h4, h3]; omega
      have hA : A = ⟨at'.cb, at'.co, none⟩ := by rw [g5 (by omega)]; simp
      have hmul : (n - (j - i) + m2) * k ≤ c * k := Nat.mul_le_mul_right k hle
      exact ⟨_, rfl, hs_relay hm hb ho g1 hk0 harr hco hck hs' hceln (by omega) hle (fun q v hv => by
        obtain ⟨x, hx, hr⟩ := rn.get hv
        exact ⟨x, hq q x hx, hr⟩) d A hA⟩
    · refine ⟨_, rfl, hs_kill_new hm hb rfl (mk := fun b => .slice b 0 (n - (j - i) + m2) (.o k)) (arr := arr') ⟨⟨d, T', rfl⟩, rfl, hceln, ?_, fun q v hv => ?_, fun b' ρ' he hb' => ?_⟩⟩
      · show (blk.cells.take (i * k) ++ ys ++ blk.cells.drop (j * k)).length ≤ _
        rw [hnl, hs']; exact Nat.mul_le_mul_right k hle
      · obtain ⟨x, hx, hr⟩ := rn.get hv
        exact ⟨x, hq q x hx, hr⟩
      · exact .slice hb' hle (fun c0 h => by cases h) (fun k' h => by cases h; exact ⟨hk0, by simp only [hs']; omega⟩) (fun _ => by simp)
end

theorem splH_len {k m : Nat} {s : V} {i j : Nat} {x : V} {h : Heap} {r : V × Heap} (hx : splH k m s i j x h = some r) : h.length ≤ r.2.length := by
  unfold splH at hx
  split at hx
  case h_2 => cases hx
  split at hx
  case h_2 => cases hx
  split at hx
  case isFalse => cases hx
  simp only [Option.bind_eq_some_iff] at hx
  obtain ⟨ys, hys, hx⟩ := hx
  injection hx with hx
  subst hx
  simp
theorem splF_own {h : Heap} {w : V} {q : Nat} {blk : Blk} (ho : ownV h w = true) (hd : isDead h q = true) : ownV (h.set q blk) w = true := by
  unfold ownV at ho ⊢
  split at ho
  case h_2 => cases ho
  rename_i b _ _ _
  split at ho
  case h_2 => cases ho
  rename_i bk hb
  obtain ⟨bq, hq, hqd⟩ := isDead_get hd
  have hne : q ≠ b := fun e => by
    rw [e, hb] at hq
    injection hq with hq
    subst hq
    rw [hqd] at ho; cases ho
  rw [List.getElem?_set_ne hne, hb]
  exact ho
theorem splF {k m : Nat} {s : V} {i j : Nat} {w v : V} {h h' : Heap} {q : Nat} {blk : Blk} (hx : splH k m s i j w h = some (v, h')) (hd : isDead h q = true) : isDead h' q = true ∧ splH k m s i j w (h.set q blk) = some (v, h'.set q blk) := by
  unfold splH at hx
  split at hx
  case h_2 => cases hx
  rename_i b off n cap
  split at hx
  case h_2 => cases hx
  rename_i bk hb
  split at hx
  case isFalse => cases hx
  rename_i hc
  simp only [Option.bind_eq_some_iff] at hx
  obtain ⟨ys, hy, hx⟩ := hx
  injection hx with hx
  injection hx with e1 e2
  subst e1; subst e2
  obtain ⟨bq, hq, hqd⟩ := isDead_get hd
  have hlt := isDead_lt hd
  have hne : q ≠ b := fun e => by
    rw [e, hb] at hq
    injection hq with hq
    subst hq
    rw [hc.1.1] at hqd; cases hqd
  have h1 : (h.set q blk)[b]? = some bk := by rw [List.getElem?_set_ne hne]; exact hb
  refine ⟨?_, ?_⟩
  · unfold isDead
    rw [List.getElem?_append_left (by simpa using hlt), List.getElem?_set_ne (Ne.symm hne), hq]
    simp [hqd]
  · simp only [splH, h1]
    rw [if_pos ⟨hc.1, hc.2.1, hc.2.2.1, hc.2.2.2.1, splF_own hc.2.2.2.2 hd⟩, rdS_fill hd hy]
    simp only [Option.bind_some, List.length_set]
    rw [List.set_append_left _ _ (by simpa using hlt), List.set_comm _ _ hne]

theorem insE_some {args : List V} {h : Heap} {r : V × Heap} (hr : insE args h = some r) : ∃ s i w, args = [s, .int .i64 (Int.ofNat i), w] ∧ splH 2 1 s i i w h = some r := by
  unfold insE at hr
  split at hr
  · exact ⟨_, _, _, rfl, hr⟩
  · cases hr
theorem repE_some {args : List V} {h : Heap} {r : V × Heap} (hr : repE args h = some r) : ∃ s i w, args = [s, .int .i64 (Int.ofNat i), .int .i64 (Int.ofNat (i + 1)), w] ∧ splH 1 2 s i (i + 1) w h = some r := by
  unfold repE at hr
  split at hr
  · split at hr
    · rename_i hj
      subst hj
      exact ⟨_, _, _, rfl, hr⟩
    · cases hr
  · cases hr
theorem insE_ok {P : Program} {fid : Nat → FuncId} {f : Nat} (hf : ∃ F, P.funcs[fid f]? = some F ∧ (F.name == "runtime.NumGoroutine") = false ∧ F.body.isNone = false)
    (hc : SplC P (fid f) 2 1 0 fun s i v => #[s, .int .i64 i, v]) : CallOK P fid fun g args h => if g = f then insE args h else none := by
  refine ⟨fun g args h v h' ρ w vs hx hm ha => ?_, fun g args h v h' q blk hx hd => ?_, fun g args h v h' hx => ?_⟩
  · split at hx
    case isFalse => cases hx
    rename_i e
    subst e
    obtain ⟨s, i, x, rfl, hx⟩ := insE_some hx
    cases ha with
    | cons h1 h2 =>
    cases h2 with
    | cons h2 h3 =>
    cases h2
    cases h3 with
    | cons h3 h4 =>
    cases h4
    obtain ⟨n, c, cb, co, vb, vo, vc, A, cs, vs, arr, arr2, T, T2, rfl, rfl, hp, hq⟩ := splSim hm h1 h3 (by decide) hx (by omega)
    refine ⟨hf, (hc n c i cb co vb vo vc A cs vs arr arr2 T T2 w hp).mono fun e w' hpost => ?_⟩
    exact hq e w' (by simpa using hpost)
  · split at hx
    case isFalse => cases hx
    rename_i e
    subst e
    rw [if_pos rfl]
    obtain ⟨s, i, x, rfl, hx⟩ := insE_some hx
    exact splF hx hd
  · split at hx
    case isFalse => cases hx
    obtain ⟨s, i, x, rfl, hx⟩ := insE_some hx
    exact splH_len hx
theorem repE_ok {P : Program} {fid : Nat → FuncId} {f : Nat} (hf : ∃ F, P.funcs[fid f]? = some F ∧ (F.name == "runtime.NumGoroutine") = false ∧ F.body.isNone = false)
    (hc : SplC P (fid f) 1 2 1 fun s i v => #[s, .int .i64 i, .int .i64 ((i + 1 : Nat) : Int), v]) : CallOK P fid fun g args h => if g = f then repE args h else none := by
  refine ⟨fun g args h v h' ρ w vs hx hm ha => ?_, fun g args h v h' q blk hx hd => ?_, fun g args h v h' hx => ?_⟩
  · split at hx
    case isFalse => cases hx
    rename_i e
    subst e
    obtain ⟨s, i, x, rfl, hx2⟩ := repE_some hx
    cases ha with
    | cons h1 h2 =>
    cases h2 with
    | cons h2 h3 =>
    cases h2
    cases h3 with
    | cons h3 h4 =>
    cases h3
    cases h4 with
    | cons h4 h5 =>
    cases h5
    obtain ⟨n, c, cb, co, vb, vo, vc, A, cs, vs, arr, arr2, T, T2, rfl, rfl, hp, hq⟩ := splSim hm h1 h4 (by decide) hx2 (by omega)
    refine ⟨hf, (hc n c i cb co vb vo vc A cs vs arr arr2 T T2 w hp).mono fun e w' hpost => ?_⟩
    refine hq e w' ?_
    rw [show i + 1 - i = 1 by omega]
    exact hpost
  · split at hx
    case isFalse => cases hx
    rename_i e
    subst e
    rw [if_pos rfl]
    obtain ⟨s, i, x, rfl, hx2⟩ := repE_some hx
    obtain ⟨a1, a2⟩ := splF (blk := blk) hx2 hd
    refine ⟨a1, ?_⟩
    have : repE [s, .int .i64 (Int.ofNat i), .int .i64 (Int.ofNat (i + 1)), x] (h.set q blk) = splH 1 2 s i (i + 1) x (h.set q blk) := by
      show (if i + 1 = i + 1 then _ else _) = _
      rw [if_pos rfl]
    rw [this]; exact a2
  · split at hx
    case isFalse => cases hx
    obtain ⟨s, i, x, rfl, hx2⟩ := repE_some hx
    exact splH_len hx2
end GL
/-! GL: the runs of append and copy that slices.Insert and slices.Replace are made of. -/
namespace GL
open Go
variable {P : Program} {w : World}

theorem firstL {k mm : Nat} {vb vo : Nat} {arr2 : Array Value} {T2 : TypeId} {fr : Nat × Nat} {vs : List Value} (harr : w.heap[vb]? = some (.cells arr2 T2 fr)) (hl : vs.length = mm * k) (hq : ∀ (q : Nat) (v : Value), vs[q]? = some v → arr2[vo + q]? = some v) (sl sc : Nat) :
    (Builtin.firstCells k mm (.slice (some ⟨vb, vo, none⟩) sl sc)).run P w = .ok vs.toArray w := by
  unfold Builtin.firstCells
  exact run_loadCells _ _ _ _ hl fun j v hj => by
    have := hq j v hj
    rw [cell?_arr harr]; exact this
theorem copyL {t u e ty : TypeId} {k : Nat} (hu : P.underlying t = some (.slice e)) (hk : sizeP P e = some k) {cb o : Nat} {arr : Array Value} {T : TypeId} (harr : w.heap[cb]? = some (.cells arr T (0, 0))) {vs : List Value} {a : Addr} {dl dc sl sc mm : Nat} (hmin : Nat.min sl dl = mm)
    (hf : (Builtin.firstCells k mm (.slice (some a) sl sc)).run P w = .ok vs.toArray w) (h1 : ∀ v ∈ vs, one1 v) (hlen : o + vs.length ≤ arr.size) :
    (Builtin.copy_ #[t, u] ty #[.slice (some ⟨cb, o, none⟩) dl dc, .slice (some a) sl sc]).run P w = .ok (goInt mm) (setO w cb (.cells (layA arr o vs) T (0, 0))) := by
  have hs := run_storeCells (P := P) vs 0 w cb o arr T h1 harr (by omega)
  simp only [Nat.add_zero] at hs
  simp [Builtin.copy_, underlying, hu, run_sizeOf hk, Builtin.lenOf, hmin, hf, hs, goInt]

theorem push_set (w : World) (o o' : Obj) : setO (pushO w o) w.heap.size o' = pushO w o' := by
  have h : (w.heap.push o).setIfInBounds w.heap.size o' = w.heap.push o' := by
    apply Array.ext_getElem?
    intro i
    rw [Array.getElem?_setIfInBounds, Array.getElem?_push, Array.getElem?_push, Array.size_push]
    by_cases e : w.heap.size = i
    · subst e; simp
    · rw [if_neg e, if_neg (fun h => e h.symm), if_neg (fun h => e h.symm)]
  simp only [setO, pushO, h]

theorem zc_size (z : Array Value) (n : Nat) : (Builtin.zeroCells z n).size = n * z.size := by simp [Builtin.zeroCells]
theorem listGet {α : Type} {a b c : List α} {i m q : Nat} {v : α} (ha : a.length = i) (hb : b.length = m) (h : (a ++ b ++ c)[q]? = some v) : (q < i ∧ a[q]? = some v) ∨ (i ≤ q ∧ q < i + m ∧ b[q - i]? = some v) ∨ (i + m ≤ q ∧ c[q - (i + m)]? = some v) := by
  by_cases h1 : q < i
  · rw [List.append_assoc, List.getElem?_append_left (by omega)] at h
    exact .inl ⟨h1, h⟩
  · by_cases h2 : q < i + m
    · rw [List.append_assoc, List.getElem?_append_right (by omega), List.getElem?_append_left (by omega), ha] at h
      exact .inr (.inl ⟨by omega, h2, h⟩)
    · rw [List.getElem?_append_right (by simp; omega), List.length_append, ha, hb] at h
      exact .inr (.inr ⟨by omega, h⟩)

section
variable {t u e : TypeId} {k m n c i j cb co vb vo vc bytes : Nat} {z : Value} {A : Addr} {cs vs : List Value} {arr arr2 : Array Value} {T T2 : TypeId} {ku : IntKind}
theorem SplPre.mul (p : SplPre k m n c i j cb co vb vo vc A cs vs arr arr2 T T2 w) (hn' : n ≤ n - (j - i) + m) : i * k ≤ j * k ∧ j * k ≤ n * k ∧ (n - (j - i) + m) * k = n * k - (j * k - i * k) + m * k ∧ (i + m) * k = i * k + m * k ∧ (n - j) * k = n * k - j * k := by
  refine ⟨Nat.mul_le_mul_right k p.hij, Nat.mul_le_mul_right k p.hj, ?_, Nat.add_mul .., Nat.sub_mul ..⟩
  rw [Nat.add_mul, Nat.sub_mul, Nat.sub_mul]
theorem growRuns (hT : AppT P t e k bytes z) (hI : P.underlying u = some (.int ku)) (hb64 : bytes ≤ 64) (p : SplPre k m n c i j cb co vb vo vc A cs vs arr arr2 T T2 w) (hk0 : 0 < k) (hm0 : m ≤ 2) (hjn : j < n) (hd : j - i < m) (hroom : c < n - (j - i) + m) (d0 : Nat) :
    ∃ G w1 w2 w3, n - (j - i) + m ≤ G ∧
      (Builtin.append_ #[t, u] t #[.slice (some ⟨cb, co, none⟩) i c, .int .i64 ((n - (j - i) + m - i : Nat) : Int)]).run P { w with drawn := d0 } = .ok (.slice (some ⟨w.heap.size, 0, none⟩) (n - (j - i) + m) G) w1 ∧
      (∀ ty, (Builtin.copy_ #[t, t] ty #[.slice (some ⟨w.heap.size, i * k, none⟩) (n - (j - i) + m - i) (G - i), .slice (some ⟨vb, vo, none⟩) m vc]).run P w1 = .ok (goInt m) w2) ∧
      (∀ ty, (Builtin.copy_ #[t, t] ty #[.slice (some ⟨w.heap.size, (i + m) * k, none⟩) (n - (j - i) + m - (i + m)) (G - (i + m)), .slice (some ⟨cb, co + j * k, none⟩) (n - j) (c - j)]).run P w2.drew = .ok (goInt ((n - j : Nat) : Int)) w3) ∧
      SplPost k n (n - (j - i) + m) c cb co A arr T (cs.take (i * k) ++ vs ++ cs.drop (j * k)) w (.returned (.slice (some ⟨w.heap.size, 0, none⟩) (n - (j - i) + m) G)) w3 := by
  have hij := p.hij
  have hj := p.hj
  have hnb := p.hnb
  have hn := p.hn
  have hcl := p.hcl
  have hvl := p.hvl
  obtain ⟨q1, q2, q3, q4, q5⟩ := p.mul (by omega)
  obtain ⟨n', hn'⟩ : ∃ n', n' = n - (j - i) + m := ⟨_, rfl⟩
  rw [← hn'] at q3 hroom ⊢
  have hin : i + (n' - i) = n' := by omega
  have hlt := lt_heap p.ha
  have hlv := lt_heap p.hv
  have hct : (cs.take (i * k)).length = i * k := by simp; omega
  have hcd : (cs.drop (j * k)).length = n * k - j * k := by simp; omega
  have hA := run_appendZ (P := P) (w := { w with drawn := d0 }) (ty := t) (kx := .i64) hT hI (base := some ⟨cb, co, none⟩) (len := i) (c := c) (n := n' - i) (by omega) (by
    have : (n' - i) * bytes ≤ 2 ^ 21 * 64 := Nat.mul_le_mul (by omega) hb64
    omega)
  rw [hin] at hA
  obtain ⟨G, d, hG, hrun⟩ := hA.2 (cs.take (i * k)) (fun w' hw => by
    have ha' : w'.heap[cb]? = some (.cells arr T (0, 0)) := by rw [hw]; exact p.ha
    exact firstL ha' hct (fun q v hq => by
      rw [List.getElem?_take] at hq
      split at hq
      · exact p.hcs q v hq
      · cases hq) i c) hroom (by
    have : n' * bytes ≤ 2 ^ 21 * 64 := Nat.mul_le_mul (by omega) hb64
    unfold room; omega) (by unfold room; omega)
  obtain ⟨row, hrow⟩ : ∃ row, row = (cs.take (i * k) ++ (Builtin.zeroCells z.cells (n' - i)).toList).toArray ++ Builtin.zeroCells z.cells (G - n') := ⟨_, rfl⟩
  have hrs : row.size = G * k := by
    rw [hrow]
    simp only [Array.size_append, List.size_toArray, List.length_append, Array.length_toList, zc_size, hT.zk, hct]
    have e1 : (n' - i) * k = n' * k - i * k := Nat.sub_mul ..
    have e2 : (G - n') * k = G * k - n' * k := Nat.sub_mul ..
    have e3 : n' * k ≤ G * k := Nat.mul_le_mul_right k hG
    have e4 : i * k ≤ n' * k := Nat.mul_le_mul_right k (by omega)
    omega
  have hrow0 : ∀ (q : Nat) (v : Value), (cs.take (i * k))[q]? = some v → row[q]? = some v := fun q v hq => by
    have hql : q < i * k := by
      rcases Nat.lt_or_ge q (i * k) with h | h
      · exact h
      · rw [List.getElem?_eq_none (by omega)] at hq; cases hq
    rw [hrow, Array.getElem?_append_left (by simp; omega), List.getElem?_toArray, List.getElem?_append_left (by omega)]
    exact hq
  rw [← hrow] at hrun
  have hGk : n' * k ≤ G * k := Nat.mul_le_mul_right k hG
  have hne : cb ≠ w.heap.size := by omega
  have hnv : vb ≠ w.heap.size := by omega
  let w1 : World := pushO { w with drawn := d } (.cells row e (0, 0))
  let row1 := layA row (i * k) vs
  let w2 : World := pushO { w with drawn := d } (.cells row1 e (0, 0))
  let row2 := layA row1 ((i + m) * k) (cs.drop (j * k))
  let w3 : World := pushO { w with drawn := d + 1 } (.cells row2 e (0, 0))
  have hr1 : row1.size = row.size := layA_size (by omega)
  have hr2 : row2.size = row1.size := layA_size (by omega)
  refine ⟨G, w1, w2, w3, hG, hrun, fun ty => ?_, fun ty => ?_, .inr ⟨G, row2, e, d + 1, rfl, hG, by omega, rfl, fun q v hq => ?_⟩⟩
  · have := copyL (P := P) (w := w1) (ty := ty) (u := t) hT.hu hT.hk (cb := w.heap.size) (o := i * k) (arr := row) (T := e) (pushO_new _ _) (vs := vs) (a := ⟨vb, vo, none⟩) (dl := n' - i) (dc := G - i) (sl := m) (sc := vc) (mm := m) (Nat.min_eq_left (by omega))
      (firstL (arr2 := arr2) (T2 := T2) (fr := (0, 0)) (by rw [show w1.heap[vb]? = w.heap[vb]? from pushO_old _ _ hlv]; exact p.hv) hvl p.hvs m vc) p.h1v (by omega)
    rw [this]
    congr 1
    exact push_set { w with drawn := d } _ _
  · have := copyL (P := P) (w := w2.drew) (ty := ty) (u := t) hT.hu hT.hk (cb := w.heap.size) (o := (i + m) * k) (arr := row1) (T := e) (pushO_new _ _) (vs := cs.drop (j * k)) (a := ⟨cb, co + j * k, none⟩) (dl := n' - (i + m)) (dc := G - (i + m)) (sl := n - j) (sc := c - j) (mm := n - j) (Nat.min_eq_left (by omega))
      (firstL (arr2 := arr) (T2 := T) (fr := (0, 0)) (by rw [show w2.drew.heap[cb]? = w.heap[cb]? from pushO_old _ _ hlt]; exact p.ha) (by omega) (fun q v hq => by
        rw [List.getElem?_drop] at hq
        rw [Nat.add_assoc]; exact p.hcs _ v hq) (n - j) (c - j)) (fun v hv => p.h1c v (List.mem_of_mem_drop hv)) (by omega)
    rw [this]
    congr 1
    have hw : w2.drew = pushO { w with drawn := d + 1 } (.cells row1 e (0, 0)) := rfl
    rw [hw]
    exact push_set { w with drawn := d + 1 } (.cells row1 e (0, 0)) (.cells row2 e (0, 0))
  · show row2[q]? = some v
    have hb2 : (i + m) * k + (cs.drop (j * k)).length ≤ row1.size := by omega
    have hb1 : i * k + vs.length ≤ row.size := by omega
    rw [layA_get hb2, layA_get hb1]
    rcases listGet hct hvl hq with ⟨h1, h2⟩ | ⟨h1, h2, h3⟩ | ⟨h1, h2⟩
    · rw [if_pos (by omega), if_pos h1]; exact hrow0 q v h2
    · rw [if_pos (by omega), if_neg (by omega), if_pos (by omega)]; exact h3
    · have h3 : q - (i * k + m * k) < n * k - j * k := by
        rcases Nat.lt_or_ge (q - (i * k + m * k)) (n * k - j * k) with h | h
        · exact h
        · rw [List.getElem?_eq_none (by omega)] at h2; cases h2
      rw [if_neg (by omega), if_pos (by omega), q4]; exact h2
theorem roomRuns (hT : AppT P t e k bytes z) (p : SplPre k m n c i j cb co vb vo vc A cs vs arr arr2 T T2 w) (hk0 : 0 < k) (hjn : j < n) (hd : j - i < m) (hroom : n - (j - i) + m ≤ c) (d0 sl : Nat) (hsl : n - j ≤ sl) :
    A = ⟨cb, co, none⟩ ∧ ∃ w1 w2,
      (∀ ty, (Builtin.copy_ #[t, t] ty #[.slice (some ⟨cb, co + (i + m) * k, none⟩) (n - (j - i) + m - (i + m)) (c - (i + m)), .slice (some ⟨cb, co + j * k, none⟩) sl (c - j)]).run P { w with drawn := d0 } = .ok (goInt ((n - j : Nat) : Int)) w1) ∧
      (∀ ty, (Builtin.copy_ #[t, t] ty #[.slice (some ⟨cb, co + i * k, none⟩) (n - (j - i) + m - i) (c - i), .slice (some ⟨vb, vo, none⟩) m vc]).run P w1 = .ok (goInt m) w2) ∧
      SplPost k n (n - (j - i) + m) c cb co A arr T (cs.take (i * k) ++ vs ++ cs.drop (j * k)) w (.returned (.slice (some ⟨cb, co, none⟩) (n - (j - i) + m) c)) w2 := by
  have hij := p.hij
  have hj := p.hj
  have hnb := p.hnb
  have hn := p.hn
  have hcl := p.hcl
  have hvl := p.hvl
  have hA := p.hA (by omega)
  obtain ⟨q1, q2, q3, q4, q5⟩ := p.mul (by omega)
  obtain ⟨n', hn'⟩ : ∃ n', n' = n - (j - i) + m := ⟨_, rfl⟩
  rw [← hn'] at q3 hroom ⊢
  have hlt := lt_heap p.ha
  have hct : (cs.take (i * k)).length = i * k := by simp; omega
  have hcd : (cs.drop (j * k)).length = n * k - j * k := by simp; omega
  have hck : co + c * k = arr.size := by
    rcases p.hsz with h | h
    · omega
    · exact h
  have hn'c : n' * k ≤ c * k := Nat.mul_le_mul_right k hroom
  let row1 := layA arr (co + (i + m) * k) (cs.drop (j * k))
  let row2 := layA row1 (co + i * k) vs
  have hr1 : row1.size = arr.size := layA_size (by omega)
  have hr2 : row2.size = row1.size := layA_size (by omega)
  let w0 : World := { w with drawn := d0 }
  let w1 : World := setO w0 cb (.cells row1 T (0, 0))
  let w2 : World := setO w0 cb (.cells row2 T (0, 0))
  refine ⟨hA, w1, w2, fun ty => ?_, fun ty => ?_, .inl ⟨hroom, by rw [hA], d0, row2, rfl, by omega, fun q v hq => ?_⟩⟩
  · exact copyL (P := P) (w := w0) (ty := ty) (u := t) hT.hu hT.hk (cb := cb) (o := co + (i + m) * k) (arr := arr) (T := T) p.ha (vs := cs.drop (j * k)) (a := ⟨cb, co + j * k, none⟩) (dl := n' - (i + m)) (dc := c - (i + m)) (sl := sl) (sc := c - j) (mm := n - j) (by show min sl (n' - (i + m)) = n - j; omega)
      (firstL (w := w0) (mm := n - j) (k := k) (vs := cs.drop (j * k)) (arr2 := arr) (T2 := T) (fr := (0, 0)) p.ha (by omega) (fun q v hq => by
        rw [List.getElem?_drop] at hq
        rw [Nat.add_assoc]; exact p.hcs _ v hq) sl (c - j)) (fun v hv => p.h1c v (List.mem_of_mem_drop hv)) (by omega)
  · have hw1 : w1.heap[cb]? = some (.cells row1 T (0, 0)) := setO_eq _ _ hlt
    have := copyL (P := P) (w := w1) (ty := ty) (u := t) hT.hu hT.hk (cb := cb) (o := co + i * k) (arr := row1) (T := T) hw1 (vs := vs) (a := ⟨vb, vo, none⟩) (dl := n' - i) (dc := c - i) (sl := m) (sc := vc) (mm := m) (Nat.min_eq_left (by omega))
      (firstL (arr2 := arr2) (T2 := T2) (fr := (0, 0)) (by rw [show w1.heap[vb]? = w.heap[vb]? from setO_ne _ _ p.hne]; exact p.hv) hvl p.hvs m vc) p.h1v (by omega)
    rw [this]
    congr 1
    simp [w1, w2, setO, row2]
  · show row2[co + q]? = some v
    have hb1 : co + (i + m) * k + (cs.drop (j * k)).length ≤ arr.size := by omega
    have hb2 : co + i * k + vs.length ≤ row1.size := by omega
    rw [layA_get hb2, layA_get hb1]
    rcases listGet hct hvl hq with ⟨h1, h2⟩ | ⟨h1, h2, h3⟩ | ⟨h1, h2⟩
    · rw [if_pos (by omega), if_pos (by omega)]
      rw [List.getElem?_take, if_pos h1] at h2
      exact p.hcs q v h2
    · rw [if_neg (by omega), if_pos (by omega)]
      rw [← h3]; congr 1; omega
    · have h3 : q - (i * k + m * k) < n * k - j * k := by
        rcases Nat.lt_or_ge (q - (i * k + m * k)) (n * k - j * k) with h | h
        · exact h
        · rw [List.getElem?_eq_none (by omega)] at h2; cases h2
      rw [if_neg (by omega), if_neg (by omega), if_neg (by omega), if_pos (by omega)]
      rw [← h2]; congr 1; omega
/-- at the end -/
theorem endRuns (hT : AppT P t e k bytes z) (hu : (elemP P t).isSome = true) (hb64 : bytes ≤ 64) (p : SplPre k m n c i n cb co vb vo vc A cs vs arr arr2 T T2 w) (hk0 : 0 < k) (hm0 : m ≤ 2) (hd : n - i < m) :
    ∃ B G w1, (Builtin.append_ #[t, t] t #[.slice (some A) i c, .slice (some ⟨vb, vo, none⟩) m vc]).run P w = .ok (.slice (some B) (i + m) G) w1 ∧
      SplPost k n (n - (n - i) + m) c cb co A arr T (cs.take (i * k) ++ vs ++ cs.drop (n * k)) w (.returned (.slice (some B) (i + m) G)) w1 := by
  have hij := p.hij
  have hnb := p.hnb
  have hn := p.hn
  have hcl := p.hcl
  have hvl := p.hvl
  obtain ⟨q1, q2, q3, q4, q5⟩ := p.mul (by omega)
  have e0 : n - (n - i) + m = i + m := by omega
  rw [e0] at q3 ⊢
  have hct : (cs.take (i * k)).length = i * k := by simp; omega
  have hcd : cs.drop (n * k) = [] := List.drop_of_length_le (by omega)
  have hf := firstL (P := P) p.hv hvl p.hvs m vc
  by_cases hroom : i + m ≤ c
  · have hA := p.hA (by omega)
    have hck : co + c * k = arr.size := by
      rcases p.hsz with h | h
      · omega
      · exact h
    have hn'c : (i + m) * k ≤ c * k := Nat.mul_le_mul_right k hroom
    have hrun := run_append_in (P := P) (w := w) (ty := t) hT hu (base := some A) (len := i) (c := c) hf hroom
    have hs := run_storeCells (P := P) vs 0 w cb (co + i * k) arr T p.h1v p.ha (by omega)
    simp only [hA, add_mk, Nat.add_zero] at hrun hs
    rw [hs] at hrun
    refine ⟨A, c, _, by rw [hA]; exact hrun, .inl ⟨hroom, rfl, w.drawn, layA arr (co + i * k) vs, rfl, layA_size (by omega), fun q v hq => ?_⟩⟩
    rw [layA_get (by omega)]
    rcases listGet hct hvl hq with ⟨h1, h2⟩ | ⟨h1, h2, h3⟩ | ⟨h1, h2⟩
    · rw [if_pos (by omega)]
      rw [List.getElem?_take, if_pos h1] at h2
      exact p.hcs q v h2
    · rw [if_neg (by omega), if_pos (by omega), ← h3]; congr 1; omega
    · rw [hcd] at h2; cases h2
  · obtain ⟨nc, d, hle, hrun⟩ := run_append_new (P := P) (w := w) (ty := t) hT hu (base := some A) (len := i) (c := c) (n := m) (A := some ⟨vb, vo, none⟩) (cx := vc) (vs := vs) (old := cs.take (i * k)) (fun w' hw => by
      by_cases h0 : c = 0
      · have hi0 : i = 0 := by omega
        subst hi0
        unfold Builtin.firstCells
        simp [loadCells, loadCellsFrom]
      · rw [p.hA h0]
        have ha' : w'.heap[cb]? = some (.cells arr T (0, 0)) := by rw [hw]; exact p.ha
        exact firstL ha' hct (fun q v hq => by
          rw [List.getElem?_take] at hq
          split at hq
          · exact p.hcs q v hq
          · cases hq) i c) (fun w' hw => by
      have hv' : w'.heap[vb]? = some (.cells arr2 T2 (0, 0)) := by rw [hw]; exact p.hv
      exact firstL hv' hvl p.hvs m vc) (by omega) (by
      have : (i + m) * bytes ≤ 2 ^ 21 * 64 := Nat.mul_le_mul (by omega) hb64
      unfold room; omega) (by unfold room; omega)
    have hnk : (i + m) * k ≤ nc * k := Nat.mul_le_mul_right k hle
    refine ⟨_, nc, _, hrun, .inr ⟨nc, _, e, d, rfl, hle, ?_, rfl, fun q v hq => ?_⟩⟩
    · simp only [Array.size_append, List.size_toArray, List.length_append, zc_size, hT.zk, hct, hvl]
      have e2 : (nc - (i + m)) * k = nc * k - (i + m) * k := Nat.sub_mul ..
      omega
    · rw [hcd, List.append_nil] at hq
      have hql : q < (cs.take (i * k) ++ vs).length := by
        rcases Nat.lt_or_ge q (cs.take (i * k) ++ vs).length with h | h
        · exact h
        · rw [List.getElem?_eq_none h] at hq; cases hq
      rw [Array.getElem?_append_left (by simpa using hql), List.getElem?_toArray]
      exact hq
end
end GL
