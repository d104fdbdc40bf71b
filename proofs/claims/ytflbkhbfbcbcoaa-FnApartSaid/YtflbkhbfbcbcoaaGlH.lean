import Derived.Below
import Derived.Test.YtflbkhbfbcbcoaaGlG
/- GL, a small deterministic machine: its definitions, and that its calls are calls of the program. -/
set_option linter.unusedSimpArgs false
set_option linter.unusedVariables false
set_option linter.unnecessarySimpa false
/-! GL: a law's call, from the rows that come in. -/
namespace GL
open Go
variable {P : Program} {fid : Nat → FuncId} {w : World}

/-- a slice of bytes that came in -/
def RowB (w : World) (a : Option Addr) (len cap : Nat) (zs : List Int) : Prop :=
  (a = none ∧ len = 0 ∧ cap = 0 ∧ zs = []) ∨
  ∃ x, a = some x ∧ len ≤ cap ∧ cap ≤ maxLen ∧ zs.length = cap ∧ (∀ i, i < zs.length → w.cell? (x.add i) = some (.int .u8 (zs.getD i 0))) ∧ ∀ n ∈ zs, (Lit.int .u8 n).wf = true

/-- a block that is only read, as it lies in memory -/
def Side (w : World) (s : Blk × Option At) : Prop :=
  s.1.st ≠ .own ∧ (s.1.st ≠ .dead → allCell s.1.cells = true ∧ ∃ a, s.2 = some a ∧ a.cb < w.heap.size ∧ ∀ (i : Nat) (v : V), s.1.cells[i]? = some v → ∃ x, w.cell? ⟨a.cb, a.co + i, none⟩ = some x ∧ ∀ (fid : Nat → FuncId) (ρ : Rho), RV fid ρ v x)

def sideR (ss : List (Blk × Option At)) : Rho := fun b => (ss[b]?).bind (·.2)
def sideH (ss : List (Blk × Option At)) : Heap := ss.map (·.1)

theorem sideH_get {ss : List (Blk × Option At)} {b : Nat} {blk : Blk} (h : (sideH ss)[b]? = some blk) : ∃ s, ss[b]? = some s ∧ s.1 = blk := by
  simp only [sideH, List.getElem?_map] at h
  cases hs : ss[b]? with
  | none => rw [hs] at h; cases h
  | some s => rw [hs] at h; exact ⟨s, rfl, by simpa using h⟩

theorem RM.sides {ss : List (Blk × Option At)} (hs : ∀ s ∈ ss, Side w s) : RM fid (sideR ss) (sideH ss) w := by
  have key : ∀ {b : Nat} {blk : Blk}, (sideH ss)[b]? = some blk → ∃ s, ss[b]? = some s ∧ s.1 = blk ∧ Side w s := fun h => by
    obtain ⟨s, h1, h2⟩ := sideH_get h
    exact ⟨s, h1, h2, hs s (List.mem_of_getElem? h1)⟩
  refine ⟨fun b hb => ?_, fun b blk hb hl => ?_, fun b blk a hb ha hl => ?_, fun b blk a i v hb ha hl hv => ?_, fun b blk hb hl => ?_, fun b blk a hb _ ho => ?_, fun b b' blk blk' a a' _ hb _ _ _ ho _ => ?_⟩
  · simp only [sideR]
    rw [List.getElem?_eq_none (by simpa [sideH] using hb)]; rfl
  · obtain ⟨s, h1, rfl, h2⟩ := key hb
    obtain ⟨_, a, ha, _⟩ := h2.2 hl
    exact ⟨a, by simp [sideR, h1, ha]⟩
  · obtain ⟨s, h1, rfl, h2⟩ := key hb
    obtain ⟨_, a', ha', h3, _⟩ := h2.2 hl
    have : a = a' := by simp [sideR, h1, ha'] at ha; exact ha.symm
    subst this; exact h3
  · obtain ⟨s, h1, rfl, h2⟩ := key hb
    obtain ⟨_, a', ha', _, h3⟩ := h2.2 hl
    have : a = a' := by simp [sideR, h1, ha'] at ha; exact ha.symm
    subst this
    obtain ⟨x, hx, hr⟩ := h3 i v hv
    exact ⟨x, hx, hr _ _⟩
  · obtain ⟨s, h1, rfl, h2⟩ := key hb
    exact (h2.2 hl).1
  · obtain ⟨s, h1, rfl, h2⟩ := key hb
    exact absurd ho h2.1
  · obtain ⟨s, h1, rfl, h2⟩ := key hb
    exact absurd ho h2.1

theorem sides_below {ss : List (Blk × Option At)} (hs : ∀ s ∈ ss, Side w s) {w' : World} (hf : Fr (Owned (sideR ss) (sideH ss)) w w') : RowKit.Below w.heap.size w w' :=
  ⟨hf.os, hf.tape, hf.output, hf.size, fun k hk => hf.block k hk fun ⟨b, blk, a, hb, ho, _, _⟩ => by
    obtain ⟨s, h1, rfl⟩ := sideH_get hb
    exact (hs s (List.mem_of_getElem? h1)).1 ho⟩

theorem wf_byte {n : Int} (h : (Lit.int .u8 n).wf = true) : ∃ b : Byte, (b.n : Int) = n := by
  simp only [Lit.wf, IntKind.min, IntKind.max, Bool.and_eq_true] at h
  have h1 : 0 ≤ n ∧ n ≤ 255 := by
    obtain ⟨h1, h2⟩ := h
    constructor
    · simpa [IntKind.signed] using h1
    · have : n ≤ 2 ^ 8 - 1 := by simpa [IntKind.signed, IntKind.bits] using h2
      omega
  exact ⟨⟨n.toNat, by omega⟩, by show ((n.toNat : Nat) : Int) = n; omega⟩

theorem bytes_of {zs : List Int} (h : ∀ n ∈ zs, (Lit.int .u8 n).wf = true) : ∃ bs : List Byte, bs.length = zs.length ∧ ∀ i (hi : i < bs.length), (bs[i].n : Int) = zs.getD i 0 := by
  induction zs with
  | nil => exact ⟨[], rfl, fun i hi => by simp at hi⟩
  | cons z zs ih =>
    obtain ⟨b, hb⟩ := wf_byte (h z (List.mem_cons_self ..))
    obtain ⟨bs, h1, h2⟩ := ih fun n hn => h n (List.mem_cons_of_mem _ hn)
    refine ⟨b :: bs, by simp [h1], fun i hi => ?_⟩
    cases i with
    | zero => simpa using hb
    | succ i => simp at hi; simpa using h2 i hi

theorem RowB.side {a : Option Addr} {len cap : Nat} {zs : List Int} (hr : RowB w a len cap zs) (b : Nat) :
    ∃ (v : V) (s : Blk × Option At) (bs : List Byte), Side w s ∧ ∀ (h : Heap) (ρ : Rho) (fid : Nat → FuncId), h[b]? = some s.1 → ρ b = s.2 → Sl h v bs ∧ RV fid ρ v (.slice a len cap) := by
  rcases hr with ⟨rfl, rfl, rfl, rfl⟩ | ⟨x, rfl, hlc, hcap, hz, hcell, hwf⟩
  · exact ⟨.nils, (deadBlk, none), [], ⟨by simp [deadBlk], fun h => absurd rfl h⟩, fun h ρ fid _ _ => ⟨Sl.nil, .nils⟩⟩
  · by_cases h0 : cap = 0
    · subst h0
      have : len = 0 := by omega
      subst this
      refine ⟨.slice b 0 0 (.k 0), (deadBlk, some ⟨0, 0, 0⟩), [], ⟨by simp [deadBlk], fun h => absurd rfl h⟩, fun h ρ fid _ hρ => ⟨⟨by simp, .inr ⟨b, 0, _, rfl, .inl rfl⟩⟩, ?_⟩⟩
      exact .slice hρ (Nat.le_refl _) (fun c0 h => by cases h; rfl) (fun k h => by cases h) (fun h => absurd rfl h)
    · obtain ⟨bs, hb1, hb2⟩ := bytes_of hwf
      obtain ⟨bk, off, spot⟩ := x
      have hc0 := hcell 0 (by omega)
      have hspot : spot = none ∧ bk < w.heap.size := by
        simp only [Addr.add, if_true, World.cell?] at hc0
        split at hc0
        · rename_i cs T fr hob
          have hlt := lt_heap hob
          split at hc0
          · cases hc0
          · rename_i hsp
            exact ⟨by simpa using hsp, hlt⟩
        · cases hc0
      obtain ⟨rfl, hbk⟩ := hspot
      have hcell' : ∀ i, i < cap → w.cell? ⟨bk, off + i, none⟩ = some (.int .u8 (zs.getD i 0)) := fun i hi => by
        have := hcell i (by omega)
        rwa [add_mk] at this
      have hfl : ∀ (l : List Byte) (i : Nat), (flats l)[i]? = (l[i]?).map fun b => V.int .u8 b.n := by
        intro l
        induction l with
        | nil => intro i; simp [flats]
        | cons y l ih =>
          intro i
          show (Flat.cells y ++ flats l)[i]? = _
          cases i with
          | zero => rfl
          | succ i =>
            show (V.int .u8 y.n :: flats l)[i + 1]? = _
            simpa using ih i
      have hml : cap < 2 ^ 63 := by unfold maxLen at hcap; omega
      refine ⟨.slice b 0 len (.k cap), (⟨.ro, flats bs⟩, some ⟨bk, off, cap⟩), bs.take len, ⟨by simp, fun _ => ⟨flats_ok bs, ⟨bk, off, cap⟩, rfl, hbk, fun i v hv => ?_⟩⟩, fun h ρ fid hh hρ => ⟨⟨by simp; omega, .inr ⟨b, 0, .k cap, ?_, .inr ⟨⟨.ro, flats bs⟩, hh, by simp, ?_⟩⟩⟩, ?_⟩⟩
      · rw [hfl] at hv
        cases hbi : bs[i]? with
        | none => rw [hbi] at hv; cases hv
        | some y =>
          rw [hbi] at hv
          simp only [Option.map_some, Option.some.injEq] at hv
          subst hv
          have hi : i < bs.length := by
            rcases Nat.lt_or_ge i bs.length with h | h
            · exact h
            · rw [List.getElem?_eq_none h] at hbi; cases hbi
          refine ⟨_, hcell' i (by omega), fun fid ρ => ?_⟩
          have := hb2 i hi
          rw [List.getElem?_eq_getElem hi] at hbi
          cases hbi
          rw [← this]
          exact .int _ _
      · congr 1; simp; omega
      · have hl : (bs.take len).length = len := by simp; omega
        simp only [cut, hl]
        have h1 : len * Flat.sz Byte ≤ bs.length * Flat.sz Byte := Nat.mul_le_mul_right _ (by omega)
        rw [if_pos (by rw [flats_len]; omega), List.drop_zero, flats_take]
      · exact .slice hρ hlc (fun c0 h => by cases h; rfl) (fun k h => by cases h) (fun _ => rfl)

/-- the machine's functions are the program's: one by one -/
inductive AllOK (P : Program) (fid : Nat → FuncId) (eqs : List (TypeId × List (Option IntKind))) : List (Nat × Fn) → Prop
  | nil : AllOK P fid eqs []
  | cons {f : Nat} {g : Fn} {n : FuncId} {F : Func} {l : List (Nat × Fn)} : P.funcs[n]? = some F → fid f = n → fnMt P fid eqs F g = true → AllOK P fid eqs l → AllOK P fid eqs ((f, g) :: l)

theorem AllOK.fn {eqs : List (TypeId × List (Option IntKind))} : ∀ {l : List (Nat × Fn)}, AllOK P fid eqs l → ∀ (f : Nat) (g : Fn), l.lookup f = some g → ∃ F, P.funcs[fid f]? = some F ∧ fnMt P fid eqs F g = true
  | _, .nil, f, g, h => by simp at h
  | _, .cons (f := f0) h1 h2 h3 r, f, g, h => by
    simp only [List.lookup] at h
    split at h
    · rename_i he
      cases h
      have : f = f0 := by simpa using he
      subst this
      exact ⟨_, by rw [h2]; exact h1, h3⟩
    · exact r.fn f g h

/-- a law of two slices of bytes -/
theorem calls2 {eqs : List (TypeId × List (Option IntKind))} {p : Prog} (hp : ProgOK P fid eqs p) {f : Nat}
    (hw : ∀ (h : Heap) (va vb : V) (as bs : List Byte), Sl h va as → Sl h vb bs → ∃ r h', call p f [va, vb] h = some (r, h') ∧ r = .bool true)
    {a0 a1 : Option Addr} {l0 c0 l1 c1 : Nat} {z0 z1 : List Int} (w0 : RowB w a0 l0 c0 z0) (w1 : RowB w a1 l1 c1 z1) :
    Calls P (fid f) #[.slice a0 l0 c0, .slice a1 l1 c1] w fun e w' => e = .returned (.bool true) ∧ RowKit.Below w.heap.size w w' := by
  obtain ⟨v0, s0, b0, hs0, k0⟩ := w0.side 0
  obtain ⟨v1, s1, b1, hs1, k1⟩ := w1.side 1
  have hss : ∀ s ∈ [s0, s1], Side w s := by
    intro s hs
    simp at hs
    rcases hs with rfl | rfl
    · exact hs0
    · exact hs1
  have q0 := k0 (sideH [s0, s1]) (sideR [s0, s1]) fid rfl rfl
  have q1 := k1 (sideH [s0, s1]) (sideR [s0, s1]) fid rfl rfl
  obtain ⟨r, h', hc, rfl⟩ := hw _ v0 v1 b0 b1 q0.1 q1.1
  obtain ⟨n, hn⟩ := call_iff.1 hc
  have := ((callN_ok hp n).sound f [v0, v1] _ _ _ _ w _ hn (RM.sides hss) (.cons q0.2 (.cons q1.2 .nil))).2
  refine this.mono fun e w' ⟨y, he, ρ', _, _, hf, _, hv⟩ => ?_
  subst he
  cases hv
  exact ⟨rfl, sides_below hss hf⟩
end GL
