import Derived.Lib.BitFns
import Derived.Test.YtpmpdfpgkcagnaaGlH
/- GL, a small deterministic machine: its definitions, and that its calls are calls of the program. -/
set_option linter.unusedSimpArgs false
set_option linter.unusedVariables false
/-! GL: functions of Go's library that are taken by the shelf's contracts. -/
namespace GL
open Go

/-- how many bits a number has -/
def lenE : List V → Heap → Option (V × Heap)
  | [.int .u64 n], h => if 0 ≤ n ∧ n ≤ 18446744073709551615 then some (.int .i64 (Lib.bitLen n.toNat), h) else none
  | _, _ => none
theorem lenE_some {args : List V} {h : Heap} {r : V × Heap} (hr : lenE args h = some r) : ∃ n : Int, args = [.int .u64 n] ∧ (0 ≤ n ∧ n ≤ 18446744073709551615) ∧ r = (.int .i64 (Lib.bitLen n.toNat), h) := by
  unfold lenE at hr
  split at hr
  · rename_i n
    split at hr
    · rename_i hn
      injection hr with hr
      exact ⟨n, rfl, hn, hr.symm⟩
    · cases hr
  · cases hr
theorem lenE_ok {P : Program} {fid : Nat → FuncId} {f : Nat} (hf : ∃ F, P.funcs[fid f]? = some F ∧ (F.name == "runtime.NumGoroutine") = false ∧ F.body.isNone = false)
    (hc : ∀ (x : Int) (w : World), 0 ≤ x → x ≤ 18446744073709551615 → Calls P (fid f) #[.int .u64 x] w fun e w' => e = .returned (.int .i64 (Lib.bitLen x.toNat)) ∧ w' = w) :
    CallOK P fid fun g args h => if g = f then lenE args h else none := by
  refine ⟨fun g args h v h' ρ w as hx hm ha => ?_, fun g args h v h' q blk hx hd => ?_, fun g args h v h' hx => ?_⟩
  · split at hx
    case isFalse => cases hx
    rename_i e
    subst e
    obtain ⟨n, rfl, hn, e⟩ := lenE_some hx
    injection e with e1 e2
    subst e1; subst e2
    cases ha with
    | cons h1 h2 =>
      cases h2
      cases h1
      refine ⟨hf, (hc n w hn.1 hn.2).mono ?_⟩
      rintro e w' ⟨rfl, rfl⟩
      exact ⟨_, rfl, HS.same hm (.int _ _)⟩
  · split at hx
    case isFalse => cases hx
    rename_i e
    subst e
    obtain ⟨n, rfl, hn, e⟩ := lenE_some hx
    injection e with e1 e2
    subst e1; subst e2
    exact ⟨hd, by simp [lenE, hn]⟩
  · split at hx
    case isFalse => cases hx
    obtain ⟨n, rfl, hn, e⟩ := lenE_some hx
    injection e with e1 e2
    subst e2
    exact Nat.le_refl _
theorem lenExt_ok {P : Program} {fid : Nat → FuncId} (h : CallOK P fid fun g args h => if g = 171 then lenE args h else none) {q : Nat → Option (List V → Heap → Option (V × Heap))} (hq : q = fun i => bif Nat.beq i 171 then some lenE else none) :
    ∀ f e, q f = some e → CallOK P fid fun g args h => if g = f then e args h else none := by
  subst hq
  intro f e he
  by_cases hf : f = 171
  · subst hf
    have : e = lenE := by simpa using he.symm
    subst this; exact h
  · have : Nat.beq f 171 = false := by
      cases hb : Nat.beq f 171
      · rfl
      · exact absurd (Nat.eq_of_beq_eq_true hb) hf
    simp [this] at he
end GL
