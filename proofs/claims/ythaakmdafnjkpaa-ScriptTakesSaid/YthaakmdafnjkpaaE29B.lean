/- Ops held against ops (what the scripts need of ops). -/
import Derived.Test.YthaakmdafnjkpaaOp
import Derived.Test.YthaakmdafnjkpaaOr
import Derived.Test.YthaakmdafnjkpaaE29A
set_option linter.unusedVariables false
set_option linter.unusedSimpArgs false
namespace Go.Proofs.Ythaakmdafnjkpaa
open Go.RowKit
abbrev OpT := Int × Int × Int × Int × Int × (List UInt8) × (List UInt8)
theorem some_dec {x : Option Bool} {p : Prop} [Decidable p] (h : ∃ v, x = some v ∧ (v = true ↔ p)) : x = some (decide p) := by
  obtain ⟨v, rfl, h⟩ := h
  rw [Option.some.injEq, Bool.eq_iff_iff, h, decide_eq_true_eq]
theorem may4 {n : Int} (h : 0 ≤ n ∧ n ≤ 4096) : mayPut n 4 = true := (mayPut_iff n 4).2 ⟨by decide, by decide, h.1, by omega, .inr (by show n < 4294967296; omega)⟩
def rdE (s : FSt) : Int := if s.1 = 0 then (if 0 < s.2.length then 13 else 0) else s.1
instance dq2 : DecidableEq (List UInt8 × List UInt8) := fun a b => instDecidableEqProd a b
instance dq3 : DecidableEq (Int × List UInt8 × List UInt8) := fun a b => instDecidableEqProd a b
instance dq4 : DecidableEq (Int × Int × List UInt8 × List UInt8) := fun a b => instDecidableEqProd a b
instance dq5 : DecidableEq (Int × Int × Int × List UInt8 × List UInt8) := fun a b => instDecidableEqProd a b
instance dq6 : DecidableEq (Int × Int × Int × Int × List UInt8 × List UInt8) := fun a b => instDecidableEqProd a b
instance dq7 : DecidableEq OpT := fun a b => instDecidableEqProd a b
theorem pSame (Fu : Nat) (a b : OpT) : op_Same Fu a b = some (decide (a = b)) := by
  obtain ⟨k, t, s, n, m, c, d⟩ := a
  obtain ⟨k', t', s', n', m', c', d'⟩ := b
  unfold op_Same bytes_Equal
  by_cases h1 : k = k' <;> by_cases h2 : t = t' <;> by_cases h3 : s = s' <;> by_cases h4 : n = n' <;> by_cases h5 : m = m' <;> by_cases h6 : c = c' <;> simp [h1, h2, h3, h4, h5, h6]
theorem rSame29 (Fu : Nat) (a b : OpT) (h1 : a.2.2.2.2.2.1.length < Fu) (h2 : a.2.2.2.2.2.2.length < Fu) (h3 : a.2.2.2.2.2.1.length < 1000000) (h4 : a.2.2.2.2.2.2.length < 1000000) : chatelaineref29_Same Fu a b = some (decide (a = b)) := by
  unfold chatelaineref29_Same
  rw [same8 Fu _ _ h1 h3, same8 Fu _ _ h2 h4]
  obtain ⟨k, t, s, n, m, c, d⟩ := a
  obtain ⟨k', t', s', n', m', c', d'⟩ := b
  by_cases h1 : k = k' <;> by_cases h2 : t = t' <;> by_cases h3 : s = s' <;> by_cases h4 : n = n' <;> by_cases h5 : m = m' <;> by_cases h6 : c = c' <;> simp [h1, h2, h3, h4, h5, h6]
end Go.Proofs.Ythaakmdafnjkpaa
