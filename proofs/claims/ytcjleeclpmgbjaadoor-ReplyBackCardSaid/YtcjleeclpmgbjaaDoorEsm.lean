/- Two lists of bytes compared. -/
import Derived.Test.YtcjleeclpmgbjaaDoorEb
set_option linter.unusedVariables false
set_option linter.unusedSimpArgs false
namespace Go.Proofs.YtcjleeclpmgbjaaDoor
open Go.RowKit
theorem same8_l0 (Fu : Nat) (a b : List UInt8) (ha : a.length < 1000000) (hab : a.length = b.length) : ∀ (d k i : Nat), i + d = a.length → d < k → chatelaineref01_Same_l0 Fu a b k i = some (if a.drop i = b.drop i then .inr () else .inl false) := by
  intro d
  induction d with
  | zero =>
    intro k i hi hk
    obtain ⟨k, rfl⟩ : ∃ m, k = m + 1 := ⟨k - 1, by omega⟩
    rw [chatelaineref01_Same_l0, if_neg (by omega), List.drop_of_length_le (by omega), List.drop_of_length_le (by omega), if_pos rfl]
  | succ d ih =>
    intro k i hi hk
    obtain ⟨k, rfl⟩ : ∃ m, k = m + 1 := ⟨k - 1, by omega⟩
    rw [chatelaineref01_Same_l0, if_pos (by omega), idx_nat, idx_nat, List.getElem?_eq_getElem (show i < a.length by omega), List.getElem?_eq_getElem (show i < b.length by omega)]
    simp only [Option.bind_some]
    rw [List.drop_eq_getElem_cons (show i < a.length by omega), List.drop_eq_getElem_cons (show i < b.length by omega)]
    have hw : w64 ((i : Int) + 1) = ((i + 1 : Nat) : Int) := by rw [w64_of (by omega)]; omega
    by_cases h : a[i]'(by omega) = b[i]'(by omega)
    · rw [if_neg (by rw [h]; simp), hw, ih k (i + 1) (by omega) (by omega)]
      simp only [h, List.cons.injEq, true_and]
    · rw [if_pos (fun e => h (UInt8.toNat_inj.1 (by omega))), if_neg (by simp only [List.cons.injEq, h, false_and, not_false_eq_true])]
theorem same8 (Fu : Nat) (a b : List UInt8) (h : a.length < Fu) (ha : a.length < 1000000) : chatelaineref01_Same Fu a b = some (decide (a = b)) := by
  unfold chatelaineref01_Same
  by_cases hl : a.length = b.length
  · rw [if_neg (by omega)]
    have := same8_l0 Fu a b ha hl a.length Fu 0 (by omega) h
    rw [show ((0 : Nat) : Int) = 0 from rfl] at this
    rw [this]
    by_cases e : a = b <;> simp [e]
  · rw [if_pos (by omega), show decide (a = b) = false from decide_eq_false (fun e => hl (by rw [e]))]
end Go.Proofs.YtcjleeclpmgbjaaDoor
