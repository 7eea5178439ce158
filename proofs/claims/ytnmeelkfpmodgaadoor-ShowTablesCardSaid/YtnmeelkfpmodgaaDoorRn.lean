/- Runes of bytes that are no letters of seven bits. -/
import Derived.Test.YtnmeelkfpmodgaaDoorRg
set_option linter.unusedVariables false
set_option linter.unusedSimpArgs false
namespace Go.Proofs.YtnmeelkfpmodgaaDoor
open Go.RowKit
theorem decU_ge (s : ByteArray) (i : Nat) (h : 128 ≤ (s.get! (i + 0)).toNat) : 128 ≤ (Utf8.decode s i).1 := by
  unfold Utf8.decode
  simp only []
  repeat' split
  all_goals (simp only [Utf8.runeError, Bool.and_eq_true, decide_eq_true_eq, ge_iff_le] at *; try omega)
theorem rnx_hi {s : List UInt8} {i : Nat} (hi : i < s.length) (h : 128 ≤ s[i].toNat) : ∃ y : Int × Nat, rnx s i = .inr y ∧ 126 < y.1 := by
  unfold rnx
  rw [if_pos hi]
  refine ⟨_, rfl, ?_⟩
  have e : (sb s).get! (i + 0) = s[i] := by
    show (sb s).data[i]! = s[i]
    simp [sb, hi]
  have := decU_ge (sb s) i (by rw [e]; exact h)
  dsimp only
  omega
theorem rnx_end {s : List UInt8} {i : Nat} (hi : s.length ≤ i) : ∃ u, rnx s i = .inl u := by
  unfold rnx
  rw [if_neg (by omega)]
  exact ⟨_, rfl⟩
end Go.Proofs.YtnmeelkfpmodgaaDoor
