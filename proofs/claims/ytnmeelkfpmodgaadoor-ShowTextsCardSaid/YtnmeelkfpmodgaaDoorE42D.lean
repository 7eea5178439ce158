/- Numerals: the document's digits are the library's. -/
import Derived.Test.YtnmeelkfpmodgaaDoorSb
import Derived.Test.YtnmeelkfpmodgaaDoorLp
set_option linter.unusedVariables false
set_option linter.unusedSimpArgs false
namespace Go.Proofs.YtnmeelkfpmodgaaDoor
open Go.RowKit
theorem sub_dig {n : Nat} (h : n < 10) : sub ([48, 49, 50, 51, 52, 53, 54, 55, 56, 57] : List UInt8) (n : Int) ((n + 1 : Nat) : Int) = some [UInt8.ofNat (48 + n)] := by
  rw [sub_one _ n (by simp; omega)]
  congr 1
  have : ∀ n : Fin 10, [([48, 49, 50, 51, 52, 53, 54, 55, 56, 57] : List UInt8)[n.val]'(by simp)] = [UInt8.ofNat (48 + n.val)] := by decide +kernel
  exact this ⟨n, h⟩
theorem decDigits_le (k : Nat) : ∀ n : Nat, n < 10 ^ (k + 1) → (Lib.decDigits n).length ≤ k + 1 := by
  induction k with
  | zero => intro n hn; rw [Lib.decDigits, dif_pos (by omega)]; simp
  | succ k ih =>
    intro n hn
    rw [Lib.decDigits]
    split
    · simp
    · have := ih (n / 10) (by rw [Nat.pow_succ] at hn; omega)
      simp; omega
theorem dig_nat : ∀ (k n Fu : Nat), n < 10 ^ (k + 1) → n ≤ 10000000000000000000 → k < Fu → chatelaineref42_Digits Fu (n : Int) = some (Lib.decDigits n)
  | 0, n, Fu + 1, hn, hb, hF => by
    rw [chatelaineref42_Digits, if_neg (by omega), if_neg (by omega), if_pos (by omega), w64_of (by omega), show ((n : Int) + 1) = ((n + 1 : Nat) : Int) by omega, sub_dig (by omega), Lib.decDigits_one (by omega)]; rfl
  | k + 1, n, Fu + 1, hn, hb, hF => by
    by_cases h : n < 10
    · rw [chatelaineref42_Digits, if_neg (by omega), if_neg (by omega), if_pos (by omega), w64_of (by omega), show ((n : Int) + 1) = ((n + 1 : Nat) : Int) by omega, sub_dig h, Lib.decDigits_one h]; rfl
    · have e1 : Int.tdiv (n : Int) 10 = ((n / 10 : Nat) : Int) := by rw [show (10 : Int) = ((10 : Nat) : Int) from rfl, ← Int.ofNat_tdiv]
      have e2 : Int.tmod (n : Int) 10 = ((n % 10 : Nat) : Int) := by rw [show (10 : Int) = ((10 : Nat) : Int) from rfl, ← Int.ofNat_tmod]
      rw [chatelaineref42_Digits, if_neg (by omega), if_neg (by omega), if_neg (by omega), e1, e2, w64_of (by omega), dig_nat k (n / 10) Fu (by rw [Nat.pow_succ] at hn; omega) (by omega) (by omega)]
      simp only [Option.bind_some]
      rw [w64_of (by omega), show (((n % 10 : Nat) : Int) + 1) = ((n % 10 + 1 : Nat) : Int) by omega, sub_dig (by omega)]
      simp only [Option.bind_some]
      have hl := decDigits_le 20 (n / 10) (by omega)
      rw [sapp_k _ _ (by simp; omega)]
      simp only [Option.bind_some]
      congr 1
      conv => rhs; rw [Lib.decDigits]
      rw [dif_neg h]
theorem dig_min : Lib.itoa (-9223372036854775808) = ([45, 57, 50, 50, 51, 51, 55, 50, 48, 51, 54, 56, 53, 52, 55, 55, 53, 56, 48, 56] : List UInt8) := by
  have h1 := dig_nat 18 9223372036854775808 30 (by decide) (by decide) (by decide)
  have h2 : chatelaineref42_Digits 30 ((9223372036854775808 : Nat) : Int) = some ([57, 50, 50, 51, 51, 55, 50, 48, 51, 54, 56, 53, 52, 55, 55, 53, 56, 48, 56] : List UInt8) := by decide +kernel
  rw [h2] at h1
  have := Option.some.inj h1
  unfold Lib.itoa
  rw [if_pos (by decide), show Int.natAbs (-9223372036854775808) = 9223372036854775808 from rfl, ← this]
theorem itoa_nat (n : Nat) : Lib.itoa (n : Int) = Lib.decDigits n := by unfold Lib.itoa; rw [if_neg (by omega)]; rfl
theorem dig_ok (Fu : Nat) (hF : 25 ≤ Fu) (n : Int) (h : r64 n) : chatelaineref42_Digits Fu n = some (Lib.itoa n) := by
  unfold r64 at h
  obtain ⟨Fu, rfl⟩ : ∃ m, Fu = m + 1 := ⟨Fu - 1, by omega⟩
  by_cases h0 : n < -9223372036854775807
  · obtain rfl : n = -9223372036854775808 := by omega
    rw [chatelaineref42_Digits, if_pos h0, dig_min]
  · by_cases h1 : n < 0
    · rw [chatelaineref42_Digits, if_neg h0, if_pos h1, w64_of (by omega), show (0 : Int) - n = ((n.natAbs : Nat) : Int) by omega, dig_nat 18 n.natAbs Fu (by omega) (by omega) (by omega)]
      simp only [Option.bind_some]
      have hl := decDigits_le 18 n.natAbs (by omega)
      rw [sapp_k _ _ (by simp; omega)]
      unfold Lib.itoa
      rw [if_pos h1]; rfl
    · rw [show n = ((n.toNat : Nat) : Int) by omega, dig_nat 18 n.toNat (Fu + 1) (by omega) (by omega) (by omega), itoa_nat]
theorem itoa_pos (n : Int) : 0 < (Lib.itoa n).length := by
  unfold Lib.itoa
  split
  · simp
  · rw [Lib.decDigits]; split <;> simp
theorem itoaC (Fu : Nat) (n : Int) : strconv_Itoa Fu n = some (Lib.itoa n) := rfl
end Go.Proofs.YtnmeelkfpmodgaaDoor
