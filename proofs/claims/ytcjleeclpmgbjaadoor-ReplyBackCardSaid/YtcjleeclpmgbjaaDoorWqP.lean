/- Numbers as bytes, and bytes as numbers, the program's and the document's, told over lists (XSpec's words). -/
import Derived.Test.YtcjleeclpmgbjaaDoorWd
import Derived.Test.YtcjleeclpmgbjaaDoorSpec
import Derived.Test.YtcjleeclpmgbjaaDoorPo
set_option linter.unusedVariables false
set_option linter.unusedSimpArgs false
namespace Go.Proofs.YtcjleeclpmgbjaaDoor
open Go.RowKit
theorem v_id {x : Int} (h : -9223372036854775808 ≤ x ∧ x ≤ 9223372036854775807) : w64 x = x := w64_of h
theorem ofNat_mod (x : Nat) : UInt8.ofNat (x % 256) = UInt8.ofNat x := by apply UInt8.toNat_inj.1; simp
theorem i8_nat (x : Nat) : i8 (x : Int) = UInt8.ofNat x := by
  unfold i8
  rw [show ((x : Int) % 256).toNat = x % 256 by omega, ofNat_mod]
theorem u64I_nat {x : Nat} (h : x < 18446744073709551616) : (u64I (x : Int)).toNat = x := by
  unfold u64I
  rw [UInt64.toNat_ofNat', show ((x : Int) % 18446744073709551616).toNat = x by omega]
  exact Nat.mod_eq_of_lt h
theorem pow256 (i : Nat) : 2 ^ (8 * i) = 256 ^ i := by rw [Nat.pow_mul]
theorem shr_nat (n i : Nat) (h : i ≤ 8) : i64_shr (n : Int) (8 * i) = ((n / 256 ^ i : Nat) : Int) := by
  unfold i64_shr
  rw [Nat.min_eq_left (by omega), show ((2 : Int) ^ (8 * i)) = ((2 ^ (8 * i) : Nat) : Int) by simp, ← Int.natCast_ediv, pow256]
theorem pPut_l0 (Fu n s : Nat) (hs : s ≤ 8) : ∀ d k i, i + d = s → d < k → word_Put_l0 Fu (n : Int) (s : Int) k (s : Int) (i : Int) (List.replicate (s - i) 0 ++ be i n) = some (be s n) := by
  intro d
  induction d with
  | zero =>
    intro k i hi hk
    obtain ⟨k, rfl⟩ : ∃ m, k = m + 1 := ⟨k - 1, by omega⟩
    rw [word_Put_l0, if_neg (by omega), show i = s by omega, Nat.sub_self]; rfl
  | succ d ih =>
    intro k i hi hk
    obtain ⟨k, rfl⟩ : ∃ m, k = m + 1 := ⟨k - 1, by omega⟩
    have hl : (List.replicate (s - i) (0 : UInt8) ++ be i n).length = s := by simp [be_length]; omega
    rw [word_Put_l0, if_pos (by omega), v_id (x := (s : Int) - 1) (by omega), v_id (x := (s : Int) - 1 - i) (by omega), hl, show ((s : Int) - 1 - i) = ((s - 1 - i : Nat) : Int) by omega, ix_nat (by omega)]
    simp only [Option.bind_some]
    rw [v_id (x := (i : Int) + 1) (by omega), v_id (x := 8 * (i : Int)) (by omega), show (8 * (i : Int)) = ((8 * i : Nat) : Int) by omega, u64I_nat (by omega), shr_nat n i (by omega), i8_nat]
    have := ih k (i + 1) (by omega) (by omega)
    rw [← this]
    congr 1
    obtain ⟨q, hq⟩ : ∃ q, s - i = q + 1 := ⟨s - i - 1, by omega⟩
    rw [hq, show s - (i + 1) = q by omega, show s - 1 - i = q by omega, List.replicate_succ', List.append_assoc, List.set_append_right _ _ (by simp)]
    simp [be]
theorem pPut (Fu : Nat) (hF : 20 ≤ Fu) (n s : Int) : word_Put Fu n s = some (putL n s, putE n s) := by
  unfold word_Put
  by_cases h1 : ((((decide (s < 1)) || (decide (8 < s))) || (decide (n < 0))) || (decide (4611686018427387904 < n))) = true
  · have hm : mayPut n s = false := by
      apply Bool.eq_false_iff.2
      intro h
      obtain ⟨h2, h3, h4, h5, _⟩ := (mayPut_iff n s).1 h
      simp at h1; omega
    rw [h1, putL_bad hm, putE_bad hm]; rfl
  · simp at h1
    obtain ⟨m, rfl⟩ : ∃ m : Nat, n = (m : Int) := ⟨n.toNat, by omega⟩
    obtain ⟨t, rfl⟩ : ∃ m : Nat, s = (m : Int) := ⟨s.toNat, by omega⟩
    rw [show ((((decide ((t : Int) < 1)) || (decide (8 < (t : Int)))) || (decide ((m : Int) < 0))) || (decide (4611686018427387904 < (m : Int)))) = false by simp; omega]
    rw [v_id (x := 8 * (t : Int)) (by omega), show (8 * (t : Int)) = ((8 * t : Nat) : Int) by omega, u64I_nat (by omega), shr_nat m t (by omega)]
    have hdiv : m / 256 ^ t = 0 ↔ m < 256 ^ t := Nat.div_eq_zero_iff_lt (Nat.pow_pos (by decide))
    by_cases h2 : t < 8 ∧ ¬ m < 256 ^ t
    · have hm : mayPut (m : Int) (t : Int) = false := by
        apply Bool.eq_false_iff.2
        intro h
        have := mayPut_lt h
        simp at this
        exact h2.2 this
      rw [if_pos (by
        have h9 : m / 256 ^ t ≠ 0 := fun e => h2.2 (hdiv.1 e)
        have h10 := h2.1
        clear hdiv h2 hm
        generalize m / 256 ^ t = e at *
        simp; omega), putL_bad hm, putE_bad hm]
    · have hm : mayPut (m : Int) (t : Int) = true := by
        rw [mayPut_iff]
        refine ⟨by omega, by omega, by omega, by omega, ?_⟩
        by_cases h8 : t = 8
        · left; omega
        · right
          have : m < 256 ^ t := by
            apply Decidable.byContradiction; intro hh; exact h2 ⟨by omega, hh⟩
          rw [show (256 : Int) ^ ((t : Int).toNat) = ((256 ^ t : Nat) : Int) by simp]
          omega
      rw [if_neg (by
        by_cases h8 : t < 8
        · have : m / 256 ^ t = 0 := hdiv.2 (by apply Decidable.byContradiction; intro hh; exact h2 ⟨h8, hh⟩)
          simp [this]
        · simp; omega)]
      rw [putL_good hm, putE_good hm, show mkN 1 (t : Int) = some t by unfold mkN maxLen; rw [if_pos (by omega)]; rfl]
      simp only [Option.bind_some]
      have := pPut_l0 Fu m t (by omega) t Fu 0 (by omega) (by omega)
      rw [Nat.sub_zero, show be 0 m = [] from rfl, List.append_nil] at this
      rw [List.length_replicate, show (0 : Int) = ((0 : Nat) : Int) from rfl, this]; rfl
/-! the document's -/
end Go.Proofs.YtcjleeclpmgbjaaDoor
