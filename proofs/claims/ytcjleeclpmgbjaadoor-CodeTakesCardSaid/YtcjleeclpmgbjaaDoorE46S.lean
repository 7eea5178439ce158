/- Groups of letters; the example. -/
import Derived.Test.YtcjleeclpmgbjaaDoorE46B
set_option linter.unusedVariables false
set_option linter.unusedSimpArgs false
namespace Go.Proofs.YtcjleeclpmgbjaaDoor
open Go.RowKit
set_option maxRecDepth 100000 in
theorem awake46 : chatelainelaw46_awake 2000 = some true := by decide +kernel
/-- pieces of n, at most f of them -/
def chs (n : Nat) : Nat → List UInt8 → List (List UInt8)
  | 0, _ => []
  | f + 1, s => if s = [] then [] else s.take n :: chs n f (s.drop n)
theorem chs_len (n : Nat) : ∀ (f : Nat) (s : List UInt8), (chs n f s).length ≤ f
  | 0, _ => by simp [chs]
  | f + 1, s => by
    rw [chs]
    split
    · simp
    · have := chs_len n f (s.drop n); simp; omega
theorem gL0 (Fu : Nat) (n : Nat) (hn : 1 ≤ n) (a2 : Int) (ha : (a2 < 1000 ∧ a2 = (n : Int)) ∨ (1000 ≤ a2 ∧ n = 1000)) : ∀ (f k : Nat) (s : List UInt8) (acc : List (List UInt8)), s.length ≤ f → s.length ≤ 400 → f < k → acc.length + f ≤ 1000 →
    code_Groups_l0 Fu a2 k s acc = some (acc ++ chs n f s) := by
  intro f
  induction f with
  | zero =>
    intro k s acc hs h4 hk hl
    obtain ⟨k, rfl⟩ : ∃ m, k = m + 1 := ⟨k - 1, by omega⟩
    obtain rfl : s = [] := List.length_eq_zero_iff.1 (by omega)
    rw [code_Groups_l0, if_neg (by simp), chs, List.append_nil]
  | succ f ih =>
    intro k s acc hs h4 hk hl
    obtain ⟨k, rfl⟩ : ∃ m, k = m + 1 := ⟨k - 1, by omega⟩
    by_cases h0 : s = []
    · subst h0
      rw [code_Groups_l0, if_neg (by simp), chs, if_pos rfl, List.append_nil]
    · have hp := List.length_pos_iff.2 h0
      have hm : mn a2 (s.length : Int) = ((min n s.length : Nat) : Int) := by unfold mn; split <;> omega
      have hc : (((decide (0 < a2)) && (!(decide (s = ([] : List UInt8))))) = true) := by simp [h0]; omega
      rw [code_Groups_l0, if_pos hc, hm]
      have e1 : sub s 0 ((min n s.length : Nat) : Int) = some (s.take n) := by
        unfold sub
        rw [if_pos (by omega)]
        simp [List.take_eq_take_iff]
      have e2 : sub s ((min n s.length : Nat) : Int) (s.length : Int) = some (s.drop n) := by
        unfold sub
        rw [if_pos (by omega)]
        rw [Int.toNat_natCast, Int.toNat_natCast, List.take_length]
        congr 1
        by_cases h : n ≤ s.length
        · rw [Nat.min_eq_left h]
        · rw [Nat.min_eq_right (by omega), List.drop_of_length_le (Nat.le_refl _), List.drop_of_length_le (by omega)]
      rw [e1]
      simp only [Option.bind_some]
      have e3 : app 16 acc [s.take n] = some (acc ++ [s.take n]) := by unfold app; rw [if_pos (by unfold maxLen; simp; omega)]
      rw [e3]
      simp only [Option.bind_some]
      rw [e2]
      simp only [Option.bind_some]
      rw [ih k (s.drop n) _ (by simp; omega) (by simp; omega) (by omega) (by simp; omega), chs, if_neg h0, List.append_assoc]; rfl
theorem chs_nil {n f : Nat} : chs n f [] = [] := by cases f <;> simp [chs]
end Go.Proofs.YtcjleeclpmgbjaaDoor
