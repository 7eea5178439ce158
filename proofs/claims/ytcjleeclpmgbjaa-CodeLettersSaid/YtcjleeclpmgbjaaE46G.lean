/- Groups of letters; the example. -/
import Derived.Test.YtcjleeclpmgbjaaE46A
set_option linter.unusedVariables false
set_option linter.unusedSimpArgs false
namespace Go.Proofs.Ytcjleeclpmgbjaa
open Go.RowKit
set_option maxRecDepth 100000 in
theorem awake46 : chatelainelaw46_awake 2000 = some true := by decide +kernel
/-- pieces of n, at most f of them -/
def chs (n : Nat) : Nat → List UInt8 → List (List UInt8)
  | 0, _ => []
  | f + 1, s => if s = [] then [] else s.take n :: chs n f (s.drop n)
theorem chs_len (n : Nat) : ∀ (f : Nat) (s : List UInt8), (chs n f s).length ≤ f
  | 0, _ => by simp [chs]
  | f + 1, s => by
    rw [chs]
    split
    · simp
    · have := chs_len n f (s.drop n); simp; omega
theorem gL0 (Fu : Nat) (n : Nat) (hn : 1 ≤ n) (a2 : Int) (ha : (a2 < 1000 ∧ a2 = (n : Int)) ∨ (1000 ≤ a2 ∧ n = 1000)) : ∀ (f k : Nat) (s : List UInt8) (acc : List (List UInt8)), s.length ≤ f → s.length ≤ 400 → f < k → acc.length + f ≤ 1000 →
    code_Groups_l0 Fu a2 k s acc = some (acc ++ chs n f s) := by
  intro f
  induction f with
  | zero =>
    intro k s acc hs h4 hk hl
    obtain ⟨k, rfl⟩ : ∃ m, k = m + 1 := ⟨k - 1, by omega⟩
    obtain rfl : s = [] := List.length_eq_zero_iff.1 (by omega)
    rw [code_Groups_l0, if_neg (by simp), chs, List.append_nil]
  | succ f ih =>
    intro k s acc hs h4 hk hl
    obtain ⟨k, rfl⟩ : ∃ m, k = m + 1 := ⟨k - 1, by omega⟩
    by_cases h0 : s = []
    · subst h0
      rw [code_Groups_l0, if_neg (by simp), chs, if_pos rfl, List.append_nil]
    · have hp := List.length_pos_iff.2 h0
      have hm : mn a2 (s.length : Int) = ((min n s.length : Nat) : Int) := by unfold mn; split <;> omega
      have hc : (((decide (0 < a2)) && (!(decide (s = ([] : List UInt8))))) = true) := by simp [h0]; omega
      rw [code_Groups_l0, if_pos hc, hm]
      have e1 : sub s 0 ((min n s.length : Nat) : Int) = some (s.take n) := by
        unfold sub
        rw [if_pos (by omega)]
        simp [List.take_eq_take_iff]
      have e2 : sub s ((min n s.length : Nat) : Int) (s.length : Int) = some (s.drop n) := by
        unfold sub
        rw [if_pos (by omega)]
        rw [Int.toNat_natCast, Int.toNat_natCast, List.take_length]
        congr 1
        by_cases h : n ≤ s.length
        · rw [Nat.min_eq_left h]
        · rw [Nat.min_eq_right (by omega), List.drop_of_length_le (Nat.le_refl _), List.drop_of_length_le (by omega)]
      rw [e1]
      simp only [Option.bind_some]
      have e3 : app 16 acc [s.take n] = some (acc ++ [s.take n]) := by unfold app; rw [if_pos (by unfold maxLen; simp; omega)]
      rw [e3]
      simp only [Option.bind_some]
      rw [e2]
      simp only [Option.bind_some]
      rw [ih k (s.drop n) _ (by simp; omega) (by simp; omega) (by omega) (by simp; omega), chs, if_neg h0, List.append_assoc]; rfl
theorem chs_nil {n f : Nat} : chs n f [] = [] := by cases f <;> simp [chs]
theorem gLaw (Fu : Nat) (n : Nat) (hn : 1 ≤ n) (a2 : Int) (ha : (a2 < 1000 ∧ a2 = (n : Int)) ∨ (1000 ≤ a2 ∧ n = 1000)) (L : List (List UInt8)) (hL : L.length ≤ 1000) : ∀ (f i k : Nat) (t acc : List UInt8), L.drop i = chs n f t → t.length ≤ f → t.length ≤ 400 → f < k → acc.length ≤ 1000 + i * 1000 → i ≤ L.length →
    chatelainelaw46_CodeLetters_l0 Fu a2 L k acc (i : Int) = some (.inr (acc ++ t)) := by
  intro f
  induction f with
  | zero =>
    intro i k t acc hd ht h4 hk hac hi
    obtain ⟨k, rfl⟩ : ∃ m, k = m + 1 := ⟨k - 1, by omega⟩
    obtain rfl : t = [] := List.length_eq_zero_iff.1 (by omega)
    rw [chs] at hd
    have := List.drop_eq_nil_iff.1 hd
    rw [chatelainelaw46_CodeLetters_l0, if_neg (by omega), List.append_nil]
  | succ f ih =>
    intro i k t acc hd ht h4 hk hac hi
    obtain ⟨k, rfl⟩ : ∃ m, k = m + 1 := ⟨k - 1, by omega⟩
    by_cases h0 : t = []
    · subst h0
      rw [chs_nil] at hd
      have := List.drop_eq_nil_iff.1 hd
      rw [chatelainelaw46_CodeLetters_l0, if_neg (by omega), List.append_nil]
    · have hp := List.length_pos_iff.2 h0
      rw [chs, if_neg h0] at hd
      have hlt : i < L.length := by
        apply Decidable.byContradiction
        intro hh
        rw [List.drop_of_length_le (by omega)] at hd
        cases hd
      rw [List.drop_eq_getElem_cons hlt] at hd
      obtain ⟨hd1, hd2⟩ := List.cons.inj hd
      have hl1 : (t.take n).length = min n t.length := List.length_take ..
      have hcond : ((((decide (((t.take n).length : Int) = 0)) || (decide (a2 < ((t.take n).length : Int)))) || ((decide ((i : Int) < w64 ((L.length : Int) - 1))) && (decide (((t.take n).length : Int) ≠ a2)))) = true) → False := by
        intro h
        rw [w_id (by omega)] at h
        simp only [Bool.or_eq_true, Bool.and_eq_true, decide_eq_true_eq] at h
        rcases h with (h | h) | ⟨h, h'⟩
        · omega
        · omega
        · have hne : t.drop n ≠ [] := by
            intro hh
            rw [hh, chs_nil] at hd2
            have := List.drop_eq_nil_iff.1 hd2
            omega
          have : n < t.length := by
            apply Decidable.byContradiction
            intro hh
            exact hne (List.drop_eq_nil_iff.2 (by omega))
          omega
      rw [chatelainelaw46_CodeLetters_l0, if_pos (by omega), ix_nat hlt]
      simp only [Option.bind_some]
      rw [List.getElem?_eq_getElem hlt, hd1]
      simp only [Option.bind_some]
      rw [if_neg hcond]
      unfold sapp
      rw [if_pos (by unfold maxLen; omega)]
      simp only [Option.bind_some]
      rw [w_id (by omega), show ((i : Int) + 1) = ((i + 1 : Nat) : Int) by omega, ih (i + 1) k (t.drop n) _ hd2 (by simp; omega) (by simp; omega) (by omega) (by simp; omega) (by omega), List.append_assoc, List.take_append_drop]
end Go.Proofs.Ytcjleeclpmgbjaa
