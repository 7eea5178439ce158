/- The document's bytes of letters, told over lists. -/
import Derived.Test.YtcjleeclpmgbjaaE46F
set_option linter.unusedVariables false
set_option linter.unusedSimpArgs false
namespace Go.Proofs.Ytcjleeclpmgbjaa
open Go.RowKit
def okR (b : Nat) : Bool := match lt5 (UInt8.ofNat b) with
  | some k => decide (chatelaineref46_letter 0 (UInt8.ofNat b) = some (k : Int)) && decide ([w64 (Int.tdiv (k : Int) 16), Int.tmod (w64 (Int.tdiv (k : Int) 8)) 2, Int.tmod (w64 (Int.tdiv (k : Int) 4)) 2, Int.tmod (w64 (Int.tdiv (k : Int) 2)) 2, Int.tmod (k : Int) 2] = mI (bD k 5))
  | none => decide (chatelaineref46_letter 0 (UInt8.ofNat b) = some (-1))
theorem okR_all : ∀ b : Fin 256, okR b.val = true := by decide +kernel
theorem let_some (Fu : Nat) {b : UInt8} {k : Nat} (h : lt5 b = some k) : chatelaineref46_letter Fu b = some (k : Int) ∧ [w64 (Int.tdiv (k : Int) 16), Int.tmod (w64 (Int.tdiv (k : Int) 8)) 2, Int.tmod (w64 (Int.tdiv (k : Int) 4)) 2, Int.tmod (w64 (Int.tdiv (k : Int) 2)) 2, Int.tmod (k : Int) 2] = mI (bD k 5) := by
  have := okR_all ⟨b.toNat, b.toNat_lt⟩
  unfold okR at this
  dsimp only at this
  rw [UInt8.ofNat_toNat, h] at this
  simp only [Bool.and_eq_true, decide_eq_true_eq] at this
  exact this
theorem let_none (Fu : Nat) {b : UInt8} (h : lt5 b = none) : chatelaineref46_letter Fu b = some (-1) := by
  have := okR_all ⟨b.toNat, b.toNat_lt⟩
  unfold okR at this
  dsimp only at this
  rw [UInt8.ofNat_toNat, h] at this
  simp only [decide_eq_true_eq] at this
  exact this
theorem rB0 (Fu : Nat) (s : List UInt8) (hs : s.length ≤ 1000) : ∀ (d i k : Nat) (acc : List Nat), i + d = s.length → d < k → acc.length ≤ 5 * i →
    chatelaineref46_Bytes_l0 Fu s k (mI acc) (i : Int) = some (match numL (s.drop i) with | some K => .inr (mI (acc ++ kB K)) | none => .inl ([], false)) := by
  intro d
  induction d with
  | zero =>
    intro i k acc hi hk ha
    obtain ⟨k, rfl⟩ : ∃ m, k = m + 1 := ⟨k - 1, by omega⟩
    rw [chatelaineref46_Bytes_l0, if_neg (by omega), List.drop_of_length_le (by omega)]; simp [numL, kB]
  | succ d ih =>
    intro i k acc hi hk ha
    obtain ⟨k, rfl⟩ : ∃ m, k = m + 1 := ⟨k - 1, by omega⟩
    have hlt : i < s.length := by omega
    rw [chatelaineref46_Bytes_l0, if_pos (by omega), idx_nat, List.getElem?_eq_getElem hlt, List.drop_eq_getElem_cons hlt, numL]
    simp only [Option.bind_some]
    cases hl : lt5 s[i] with
    | none =>
      rw [let_none Fu hl]
      simp only [Option.bind_some]
      rw [if_pos (by decide)]
    | some q =>
      have hq := let_some Fu hl
      rw [hq.1]
      simp only [Option.bind_some]
      rw [if_neg (by omega), hq.2, app8 _ _ (by rw [mI_len, mI_len, bD_len]; omega)]
      simp only [Option.bind_some]
      rw [← mI_app, w_id (by omega), show ((i : Int) + 1) = ((i + 1 : Nat) : Int) by omega, ih (i + 1) k _ (by omega) (by omega) (by rw [List.length_append, bD_len]; omega)]
      cases numL (s.drop (i + 1)) with
      | none => rfl
      | some K => dsimp only; rw [kB_cons, List.append_assoc]
end Go.Proofs.Ytcjleeclpmgbjaa
