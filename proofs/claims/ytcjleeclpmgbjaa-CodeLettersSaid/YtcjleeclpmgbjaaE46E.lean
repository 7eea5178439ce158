/- code.Bytes told over lists. -/
import Derived.Test.YtcjleeclpmgbjaaE46D
set_option linter.unusedVariables false
set_option linter.unusedSimpArgs false
namespace Go.Proofs.Ytcjleeclpmgbjaa
open Go.RowKit
/-- a letter's number -/
def lt5 (b : UInt8) : Option Nat := if 97 ≤ b.toNat ∧ b.toNat ≤ 122 then some (b.toNat - 97) else if 50 ≤ b.toNat ∧ b.toNat ≤ 55 then some (b.toNat - 50 + 26) else none
def numL : List UInt8 → Option (List Nat)
  | [] => some []
  | b :: s => match lt5 b with
    | none => none
    | some k => match numL s with
      | none => none
      | some K => some (k :: K)
def okL (b : Nat) : Bool := match lt5 (UInt8.ofNat b) with
  | some k => decide (k < 32) && decide (al k = UInt8.ofNat b) && decide (b ≤ 126) && decide (Lib.indexByte AL (u8I (b : Int)) = (k : Int))
  | none => decide (Lib.indexByte AL (u8I (b : Int)) < 0)
theorem lt_all : ∀ b : Fin 256, okL b.val = true := by decide +kernel
theorem lt_some {b : UInt8} {k : Nat} (h : lt5 b = some k) : k < 32 ∧ al k = b ∧ b.toNat ≤ 126 ∧ Lib.indexByte AL (u8I (b.toNat : Int)) = (k : Int) := by
  have := lt_all ⟨b.toNat, b.toNat_lt⟩
  unfold okL at this
  dsimp only at this
  rw [UInt8.ofNat_toNat, h] at this
  simp only [Bool.and_eq_true, decide_eq_true_eq] at this
  exact ⟨this.1.1.1, this.1.1.2, this.1.2, this.2⟩
theorem lt_none {b : UInt8} (h : lt5 b = none) : Lib.indexByte AL (u8I (b.toNat : Int)) < 0 := by
  have := lt_all ⟨b.toNat, b.toNat_lt⟩
  unfold okL at this
  dsimp only at this
  rw [UInt8.ofNat_toNat, h] at this
  simp only [Bool.and_eq_true, decide_eq_true_eq] at this
  exact this
theorem numL_al : ∀ (s : List UInt8) (K : List Nat), numL s = some K → s = K.map al ∧ ∀ k ∈ K, k < 32
  | [], K, h => by obtain rfl := Option.some.inj h; exact ⟨rfl, fun k hk => by cases hk⟩
  | b :: s, K, h => by
    rw [numL] at h
    split at h
    · cases h
    · rename_i k hk
      split at h
      · cases h
      · rename_i K' hK
        obtain rfl := Option.some.inj h
        have ih := numL_al s K' hK
        have h1 := lt_some hk
        refine ⟨by rw [List.map_cons, h1.2.1, ← ih.1], fun x hx => ?_⟩
        rcases List.mem_cons.1 hx with rfl | hx
        · exact h1.1
        · exact ih.2 x hx
theorem dec_ge (s : ByteArray) (i : Nat) (h : 128 ≤ (s.get! (i + 0)).toNat) : 128 ≤ (Utf8.decode s i).1 := by
  unfold Utf8.decode
  simp only []
  repeat' split
  all_goals (simp only [Utf8.runeError, Bool.and_eq_true, decide_eq_true_eq, ge_iff_le] at *; try omega)
end Go.Proofs.Ytcjleeclpmgbjaa
