/- The statements of layer 1, walked. -/
import Derived.Test.YtlgcfnbhnpnkiaaWord2
set_option linter.unusedVariables false
set_option linter.unusedSimpArgs false
namespace Go.Proofs.Ytlgcfnbhnpnkiaa
open Go.RowKit
theorem drewN_below (w : World) (n : Nat) : Below w.heap.size w (w.drewN n) := ⟨rfl, rfl, rfl, Nat.le_refl _, fun _ _ => rfl⟩
theorem by8_012 : by8 [0, 1, 2] = [Value.int .u8 0, Value.int .u8 1, Value.int .u8 2] := rfl
theorem back_put {n s : Int} (h : mayPut n s = true) : getE (be s.toNat n.toNat) = 0 ∧ getN (be s.toNat n.toNat) = n := by
  obtain ⟨h1, h2, h3, h4, _⟩ := (mayPut_iff n s).1 h
  have hn := num_be s.toNat n.toNat (mayPut_lt h)
  have e : getE (be s.toNat n.toNat) = 0 := getE_ok (by rw [be_length]; omega) (by rw [be_length]; omega) (by rw [hn]; omega)
  exact ⟨e, by rw [getN_ok e, hn]; omega⟩
theorem get_zero {l : List UInt8} (h : getE l = 0) : 0 < l.length ∧ l.length ≤ 8 ∧ num l ≤ 4611686018427387904 := by
  unfold getE at h
  split at h
  · omega
  split at h
  · omega
  split at h
  · omega
  omega
theorem back_get {l : List UInt8} (h : getE l = 0) : putE (getN l) l.length = 0 ∧ putL (getN l) l.length = l := by
  obtain ⟨h1, h2, h3⟩ := get_zero h
  have hlt := num_lt l
  have hp : mayPut (getN l) l.length = true := by
    rw [getN_ok h, mayPut_iff]
    refine ⟨by omega, by omega, by omega, by omega, .inr ?_⟩
    rw [Int.toNat_natCast]
    have e : ((256 ^ l.length : Nat) : Int) = (256 : Int) ^ l.length := Int.natCast_pow 256 l.length
    omega
  refine ⟨putE_good hp, ?_⟩
  rw [putL_good hp, getN_ok h]
  simp only [Int.toNat_natCast]
  exact be_num l
theorem getN_range (l : List UInt8) : 0 ≤ getN l ∧ getN l ≤ 4611686018427387904 := by
  unfold getN
  split
  · rename_i h; have := get_zero h; omega
  · omega
end Go.Proofs.Ytlgcfnbhnpnkiaa
