/- Whole numbers of all kinds: sums, bits, shifts, conversions (printed by genpi.py). -/
import Derived.Test.YtcjleeclpmgbjaaDoorPm
import Derived.Laws.BitsAllLaws
set_option linter.unusedVariables false
set_option linter.unusedSimpArgs false
namespace Go.Proofs.YtcjleeclpmgbjaaDoor
open Go.RowKit
theorem u8_lt (x : UInt8) : x.toNat < 256 := x.toNat_lt
theorem u8_w (n : Nat) (h : n < 256) : IntKind.u8.wrap (n : Int) = (n : Int) := by rw [IntKind.wrap_u8]; omega
theorem u8_bv (x : UInt8) : BitVec.ofInt 8 (x.toNat : Int) = x.toBitVec := by apply BitVec.eq_of_toNat_eq; rw [BitVec.ofInt_natCast, BitVec.toNat_ofNat]; exact Nat.mod_eq_of_lt x.toNat_lt
theorem u8_and_ (x y : UInt8) : bits .and .u8 (x.toNat : Int) (y.toNat : Int) = ((x &&& y).toNat : Int) := by
  show IntKind.u8.wrap ((BitVec.ofInt 8 (x.toNat : Int) &&& BitVec.ofInt 8 (y.toNat : Int)).toNat : Int) = _
  rw [u8_bv, u8_bv]; exact u8_w _ (x &&& y).toNat_lt
def u8_shr (x : UInt8) (n : Nat) : UInt8 := UInt8.ofNat (x.toNat / 2 ^ (min n 8))
theorem u8_shr_ (x : UInt8) (n : Nat) : ((x.toNat : Int) / 2 ^ (min ((n : Int)).toNat IntKind.u8.bits)) = ((u8_shr x n).toNat : Int) := by
  show ((x.toNat : Int) / 2 ^ (min n 8)) = _
  have h := u8_lt x; have h2 : x.toNat / 2 ^ (min n 8) ≤ x.toNat := Nat.div_le_self ..
  rw [show ((x.toNat : Int) / 2 ^ (min n 8)) = ((x.toNat / 2 ^ (min n 8) : Nat) : Int) by push_cast; rfl]; unfold u8_shr; rw [UInt8.toNat_ofNat', Nat.mod_eq_of_lt (Nat.lt_of_le_of_lt h2 h)]
theorem ib_shr_u8 (x : UInt8) {k2 : IntKind} (n : Nat) : IB .shr .u8 (x.toNat : Int) k2 (n : Int) (.int .u8 ((u8_shr x n).toNat : Int)) := ib_shr (by omega) (u8_shr_ x n)
theorem u8_to_u64 (x : UInt8) : IntKind.u64.wrap (x.toNat : Int) = ((UInt64.ofNat x.toNat).toNat : Int) := by rw [IntKind.wrap_u64, UInt64.toNat_ofNat']; omega
theorem u64_w (n : Nat) (h : n < 18446744073709551616) : IntKind.u64.wrap (n : Int) = (n : Int) := by rw [IntKind.wrap_u64]; omega
theorem u64_bv (x : UInt64) : BitVec.ofInt 64 (x.toNat : Int) = x.toBitVec := by apply BitVec.eq_of_toNat_eq; rw [BitVec.ofInt_natCast, BitVec.toNat_ofNat]; exact Nat.mod_eq_of_lt x.toNat_lt
theorem u64_or_ (x y : UInt64) : bits .or .u64 (x.toNat : Int) (y.toNat : Int) = ((x ||| y).toNat : Int) := by
  show IntKind.u64.wrap ((BitVec.ofInt 64 (x.toNat : Int) ||| BitVec.ofInt 64 (y.toNat : Int)).toNat : Int) = _
  rw [u64_bv, u64_bv]; exact u64_w _ (x ||| y).toNat_lt
/-- to the left, to the right, by any number of places -/
def u64_shl (x : UInt64) (n : Nat) : UInt64 := UInt64.ofNat (x.toNat * 2 ^ (min n 64))
theorem u64_shl_ (x : UInt64) (n : Nat) : IntKind.u64.wrap ((x.toNat : Int) * 2 ^ (min ((n : Int)).toNat IntKind.u64.bits)) = ((u64_shl x n).toNat : Int) := by
  show IntKind.u64.wrap ((x.toNat : Int) * 2 ^ (min n 64)) = _
  rw [show ((x.toNat : Int) * 2 ^ (min n 64)) = ((x.toNat * 2 ^ (min n 64) : Nat) : Int) by push_cast; rfl, IntKind.wrap_u64]; unfold u64_shl; rw [UInt64.toNat_ofNat']; omega
theorem ib_shl_u64 (x : UInt64) {k2 : IntKind} (n : Nat) : IB .shl .u64 (x.toNat : Int) k2 (n : Int) (.int .u64 ((u64_shl x n).toNat : Int)) := ib_shl (by omega) (u64_shl_ x n)
/-- a number as one of this kind -/
def u64I (n : Int) : UInt64 := UInt64.ofNat (n % 18446744073709551616).toNat
theorem u64I_wrap (n : Int) : IntKind.u64.wrap n = ((u64I n).toNat : Int) := by rw [IntKind.wrap_u64]; unfold u64I; rw [UInt64.toNat_ofNat']; omega
def i64_shr (x : Int) (n : Nat) : Int := x / 2 ^ (min n 64)
theorem ib_shr_i64 (x : Int) {k2 : IntKind} (n : Nat) : IB .shr .i64 x k2 (n : Int) (.int .i64 (i64_shr x n)) := ib_shr (by omega) rfl
section
variable {P : Program} {o : Oper} {a : Act} {w : World} {N : Nat} {ρ : Slots} {x y : Operand} {t t' : TypeId}
end
end Go.Proofs.YtcjleeclpmgbjaaDoor
