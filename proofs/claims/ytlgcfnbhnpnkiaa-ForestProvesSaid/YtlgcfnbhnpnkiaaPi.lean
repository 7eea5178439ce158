/- Whole numbers of all kinds: sums, bits, shifts, conversions (printed by genpi.py). -/
import Derived.Test.YtlgcfnbhnpnkiaaPm
import Derived.Laws.BitsAllLaws
set_option linter.unusedVariables false
set_option linter.unusedSimpArgs false
namespace Go.Proofs.Ytlgcfnbhnpnkiaa
open Go.RowKit
theorem IntKind.wrap_u16_ (n : Int) : IntKind.u16.wrap n = n % 65536 := by simp [IntKind.wrap, IntKind.bits, IntKind.signed]
theorem emod_cast (a : Nat) (m : Nat) : ((a : Int) % (m : Int)) = ((a % m : Nat) : Int) := by omega
theorem u8_lt (x : UInt8) : x.toNat < 256 := x.toNat_lt
theorem u8_w (n : Nat) (h : n < 256) : IntKind.u8.wrap (n : Int) = (n : Int) := by rw [IntKind.wrap_u8]; omega
theorem u8_add (x y : UInt8) : IntKind.u8.wrap ((x.toNat : Int) + (y.toNat : Int)) = ((x + y).toNat : Int) := by rw [IntKind.wrap_u8, UInt8.toNat_add]; omega
theorem u8_sub (x y : UInt8) : IntKind.u8.wrap ((x.toNat : Int) - (y.toNat : Int)) = ((x - y).toNat : Int) := by have := u8_lt x; have := u8_lt y; rw [IntKind.wrap_u8, UInt8.toNat_sub]; omega
theorem u8_mul (x y : UInt8) : IntKind.u8.wrap ((x.toNat : Int) * (y.toNat : Int)) = ((x * y).toNat : Int) := by rw [IntKind.wrap_u8, UInt8.toNat_mul, ← Int.natCast_mul]; omega
theorem u8_neg (x : UInt8) : IntKind.u8.wrap (0 - (x.toNat : Int)) = ((-x).toNat : Int) := by have h := u8_lt x; rw [IntKind.wrap_u8, UInt8.toNat_neg, show UInt8.size = 256 from rfl]; omega
theorem u8_bv (x : UInt8) : BitVec.ofInt 8 (x.toNat : Int) = x.toBitVec := by apply BitVec.eq_of_toNat_eq; rw [BitVec.ofInt_natCast, BitVec.toNat_ofNat]; exact Nat.mod_eq_of_lt x.toNat_lt
theorem u8_and_ (x y : UInt8) : bits .and .u8 (x.toNat : Int) (y.toNat : Int) = ((x &&& y).toNat : Int) := by
  show IntKind.u8.wrap ((BitVec.ofInt 8 (x.toNat : Int) &&& BitVec.ofInt 8 (y.toNat : Int)).toNat : Int) = _
  rw [u8_bv, u8_bv]; exact u8_w _ (x &&& y).toNat_lt
theorem u8_or_ (x y : UInt8) : bits .or .u8 (x.toNat : Int) (y.toNat : Int) = ((x ||| y).toNat : Int) := by
  show IntKind.u8.wrap ((BitVec.ofInt 8 (x.toNat : Int) ||| BitVec.ofInt 8 (y.toNat : Int)).toNat : Int) = _
  rw [u8_bv, u8_bv]; exact u8_w _ (x ||| y).toNat_lt
theorem u8_xor_ (x y : UInt8) : bits .xor .u8 (x.toNat : Int) (y.toNat : Int) = ((x ^^^ y).toNat : Int) := by
  show IntKind.u8.wrap ((BitVec.ofInt 8 (x.toNat : Int) ^^^ BitVec.ofInt 8 (y.toNat : Int)).toNat : Int) = _
  rw [u8_bv, u8_bv]; exact u8_w _ (x ^^^ y).toNat_lt
theorem u8_andNot_ (x y : UInt8) : bits .andNot .u8 (x.toNat : Int) (y.toNat : Int) = ((x &&& ~~~y).toNat : Int) := by
  show IntKind.u8.wrap ((BitVec.ofInt 8 (x.toNat : Int) &&& ~~~(BitVec.ofInt 8 (y.toNat : Int))).toNat : Int) = _
  rw [u8_bv, u8_bv]; exact u8_w _ (x &&& ~~~y).toNat_lt
theorem u8_compl (x : UInt8) : bits .xor .u8 255 (x.toNat : Int) = ((~~~x).toNat : Int) := by
  show IntKind.u8.wrap ((BitVec.ofInt 8 255 ^^^ BitVec.ofInt 8 (x.toNat : Int)).toNat : Int) = _
  rw [u8_bv]
  have e : (BitVec.ofInt 8 255 ^^^ x.toBitVec) = (~~~x).toBitVec := by rw [show BitVec.ofInt 8 255 = BitVec.allOnes 8 from rfl, BitVec.allOnes_xor]; rfl
  rw [e]; exact u8_w _ (~~~x).toNat_lt
/-- to the left, to the right, by any number of places -/
def u8_shl (x : UInt8) (n : Nat) : UInt8 := UInt8.ofNat (x.toNat * 2 ^ (min n 8))
def u8_shr (x : UInt8) (n : Nat) : UInt8 := UInt8.ofNat (x.toNat / 2 ^ (min n 8))
theorem u8_shl_ (x : UInt8) (n : Nat) : IntKind.u8.wrap ((x.toNat : Int) * 2 ^ (min ((n : Int)).toNat IntKind.u8.bits)) = ((u8_shl x n).toNat : Int) := by
  show IntKind.u8.wrap ((x.toNat : Int) * 2 ^ (min n 8)) = _
  rw [show ((x.toNat : Int) * 2 ^ (min n 8)) = ((x.toNat * 2 ^ (min n 8) : Nat) : Int) by push_cast; rfl, IntKind.wrap_u8]; unfold u8_shl; rw [UInt8.toNat_ofNat']; omega
theorem u8_shr_ (x : UInt8) (n : Nat) : ((x.toNat : Int) / 2 ^ (min ((n : Int)).toNat IntKind.u8.bits)) = ((u8_shr x n).toNat : Int) := by
  show ((x.toNat : Int) / 2 ^ (min n 8)) = _
  have h := u8_lt x; have h2 : x.toNat / 2 ^ (min n 8) ≤ x.toNat := Nat.div_le_self ..
  rw [show ((x.toNat : Int) / 2 ^ (min n 8)) = ((x.toNat / 2 ^ (min n 8) : Nat) : Int) by push_cast; rfl]; unfold u8_shr; rw [UInt8.toNat_ofNat', Nat.mod_eq_of_lt (Nat.lt_of_le_of_lt h2 h)]
def u8_quo (x y : UInt8) : Option UInt8 := if y = 0 then none else some (x / y)
def u8_rem (x y : UInt8) : Option UInt8 := if y = 0 then none else some (x % y)
theorem u8_div_ (x y : UInt8) : IntKind.u8.wrap (Int.tdiv (x.toNat : Int) (y.toNat : Int)) = ((x / y).toNat : Int) := by
  have h := u8_lt (x / y); rw [← Int.ofNat_tdiv, ← UInt8.toNat_div]; exact u8_w _ h
theorem u8_mod_ (x y : UInt8) : Int.tmod (x.toNat : Int) (y.toNat : Int) = ((x % y).toNat : Int) := by rw [← Int.ofNat_tmod, ← UInt8.toNat_mod]
theorem u8_nz {y : UInt8} (h : y ≠ 0) : (y.toNat : Int) ≠ 0 := by intro e; apply h; apply UInt8.toNat_inj.1; simpa using e
theorem ib_quo_u8 {x y r : UInt8} (h : u8_quo x y = some r) : IB .quo .u8 (x.toNat : Int) .u8 (y.toNat : Int) (.int .u8 (r.toNat : Int)) := by
  unfold u8_quo at h; split at h
  · cases h
  · next hn => cases h; rw [← u8_div_]; exact ib_quow (u8_nz hn)
theorem ib_rem_u8 {x y r : UInt8} (h : u8_rem x y = some r) : IB .rem .u8 (x.toNat : Int) .u8 (y.toNat : Int) (.int .u8 (r.toNat : Int)) := by
  unfold u8_rem at h; split at h
  · cases h
  · next hn => cases h; rw [← u8_mod_]; exact ib_remw (u8_nz hn)
theorem ib_shl_u8 (x : UInt8) {k2 : IntKind} (n : Nat) : IB .shl .u8 (x.toNat : Int) k2 (n : Int) (.int .u8 ((u8_shl x n).toNat : Int)) := ib_shl (by omega) (u8_shl_ x n)
theorem ib_shr_u8 (x : UInt8) {k2 : IntKind} (n : Nat) : IB .shr .u8 (x.toNat : Int) k2 (n : Int) (.int .u8 ((u8_shr x n).toNat : Int)) := ib_shr (by omega) (u8_shr_ x n)
/-- a number as one of this kind -/
def u8I (n : Int) : UInt8 := UInt8.ofNat (n % 256).toNat
theorem u8I_wrap (n : Int) : IntKind.u8.wrap n = ((u8I n).toNat : Int) := by rw [IntKind.wrap_u8]; unfold u8I; rw [UInt8.toNat_ofNat']; omega
theorem u8_to_u32 (x : UInt8) : IntKind.u32.wrap (x.toNat : Int) = ((UInt32.ofNat x.toNat).toNat : Int) := by rw [IntKind.wrap_u32, UInt32.toNat_ofNat']; omega
theorem u8_to_u64 (x : UInt8) : IntKind.u64.wrap (x.toNat : Int) = ((UInt64.ofNat x.toNat).toNat : Int) := by rw [IntKind.wrap_u64, UInt64.toNat_ofNat']; omega
theorem u32_lt (x : UInt32) : x.toNat < 4294967296 := x.toNat_lt
theorem u32_w (n : Nat) (h : n < 4294967296) : IntKind.u32.wrap (n : Int) = (n : Int) := by rw [IntKind.wrap_u32]; omega
theorem u32_add (x y : UInt32) : IntKind.u32.wrap ((x.toNat : Int) + (y.toNat : Int)) = ((x + y).toNat : Int) := by rw [IntKind.wrap_u32, UInt32.toNat_add]; omega
theorem u32_sub (x y : UInt32) : IntKind.u32.wrap ((x.toNat : Int) - (y.toNat : Int)) = ((x - y).toNat : Int) := by have := u32_lt x; have := u32_lt y; rw [IntKind.wrap_u32, UInt32.toNat_sub]; omega
theorem u32_mul (x y : UInt32) : IntKind.u32.wrap ((x.toNat : Int) * (y.toNat : Int)) = ((x * y).toNat : Int) := by rw [IntKind.wrap_u32, UInt32.toNat_mul, ← Int.natCast_mul]; omega
theorem u32_neg (x : UInt32) : IntKind.u32.wrap (0 - (x.toNat : Int)) = ((-x).toNat : Int) := by have h := u32_lt x; rw [IntKind.wrap_u32, UInt32.toNat_neg, show UInt32.size = 4294967296 from rfl]; omega
theorem u32_bv (x : UInt32) : BitVec.ofInt 32 (x.toNat : Int) = x.toBitVec := by apply BitVec.eq_of_toNat_eq; rw [BitVec.ofInt_natCast, BitVec.toNat_ofNat]; exact Nat.mod_eq_of_lt x.toNat_lt
theorem u32_and_ (x y : UInt32) : bits .and .u32 (x.toNat : Int) (y.toNat : Int) = ((x &&& y).toNat : Int) := by
  show IntKind.u32.wrap ((BitVec.ofInt 32 (x.toNat : Int) &&& BitVec.ofInt 32 (y.toNat : Int)).toNat : Int) = _
  rw [u32_bv, u32_bv]; exact u32_w _ (x &&& y).toNat_lt
theorem u32_or_ (x y : UInt32) : bits .or .u32 (x.toNat : Int) (y.toNat : Int) = ((x ||| y).toNat : Int) := by
  show IntKind.u32.wrap ((BitVec.ofInt 32 (x.toNat : Int) ||| BitVec.ofInt 32 (y.toNat : Int)).toNat : Int) = _
  rw [u32_bv, u32_bv]; exact u32_w _ (x ||| y).toNat_lt
theorem u32_xor_ (x y : UInt32) : bits .xor .u32 (x.toNat : Int) (y.toNat : Int) = ((x ^^^ y).toNat : Int) := by
  show IntKind.u32.wrap ((BitVec.ofInt 32 (x.toNat : Int) ^^^ BitVec.ofInt 32 (y.toNat : Int)).toNat : Int) = _
  rw [u32_bv, u32_bv]; exact u32_w _ (x ^^^ y).toNat_lt
theorem u32_andNot_ (x y : UInt32) : bits .andNot .u32 (x.toNat : Int) (y.toNat : Int) = ((x &&& ~~~y).toNat : Int) := by
  show IntKind.u32.wrap ((BitVec.ofInt 32 (x.toNat : Int) &&& ~~~(BitVec.ofInt 32 (y.toNat : Int))).toNat : Int) = _
  rw [u32_bv, u32_bv]; exact u32_w _ (x &&& ~~~y).toNat_lt
theorem u32_compl (x : UInt32) : bits .xor .u32 4294967295 (x.toNat : Int) = ((~~~x).toNat : Int) := by
  show IntKind.u32.wrap ((BitVec.ofInt 32 4294967295 ^^^ BitVec.ofInt 32 (x.toNat : Int)).toNat : Int) = _
  rw [u32_bv]
  have e : (BitVec.ofInt 32 4294967295 ^^^ x.toBitVec) = (~~~x).toBitVec := by rw [show BitVec.ofInt 32 4294967295 = BitVec.allOnes 32 from rfl, BitVec.allOnes_xor]; rfl
  rw [e]; exact u32_w _ (~~~x).toNat_lt
/-- to the left, to the right, by any number of places -/
def u32_shl (x : UInt32) (n : Nat) : UInt32 := UInt32.ofNat (x.toNat * 2 ^ (min n 32))
def u32_shr (x : UInt32) (n : Nat) : UInt32 := UInt32.ofNat (x.toNat / 2 ^ (min n 32))
theorem u32_shl_ (x : UInt32) (n : Nat) : IntKind.u32.wrap ((x.toNat : Int) * 2 ^ (min ((n : Int)).toNat IntKind.u32.bits)) = ((u32_shl x n).toNat : Int) := by
  show IntKind.u32.wrap ((x.toNat : Int) * 2 ^ (min n 32)) = _
  rw [show ((x.toNat : Int) * 2 ^ (min n 32)) = ((x.toNat * 2 ^ (min n 32) : Nat) : Int) by push_cast; rfl, IntKind.wrap_u32]; unfold u32_shl; rw [UInt32.toNat_ofNat']; omega
theorem u32_shr_ (x : UInt32) (n : Nat) : ((x.toNat : Int) / 2 ^ (min ((n : Int)).toNat IntKind.u32.bits)) = ((u32_shr x n).toNat : Int) := by
  show ((x.toNat : Int) / 2 ^ (min n 32)) = _
  have h := u32_lt x; have h2 : x.toNat / 2 ^ (min n 32) ≤ x.toNat := Nat.div_le_self ..
  rw [show ((x.toNat : Int) / 2 ^ (min n 32)) = ((x.toNat / 2 ^ (min n 32) : Nat) : Int) by push_cast; rfl]; unfold u32_shr; rw [UInt32.toNat_ofNat', Nat.mod_eq_of_lt (Nat.lt_of_le_of_lt h2 h)]
def u32_quo (x y : UInt32) : Option UInt32 := if y = 0 then none else some (x / y)
def u32_rem (x y : UInt32) : Option UInt32 := if y = 0 then none else some (x % y)
theorem u32_div_ (x y : UInt32) : IntKind.u32.wrap (Int.tdiv (x.toNat : Int) (y.toNat : Int)) = ((x / y).toNat : Int) := by
  have h := u32_lt (x / y); rw [← Int.ofNat_tdiv, ← UInt32.toNat_div]; exact u32_w _ h
theorem u32_mod_ (x y : UInt32) : Int.tmod (x.toNat : Int) (y.toNat : Int) = ((x % y).toNat : Int) := by rw [← Int.ofNat_tmod, ← UInt32.toNat_mod]
theorem u32_nz {y : UInt32} (h : y ≠ 0) : (y.toNat : Int) ≠ 0 := by intro e; apply h; apply UInt32.toNat_inj.1; simpa using e
theorem ib_quo_u32 {x y r : UInt32} (h : u32_quo x y = some r) : IB .quo .u32 (x.toNat : Int) .u32 (y.toNat : Int) (.int .u32 (r.toNat : Int)) := by
  unfold u32_quo at h; split at h
  · cases h
  · next hn => cases h; rw [← u32_div_]; exact ib_quow (u32_nz hn)
theorem ib_rem_u32 {x y r : UInt32} (h : u32_rem x y = some r) : IB .rem .u32 (x.toNat : Int) .u32 (y.toNat : Int) (.int .u32 (r.toNat : Int)) := by
  unfold u32_rem at h; split at h
  · cases h
  · next hn => cases h; rw [← u32_mod_]; exact ib_remw (u32_nz hn)
theorem ib_shl_u32 (x : UInt32) {k2 : IntKind} (n : Nat) : IB .shl .u32 (x.toNat : Int) k2 (n : Int) (.int .u32 ((u32_shl x n).toNat : Int)) := ib_shl (by omega) (u32_shl_ x n)
theorem ib_shr_u32 (x : UInt32) {k2 : IntKind} (n : Nat) : IB .shr .u32 (x.toNat : Int) k2 (n : Int) (.int .u32 ((u32_shr x n).toNat : Int)) := ib_shr (by omega) (u32_shr_ x n)
/-- a number as one of this kind -/
def u32I (n : Int) : UInt32 := UInt32.ofNat (n % 4294967296).toNat
theorem u32I_wrap (n : Int) : IntKind.u32.wrap n = ((u32I n).toNat : Int) := by rw [IntKind.wrap_u32]; unfold u32I; rw [UInt32.toNat_ofNat']; omega
theorem u32_to_u8 (x : UInt32) : IntKind.u8.wrap (x.toNat : Int) = ((UInt8.ofNat x.toNat).toNat : Int) := by rw [IntKind.wrap_u8, UInt8.toNat_ofNat']; omega
theorem u32_to_u64 (x : UInt32) : IntKind.u64.wrap (x.toNat : Int) = ((UInt64.ofNat x.toNat).toNat : Int) := by rw [IntKind.wrap_u64, UInt64.toNat_ofNat']; omega
theorem u64_lt (x : UInt64) : x.toNat < 18446744073709551616 := x.toNat_lt
theorem u64_w (n : Nat) (h : n < 18446744073709551616) : IntKind.u64.wrap (n : Int) = (n : Int) := by rw [IntKind.wrap_u64]; omega
theorem u64_add (x y : UInt64) : IntKind.u64.wrap ((x.toNat : Int) + (y.toNat : Int)) = ((x + y).toNat : Int) := by rw [IntKind.wrap_u64, UInt64.toNat_add]; omega
theorem u64_sub (x y : UInt64) : IntKind.u64.wrap ((x.toNat : Int) - (y.toNat : Int)) = ((x - y).toNat : Int) := by have := u64_lt x; have := u64_lt y; rw [IntKind.wrap_u64, UInt64.toNat_sub]; omega
theorem u64_mul (x y : UInt64) : IntKind.u64.wrap ((x.toNat : Int) * (y.toNat : Int)) = ((x * y).toNat : Int) := by rw [IntKind.wrap_u64, UInt64.toNat_mul, ← Int.natCast_mul]; omega
theorem u64_neg (x : UInt64) : IntKind.u64.wrap (0 - (x.toNat : Int)) = ((-x).toNat : Int) := by have h := u64_lt x; rw [IntKind.wrap_u64, UInt64.toNat_neg, show UInt64.size = 18446744073709551616 from rfl]; omega
theorem u64_bv (x : UInt64) : BitVec.ofInt 64 (x.toNat : Int) = x.toBitVec := by apply BitVec.eq_of_toNat_eq; rw [BitVec.ofInt_natCast, BitVec.toNat_ofNat]; exact Nat.mod_eq_of_lt x.toNat_lt
theorem u64_and_ (x y : UInt64) : bits .and .u64 (x.toNat : Int) (y.toNat : Int) = ((x &&& y).toNat : Int) := by
  show IntKind.u64.wrap ((BitVec.ofInt 64 (x.toNat : Int) &&& BitVec.ofInt 64 (y.toNat : Int)).toNat : Int) = _
  rw [u64_bv, u64_bv]; exact u64_w _ (x &&& y).toNat_lt
theorem u64_or_ (x y : UInt64) : bits .or .u64 (x.toNat : Int) (y.toNat : Int) = ((x ||| y).toNat : Int) := by
  show IntKind.u64.wrap ((BitVec.ofInt 64 (x.toNat : Int) ||| BitVec.ofInt 64 (y.toNat : Int)).toNat : Int) = _
  rw [u64_bv, u64_bv]; exact u64_w _ (x ||| y).toNat_lt
theorem u64_xor_ (x y : UInt64) : bits .xor .u64 (x.toNat : Int) (y.toNat : Int) = ((x ^^^ y).toNat : Int) := by
  show IntKind.u64.wrap ((BitVec.ofInt 64 (x.toNat : Int) ^^^ BitVec.ofInt 64 (y.toNat : Int)).toNat : Int) = _
  rw [u64_bv, u64_bv]; exact u64_w _ (x ^^^ y).toNat_lt
theorem u64_andNot_ (x y : UInt64) : bits .andNot .u64 (x.toNat : Int) (y.toNat : Int) = ((x &&& ~~~y).toNat : Int) := by
  show IntKind.u64.wrap ((BitVec.ofInt 64 (x.toNat : Int) &&& ~~~(BitVec.ofInt 64 (y.toNat : Int))).toNat : Int) = _
  rw [u64_bv, u64_bv]; exact u64_w _ (x &&& ~~~y).toNat_lt
theorem u64_compl (x : UInt64) : bits .xor .u64 18446744073709551615 (x.toNat : Int) = ((~~~x).toNat : Int) := by
  show IntKind.u64.wrap ((BitVec.ofInt 64 18446744073709551615 ^^^ BitVec.ofInt 64 (x.toNat : Int)).toNat : Int) = _
  rw [u64_bv]
  have e : (BitVec.ofInt 64 18446744073709551615 ^^^ x.toBitVec) = (~~~x).toBitVec := by rw [show BitVec.ofInt 64 18446744073709551615 = BitVec.allOnes 64 from rfl, BitVec.allOnes_xor]; rfl
  rw [e]; exact u64_w _ (~~~x).toNat_lt
/-- to the left, to the right, by any number of places -/
def u64_shl (x : UInt64) (n : Nat) : UInt64 := UInt64.ofNat (x.toNat * 2 ^ (min n 64))
def u64_shr (x : UInt64) (n : Nat) : UInt64 := UInt64.ofNat (x.toNat / 2 ^ (min n 64))
theorem u64_shl_ (x : UInt64) (n : Nat) : IntKind.u64.wrap ((x.toNat : Int) * 2 ^ (min ((n : Int)).toNat IntKind.u64.bits)) = ((u64_shl x n).toNat : Int) := by
  show IntKind.u64.wrap ((x.toNat : Int) * 2 ^ (min n 64)) = _
  rw [show ((x.toNat : Int) * 2 ^ (min n 64)) = ((x.toNat * 2 ^ (min n 64) : Nat) : Int) by push_cast; rfl, IntKind.wrap_u64]; unfold u64_shl; rw [UInt64.toNat_ofNat']; omega
theorem u64_shr_ (x : UInt64) (n : Nat) : ((x.toNat : Int) / 2 ^ (min ((n : Int)).toNat IntKind.u64.bits)) = ((u64_shr x n).toNat : Int) := by
  show ((x.toNat : Int) / 2 ^ (min n 64)) = _
  have h := u64_lt x; have h2 : x.toNat / 2 ^ (min n 64) ≤ x.toNat := Nat.div_le_self ..
  rw [show ((x.toNat : Int) / 2 ^ (min n 64)) = ((x.toNat / 2 ^ (min n 64) : Nat) : Int) by push_cast; rfl]; unfold u64_shr; rw [UInt64.toNat_ofNat', Nat.mod_eq_of_lt (Nat.lt_of_le_of_lt h2 h)]
def u64_quo (x y : UInt64) : Option UInt64 := if y = 0 then none else some (x / y)
def u64_rem (x y : UInt64) : Option UInt64 := if y = 0 then none else some (x % y)
theorem u64_div_ (x y : UInt64) : IntKind.u64.wrap (Int.tdiv (x.toNat : Int) (y.toNat : Int)) = ((x / y).toNat : Int) := by
  have h := u64_lt (x / y); rw [← Int.ofNat_tdiv, ← UInt64.toNat_div]; exact u64_w _ h
theorem u64_mod_ (x y : UInt64) : Int.tmod (x.toNat : Int) (y.toNat : Int) = ((x % y).toNat : Int) := by rw [← Int.ofNat_tmod, ← UInt64.toNat_mod]
theorem u64_nz {y : UInt64} (h : y ≠ 0) : (y.toNat : Int) ≠ 0 := by intro e; apply h; apply UInt64.toNat_inj.1; simpa using e
theorem ib_quo_u64 {x y r : UInt64} (h : u64_quo x y = some r) : IB .quo .u64 (x.toNat : Int) .u64 (y.toNat : Int) (.int .u64 (r.toNat : Int)) := by
  unfold u64_quo at h; split at h
  · cases h
  · next hn => cases h; rw [← u64_div_]; exact ib_quow (u64_nz hn)
theorem ib_rem_u64 {x y r : UInt64} (h : u64_rem x y = some r) : IB .rem .u64 (x.toNat : Int) .u64 (y.toNat : Int) (.int .u64 (r.toNat : Int)) := by
  unfold u64_rem at h; split at h
  · cases h
  · next hn => cases h; rw [← u64_mod_]; exact ib_remw (u64_nz hn)
theorem ib_shl_u64 (x : UInt64) {k2 : IntKind} (n : Nat) : IB .shl .u64 (x.toNat : Int) k2 (n : Int) (.int .u64 ((u64_shl x n).toNat : Int)) := ib_shl (by omega) (u64_shl_ x n)
theorem ib_shr_u64 (x : UInt64) {k2 : IntKind} (n : Nat) : IB .shr .u64 (x.toNat : Int) k2 (n : Int) (.int .u64 ((u64_shr x n).toNat : Int)) := ib_shr (by omega) (u64_shr_ x n)
/-- a number as one of this kind -/
def u64I (n : Int) : UInt64 := UInt64.ofNat (n % 18446744073709551616).toNat
theorem u64I_wrap (n : Int) : IntKind.u64.wrap n = ((u64I n).toNat : Int) := by rw [IntKind.wrap_u64]; unfold u64I; rw [UInt64.toNat_ofNat']; omega
theorem u64_to_u8 (x : UInt64) : IntKind.u8.wrap (x.toNat : Int) = ((UInt8.ofNat x.toNat).toNat : Int) := by rw [IntKind.wrap_u8, UInt8.toNat_ofNat']; omega
theorem u64_to_u32 (x : UInt64) : IntKind.u32.wrap (x.toNat : Int) = ((UInt32.ofNat x.toNat).toNat : Int) := by rw [IntKind.wrap_u32, UInt32.toNat_ofNat']; omega
theorem u8_r32 (x : UInt8) : r32 (x.toNat : Int) := by have := x.toNat_lt; unfold r32; omega
abbrev w32I (n : Int) : Int := IntKind.i32.wrap n
theorem w32I_r (x : Int) : r32 (w32I x) := by unfold r32; show _ ≤ IntKind.i32.wrap x ∧ IntKind.i32.wrap x ≤ _; rw [IntKind.wrap_i32]; omega
theorem w32I_of {x : Int} (h : r32 x) : w32I x = x := by unfold r32 at h; show IntKind.i32.wrap x = x; rw [IntKind.wrap_i32]; omega
theorem r32_64 {x : Int} (h : r32 x) : r64 x := by unfold r32 at h; unfold r64; omega
def i64_and (x y : Int) : Int := bits .and .i64 x y
theorem i64_and_r (x y : Int) : r64 (i64_and x y) := by unfold i64_and bits; exact w64_r _
def i64_or (x y : Int) : Int := bits .or .i64 x y
theorem i64_or_r (x y : Int) : r64 (i64_or x y) := by unfold i64_or bits; exact w64_r _
def i64_xor (x y : Int) : Int := bits .xor .i64 x y
theorem i64_xor_r (x y : Int) : r64 (i64_xor x y) := by unfold i64_xor bits; exact w64_r _
def i64_andNot (x y : Int) : Int := bits .andNot .i64 x y
theorem i64_andNot_r (x y : Int) : r64 (i64_andNot x y) := by unfold i64_andNot bits; exact w64_r _
theorem i64_and_nat (a b : Nat) (ha : a < 9223372036854775808) (hb : b < 9223372036854775808) : i64_and (a : Int) (b : Int) = ((a &&& b : Nat) : Int) := by
  show IntKind.i64.wrap ((BitVec.ofInt 64 (a : Int) &&& BitVec.ofInt 64 (b : Int)).toNat : Int) = _
  rw [BitVec.ofInt_natCast, BitVec.ofInt_natCast, BitVec.toNat_and, BitVec.toNat_ofNat, BitVec.toNat_ofNat, Nat.mod_eq_of_lt (by omega), Nat.mod_eq_of_lt (by omega)]
  have h : (a &&& b) < 9223372036854775808 := Nat.lt_of_le_of_lt Nat.and_le_left ha
  rw [IntKind.wrap_i64]; omega
theorem i64_or_nat (a b : Nat) (ha : a < 9223372036854775808) (hb : b < 9223372036854775808) : i64_or (a : Int) (b : Int) = ((a ||| b : Nat) : Int) := by
  show IntKind.i64.wrap ((BitVec.ofInt 64 (a : Int) ||| BitVec.ofInt 64 (b : Int)).toNat : Int) = _
  rw [BitVec.ofInt_natCast, BitVec.ofInt_natCast, BitVec.toNat_or, BitVec.toNat_ofNat, BitVec.toNat_ofNat, Nat.mod_eq_of_lt (by omega), Nat.mod_eq_of_lt (by omega)]
  have h : (a ||| b) < 9223372036854775808 := Nat.or_lt_two_pow (n := 63) ha hb
  rw [IntKind.wrap_i64]; omega
theorem i64_xor_nat (a b : Nat) (ha : a < 9223372036854775808) (hb : b < 9223372036854775808) : i64_xor (a : Int) (b : Int) = ((a ^^^ b : Nat) : Int) := by
  show IntKind.i64.wrap ((BitVec.ofInt 64 (a : Int) ^^^ BitVec.ofInt 64 (b : Int)).toNat : Int) = _
  rw [BitVec.ofInt_natCast, BitVec.ofInt_natCast, BitVec.toNat_xor, BitVec.toNat_ofNat, BitVec.toNat_ofNat, Nat.mod_eq_of_lt (by omega), Nat.mod_eq_of_lt (by omega)]
  have h : (a ^^^ b) < 9223372036854775808 := Nat.xor_lt_two_pow (n := 63) ha hb
  rw [IntKind.wrap_i64]; omega
def shN (n : Int) : Option Nat := if 0 ≤ n then some n.toNat else none
theorem shN_some {n : Int} {m : Nat} (h : shN n = some m) : n = (m : Int) := by
  unfold shN at h
  split at h
  · cases h; omega
  · cases h
def i64_shl (x : Int) (n : Nat) : Int := w64 (x * 2 ^ (min n 64))
def i64_shr (x : Int) (n : Nat) : Int := x / 2 ^ (min n 64)
theorem i64_shl_r (x : Int) (n : Nat) : r64 (i64_shl x n) := w64_r _
theorem i64_shr_r {x : Int} (h : r64 x) (n : Nat) : r64 (i64_shr x n) := by
  unfold r64 at h ⊢; unfold i64_shr
  have hp : (0 : Int) < 2 ^ (min n 64) := Int.pow_pos (by decide)
  constructor
  · rw [Int.le_ediv_iff_mul_le hp]
    have : (-9223372036854775808 : Int) * 2 ^ (min n 64) ≤ -9223372036854775808 := by generalize (2 : Int) ^ (min n 64) = y at *; omega
    omega
  · have : x / 2 ^ (min n 64) ≤ max x 0 := by
      rcases Int.le_total 0 x with hx | hx
      · have := Int.ediv_le_self (2 ^ (min n 64)) hx; omega
      · have := Int.ediv_nonpos_of_nonpos_of_neg hx hp; omega
    omega
theorem ib_shl_i64 (x : Int) {k2 : IntKind} (n : Nat) : IB .shl .i64 x k2 (n : Int) (.int .i64 (i64_shl x n)) := ib_shl (by omega) rfl
theorem ib_shr_i64 (x : Int) {k2 : IntKind} (n : Nat) : IB .shr .i64 x k2 (n : Int) (.int .i64 (i64_shr x n)) := ib_shr (by omega) rfl
section
variable {P : Program} {o : Oper} {a : Act} {w : World} {N : Nat} {ρ : Slots} {x y : Operand} {t t' : TypeId}
theorem x_neg (h : Knows N ρ a) (ho : o.op = .unOp .neg t x) {k : IntKind} {n r : Int} (hx : ev ρ x = some (.int k n)) (e : k.wrap (0 - n) = r) : (execOp a.eval o).run P w = .ok (.value (.int k r)) w := by
  subst e; simp [execOp, ho, h.eval hx, Op.unary, Op.intArith]
theorem x_compl (h : Knows N ρ a) (ho : o.op = .unOp .xor t x) {k : IntKind} {n r : Int} (hx : ev ρ x = some (.int k n)) (e : bits .xor k (if k.signed then -1 else k.max) n = r) : (execOp a.eval o).run P w = .ok (.value (.int k r)) w := by
  subst e; simp [execOp, ho, h.eval hx, Op.unary, Op.intBits, bits]
end
end Go.Proofs.Ytlgcfnbhnpnkiaa
