/- The functions of the packages word and chatelaineref01 on numbers of 64 bits. -/
import Derived.Test.YtdldlimadmlpnaaWord
set_option linter.unusedVariables false
set_option linter.unusedSimpArgs false
namespace Go.Proofs.Ytdldlimadmlpnaa
open Go.RowKit


theorem num_append (a b : List UInt8) : num (a ++ b) = 256 ^ b.length * num a + num b := by
  have := foldl_num b (num a)
  rw [← this]; simp [num]
theorem rd_drop_lit {w : World} {ad : Addr} {cs : List Value} (h : Rd w (some ad) cs) (n : Nat) (hn : 0 < n) : Rd w (some ⟨ad.block, ad.off + n, none⟩) (cs.drop n) := by
  have := h.drop n
  have e : ad.add n = ⟨ad.block, ad.off + n, none⟩ := by unfold Addr.add; rw [if_neg (by omega)]
  simpa [e] using this
theorem u32_split (x : UInt64) : ∃ h l : UInt32, (h.toNat : Int) = (x.toNat : Int) / 4294967296 ∧ (l.toNat : Int) = (x.toNat : Int) % 4294967296 ∧ be 8 x.toNat = be 4 h.toNat ++ be 4 l.toNat := by
  have hx := x.toNat_lt
  have e1 : (UInt32.ofNat (x.toNat / 4294967296)).toNat = x.toNat / 4294967296 := by simp; omega
  have e2 : (UInt32.ofNat (x.toNat % 4294967296)).toNat = x.toNat % 4294967296 := by simp
  refine ⟨UInt32.ofNat (x.toNat / 4294967296), UInt32.ofNat (x.toNat % 4294967296), by rw [e1]; omega, by rw [e2]; omega, ?_⟩
  rw [e1, e2]
  have e3 : be 4 (x.toNat % 4294967296) = be 4 x.toNat := by
    have := be_mod 4 x.toNat
    rwa [show (256 : Nat) ^ 4 = 4294967296 by decide] at this
  rw [e3]
  simp [be, Nat.div_div_eq_div_mul]
end Go.Proofs.Ytdldlimadmlpnaa
