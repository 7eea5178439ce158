/- Letters by definition: bits in a list, five by five; the same. -/
import Derived.Test.YtcjleeclpmgbjaaE46A
set_option linter.unusedVariables false
set_option linter.unusedSimpArgs false
namespace Go.Proofs.Ytcjleeclpmgbjaa
open Go.RowKit
/-- the n low bits, the highest first -/
def bD (x : Nat) : Nat → List Nat
  | 0 => []
  | n + 1 => x / 2 ^ n % 2 :: bD x n
theorem bD_len (x n : Nat) : (bD x n).length = n := by
  induction n with
  | zero => rfl
  | succ n ih => rw [bD, List.length_cons, ih]
theorem bD_app (x a b : Nat) : bD x (a + b) = bD (x / 2 ^ b) a ++ bD x b := by
  induction a with
  | zero => rw [Nat.zero_add]; rfl
  | succ a ih =>
    rw [show a + 1 + b = (a + b) + 1 by omega, bD, bD, ih, List.cons_append, Nat.div_div_eq_div_mul, ← Nat.pow_add, Nat.add_comm b a]
theorem bD_mod (x a b : Nat) (h : a ≤ b) : bD (x % 2 ^ b) a = bD x a := by
  induction a with
  | zero => rfl
  | succ a ih =>
    rw [bD, bD, ih (by omega)]
    congr 1
    obtain ⟨e, rfl⟩ : ∃ e, b = a + (1 + e) := ⟨b - (a + 1), by omega⟩
    rw [Nat.pow_add, Nat.mod_mul_right_div_self, Nat.mod_mod_of_dvd _ (show 2 ∣ 2 ^ (1 + e) from ⟨2 ^ e, by rw [Nat.pow_add]⟩)]
def enc : List Nat → List UInt8
  | a :: b :: c :: d :: e :: r => al (16 * a + 8 * b + 4 * c + 2 * d + e) :: enc r
  | _ => []
def pad (l : List Nat) : List Nat := l ++ List.replicate ((5 - l.length % 5) % 5) 0
theorem bD5 (y : Nat) : 16 * (y / 2 ^ 4 % 2) + 8 * (y / 2 ^ 3 % 2) + 4 * (y / 2 ^ 2 % 2) + 2 * (y / 2 ^ 1 % 2) + y / 2 ^ 0 % 2 = y % 32 := by omega
theorem enc_bD (y : Nat) (r : List Nat) : enc (bD y 5 ++ r) = al (y % 32) :: enc r := by
  simp only [bD, List.cons_append, List.nil_append]
  rw [enc, bD5]
theorem pad_bD (y : Nat) (r : List Nat) : pad (bD y 5 ++ r) = bD y 5 ++ pad r := by
  unfold pad
  rw [List.length_append, bD_len, Nat.add_mod_left, List.append_assoc]
theorem sp_nil_all : ∀ n : Fin 5, ∀ v : Fin 16, v.val < 2 ^ n.val → enc (pad (bD v.val n.val)) = sp n.val v.val [] := by decide +kernel
def bitsN (l : List UInt8) : List Nat := l.flatMap fun c => bD c.toNat 8
theorem enc_sp : ∀ (l : List UInt8) (n v : Nat), n < 5 → v < 2 ^ n → enc (pad (bD v n ++ bitsN l)) = sp n v l
  | [], n, v, hn, hv => by
    have := sp_nil_all ⟨n, hn⟩ ⟨v, v16 hn hv⟩ hv
    simpa [bitsN] using this
  | c :: cs, n, v, hn, hv => by
    have hc := c.toNat_lt
    have hx := nx_n n v c.toNat hn
    have ih := enc_sp cs (nx n v c.toNat).2.1 (nx n v c.toNat).2.2 hx.1 hx.2.1
    have e1 : bD v n ++ bD c.toNat 8 = bD (v * 256 + c.toNat) (n + 8) := by
      rw [bD_app]
      congr 1
      · rw [show (2 : Nat) ^ 8 = 256 from rfl]; congr 1; omega
      · rw [← bD_mod (v * 256 + c.toNat) 8 8 (Nat.le_refl _)]
        congr 1
        rw [show (2 : Nat) ^ 8 = 256 from rfl]; omega
    have e2 : bD v n ++ bitsN (c :: cs) = bD (v * 256 + c.toNat) (n + 8) ++ bitsN cs := by
      rw [← e1, List.append_assoc]; rfl
    rw [sp_cons, ← ih, e2]
    unfold nx
    split
    · dsimp only
      rw [bD_mod _ _ _ (Nat.le_refl _), show n + 8 = 5 + (n + 3) by omega, bD_app, List.append_assoc, pad_bD, enc_bD]
      rfl
    · dsimp only
      rw [bD_mod _ _ _ (Nat.le_refl _), show n + 8 = 5 + (n + 3) by omega, bD_app, List.append_assoc, pad_bD, enc_bD]
      rw [show bD (v * 256 + c.toNat) (n + 3) = bD (v * 256 + c.toNat) (5 + (n - 2)) by congr 1; omega, bD_app, List.append_assoc, pad_bD, enc_bD]
      rfl
end Go.Proofs.Ytcjleeclpmgbjaa
