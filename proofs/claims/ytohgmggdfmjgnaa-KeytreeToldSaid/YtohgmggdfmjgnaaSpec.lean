/- Plain words on numbers and bytes: no program here. -/
set_option linter.unusedVariables false
set_option linter.unusedSimpArgs false
namespace Go.Proofs.Ytohgmggdfmjgnaa

/-- k bytes of a number, the highest first -/
def be : Nat → Nat → List UInt8
  | 0, _ => []
  | k + 1, n => UInt8.ofNat (n / 256 ^ k) :: be k n
theorem be_length (k n : Nat) : (be k n).length = k := by
  induction k with
  | zero => rfl
  | succ k ih => simp [be, ih]
/-- the number of bytes -/
def num (l : List UInt8) : Nat := l.foldl (fun a b => 256 * a + b.toNat) 0
theorem num_snoc (l : List UInt8) (b : UInt8) : num (l ++ [b]) = 256 * num l + b.toNat := by simp [num]
theorem foldl_num (l : List UInt8) : ∀ a, l.foldl (fun a b => 256 * a + b.toNat) a = 256 ^ l.length * a + num l := by
  induction l with
  | nil => intro a; simp [num]
  | cons b l ih =>
    intro a
    have h0 := ih (256 * 0 + b.toNat)
    have h1 : num (b :: l) = 256 ^ l.length * (256 * 0 + b.toNat) + num l := h0
    rw [List.foldl_cons, ih, h1, List.length_cons, Nat.pow_succ, Nat.mul_add, Nat.mul_zero, Nat.zero_add, ← Nat.mul_assoc]
    omega
theorem num_cons (b : UInt8) (l : List UInt8) : num (b :: l) = 256 ^ l.length * b.toNat + num l := by
  have := foldl_num l (256 * 0 + b.toNat)
  simp only [num, List.foldl_cons] at this ⊢
  rw [this]; simp
theorem num_lt (l : List UInt8) : num l < 256 ^ l.length := by
  induction l with
  | nil => simp [num]
  | cons b l ih =>
    rw [num_cons, List.length_cons, Nat.pow_succ]
    have hb := b.toNat_lt
    have : 256 ^ l.length * b.toNat ≤ 256 ^ l.length * 255 := Nat.mul_le_mul_left _ (by omega)
    omega
theorem be_mod (k n : Nat) : be k (n % 256 ^ k) = be k n := by
  suffices h : ∀ k m n, k ≤ m → be k (n % 256 ^ m) = be k n from h k k n (Nat.le_refl _)
  intro k
  induction k with
  | zero => intros; rfl
  | succ k ih =>
    intro m n h
    simp only [be]
    rw [ih m n (by omega)]
    congr 1
    obtain ⟨d, rfl⟩ : ∃ d, m = k + (d + 1) := ⟨m - k - 1, by omega⟩
    rw [Nat.pow_add, Nat.mod_mul_right_div_self]
    apply UInt8.toNat_inj.1
    simp only [UInt8.toNat_ofNat']
    rw [Nat.pow_succ, Nat.mul_comm]
    exact Nat.mod_mul_right_mod _ _ _
theorem num_take_succ (l : List UInt8) (k : Nat) (h : k < l.length) : num (l.take (k + 1)) = 256 * num (l.take k) + l[k].toNat := by
  rw [List.take_succ_eq_append_getElem h, num_snoc]
end Go.Proofs.Ytohgmggdfmjgnaa
