/- Plain words on numbers and bytes: no program here. -/
set_option linter.unusedVariables false
set_option linter.unusedSimpArgs false
namespace Go.Proofs.YtcjleeclpmgbjaaDoor

/-- k bytes of a number, the highest first -/
def be : Nat → Nat → List UInt8
  | 0, _ => []
  | k + 1, n => UInt8.ofNat (n / 256 ^ k) :: be k n
theorem be_length (k n : Nat) : (be k n).length = k := by
  induction k with
  | zero => rfl
  | succ k ih => simp [be, ih]
/-- the number of bytes -/
def num (l : List UInt8) : Nat := l.foldl (fun a b => 256 * a + b.toNat) 0
theorem num_snoc (l : List UInt8) (b : UInt8) : num (l ++ [b]) = 256 * num l + b.toNat := by simp [num]
theorem foldl_num (l : List UInt8) : ∀ a, l.foldl (fun a b => 256 * a + b.toNat) a = 256 ^ l.length * a + num l := by
  induction l with
  | nil => intro a; simp [num]
  | cons b l ih =>
    intro a
    have h0 := ih (256 * 0 + b.toNat)
    have h1 : num (b :: l) = 256 ^ l.length * (256 * 0 + b.toNat) + num l := h0
    rw [List.foldl_cons, ih, h1, List.length_cons, Nat.pow_succ, Nat.mul_add, Nat.mul_zero, Nat.zero_add, ← Nat.mul_assoc]
    omega
theorem num_cons (b : UInt8) (l : List UInt8) : num (b :: l) = 256 ^ l.length * b.toNat + num l := by
  have := foldl_num l (256 * 0 + b.toNat)
  simp only [num, List.foldl_cons] at this ⊢
  rw [this]; simp
theorem num_lt (l : List UInt8) : num l < 256 ^ l.length := by
  induction l with
  | nil => simp [num]
  | cons b l ih =>
    rw [num_cons, List.length_cons, Nat.pow_succ]
    have hb := b.toNat_lt
    have : 256 ^ l.length * b.toNat ≤ 256 ^ l.length * 255 := Nat.mul_le_mul_left _ (by omega)
    omega
theorem be_mod (k n : Nat) : be k (n % 256 ^ k) = be k n := by
  suffices h : ∀ k m n, k ≤ m → be k (n % 256 ^ m) = be k n from h k k n (Nat.le_refl _)
  intro k
  induction k with
  | zero => intros; rfl
  | succ k ih =>
    intro m n h
    simp only [be]
    rw [ih m n (by omega)]
    congr 1
    obtain ⟨d, rfl⟩ : ∃ d, m = k + (d + 1) := ⟨m - k - 1, by omega⟩
    rw [Nat.pow_add, Nat.mod_mul_right_div_self]
    apply UInt8.toNat_inj.1
    simp only [UInt8.toNat_ofNat']
    rw [Nat.pow_succ, Nat.mul_comm]
    exact Nat.mod_mul_right_mod _ _ _
theorem be_add (k a n : Nat) (h : n < 256 ^ k) : be k (256 ^ k * a + n) = be k n := by
  rw [← be_mod, Nat.mul_add_mod, be_mod]
theorem be_num (l : List UInt8) : be l.length (num l) = l := by
  induction l with
  | nil => rfl
  | cons b l ih =>
    have h := num_lt l
    simp only [List.length_cons, be]
    rw [num_cons, be_add _ _ _ h, ih]
    congr 1
    rw [Nat.mul_add_div (Nat.pow_pos (by decide)), Nat.div_eq_of_lt h, Nat.add_zero]
    simp
theorem num_be (k n : Nat) (h : n < 256 ^ k) : num (be k n) = n := by
  induction k generalizing n with
  | zero => simp at h; subst h; rfl
  | succ k ih =>
    have h' : n < 256 ^ k * 256 := by rw [← Nat.pow_succ]; exact h
    have hd : n / 256 ^ k < 256 := Nat.div_lt_of_lt_mul h'
    simp only [be]
    rw [num_cons, be_length, ← be_mod k n, ih _ (Nat.mod_lt _ (Nat.pow_pos (by decide)))]
    have : (UInt8.ofNat (n / 256 ^ k)).toNat = n / 256 ^ k := by simp; omega
    rw [this]
    exact Nat.div_add_mod n (256 ^ k)
/-- may a number be written with so many bytes? -/
def mayPut (n s : Int) : Bool := decide (1 ≤ s) && decide (s ≤ 8) && decide (0 ≤ n) && decide (n ≤ 4611686018427387904) && (decide (s = 8) || decide (n < 256 ^ s.toNat))
def putE (n s : Int) : Int := if mayPut n s = true then 0 else 2
def putL (n s : Int) : List UInt8 := if mayPut n s = true then be s.toNat n.toNat else []
theorem putE_good {n s : Int} (h : mayPut n s = true) : putE n s = 0 := by simp [putE, h]
theorem putL_good {n s : Int} (h : mayPut n s = true) : putL n s = be s.toNat n.toNat := by simp [putL, h]
theorem putE_bad {n s : Int} (h : mayPut n s = false) : putE n s = 2 := by simp [putE, h]
theorem putL_bad {n s : Int} (h : mayPut n s = false) : putL n s = [] := by simp [putL, h]
theorem mayPut_iff (n s : Int) : mayPut n s = true ↔ 1 ≤ s ∧ s ≤ 8 ∧ 0 ≤ n ∧ n ≤ 4611686018427387904 ∧ (s = 8 ∨ n < 256 ^ s.toNat) := by
  simp [mayPut, and_assoc]
theorem mayPut_lt {n s : Int} (h : mayPut n s = true) : n.toNat < 256 ^ s.toNat := by
  obtain ⟨h1, h2, h3, h4, h5⟩ := (mayPut_iff n s).1 h
  rcases h5 with h5 | h5
  · subst h5
    have : (256 : Nat) ^ (8 : Int).toNat = 18446744073709551616 := by decide
    omega
  · have : ((n.toNat : Nat) : Int) < ((256 ^ s.toNat : Nat) : Int) := by rw [Int.toNat_of_nonneg h3]; simpa using h5
    omega
/-- the number that bytes are, or why they are none -/
def getE (l : List UInt8) : Int := if l.length = 0 then 10 else if 8 < l.length then 13 else if 4611686018427387904 < num l then 11 else 0
def getN (l : List UInt8) : Int := if getE l = 0 then num l else 0
theorem getE_end {l : List UInt8} (h : l.length = 0) : getE l = 10 := by simp [getE, h]
theorem getE_extra {l : List UInt8} (h : 8 < l.length) : getE l = 13 := by unfold getE; rw [if_neg (by omega), if_pos h]
theorem getE_form {l : List UInt8} (h0 : 0 < l.length) (h : l.length ≤ 8) (hn : 4611686018427387904 < num l) : getE l = 11 := by
  unfold getE; rw [if_neg (by omega), if_neg (by omega), if_pos hn]
theorem getE_ok {l : List UInt8} (h0 : 0 < l.length) (h : l.length ≤ 8) (hn : num l ≤ 4611686018427387904) : getE l = 0 := by
  unfold getE; rw [if_neg (by omega), if_neg (by omega), if_neg (by omega)]
theorem getN_zero {l : List UInt8} (h : getE l ≠ 0) : getN l = 0 := by simp [getN, h]
theorem getN_ok {l : List UInt8} (h : getE l = 0) : getN l = num l := by simp [getN, h]
theorem num_take_succ (l : List UInt8) (k : Nat) (h : k < l.length) : num (l.take (k + 1)) = 256 * num (l.take k) + l[k].toNat := by
  rw [List.take_succ_eq_append_getElem h, num_snoc]
theorem num_take_le (l : List UInt8) (k : Nat) (hl : l.length ≤ 8) : num (l.take k) ≤ 18446744073709551615 := by
  have h1 := num_lt (l.take k)
  have h2 : (l.take k).length ≤ 8 := by simp; omega
  have h3 : 256 ^ (l.take k).length ≤ 256 ^ 8 := Nat.pow_le_pow_right (by decide) h2
  have : (256 : Nat) ^ 8 = 18446744073709551616 := by decide
  omega
end Go.Proofs.YtcjleeclpmgbjaaDoor
