/- The functions of the packages word and chatelaineref01: what they answer. -/
import Derived.Test.YtdldlimadmlpnaaK
import Derived.Test.YtdldlimadmlpnaaSpec
set_option linter.unusedVariables false
set_option linter.unusedSimpArgs false
namespace Go.Proofs.Ytdldlimadmlpnaa
open Go.RowKit

/-! ### Same: are two lists of bytes one? -/
theorem take_succ_eq {α : Type} {a b : List α} {k : Nat} (h : a.take k = b.take k) (ha : k < a.length) (hb : k < b.length) (e : a[k] = b[k]) : a.take (k + 1) = b.take (k + 1) := by
  rw [List.take_succ_eq_append_getElem ha, List.take_succ_eq_append_getElem hb, h, e]
theorem bt8_inj {a b : List UInt8} {k : Nat} (ha : k < a.length) (hb : k < b.length) (h : bt8 a k = bt8 b k) : a[k] = b[k] := by
  rw [bt8_get a k ha, bt8_get b k hb] at h; exact UInt8.toNat_inj.1 (by omega)
theorem info_u8 : (Try.prog.info? 5).map (fun i => (i.zero, i.size, i.bytes)) = some (some (.int .u8 0), 1, 1) := by kernel_rfl
theorem info_int : (Try.prog.info? 3).map (fun i => (i.zero, i.size, i.bytes)) = some (some (.int .i64 0), 1, 8) := by kernel_rfl

/-! ### Put -/
theorem byte_of (m : Nat) : (UInt8.ofNat m).toNat = m % 256 := by simp
theorem set_be (j k m : Nat) (hj : 0 < j) : (List.replicate j (Value.int .u8 0) ++ by8 (be k m)).set (j - 1) (.int .u8 (((m / 256 ^ k) % 256 : Nat) : Int)) = List.replicate (j - 1) (Value.int .u8 0) ++ by8 (be (k + 1) m) := by
  obtain ⟨i, rfl⟩ : ∃ i, j = i + 1 := ⟨j - 1, by omega⟩
  rw [List.set_append_left _ _ (by simp)]
  simp only [Nat.add_sub_cancel, List.replicate_succ', be]
  rw [List.set_append_right _ _ (by simp)]
  simp [by8, byc, byte_of]
theorem shift_byte (n : Int) (k : Nat) (h : 0 ≤ n) : n / 2 ^ (8 * (k : Int)).toNat = ((n.toNat / 256 ^ k : Nat) : Int) := by
  have : (8 * (k : Int)).toNat = 8 * k := by omega
  rw [this, Int.pow_mul, Int.natCast_ediv, Int.toNat_of_nonneg h]; norm_cast
theorem int_zero_ne (l : List UInt8) (h : 0 < l.length) : ((l.length : Int) == 0) = false := by
  simp; intro e; subst e; simp at h
def lowV (k m : Nat) : List Value := (List.range k).map fun i => .int .i64 ((m / 256 ^ i % 256 : Nat) : Int)
theorem lowV_succ (k m : Nat) : lowV (k + 1) m = lowV k m ++ [.int .i64 ((m / 256 ^ k % 256 : Nat) : Int)] := by
  simp [lowV, List.range_succ]
theorem lowV_get (k m i : Nat) (h : i < k) : (lowV k m)[i]? = some (.int .i64 ((m / 256 ^ i % 256 : Nat) : Int)) := by
  simp [lowV, h]
theorem be_get (q m k : Nat) (h : k < q) : (be q m)[k]? = some (UInt8.ofNat (m / 256 ^ (q - 1 - k))) := by
  induction q generalizing k with
  | zero => omega
  | succ q ih =>
    cases k with
    | zero => simp [be]
    | succ k =>
      simp only [be, List.getElem?_cons_succ]
      rw [ih k (by omega)]
      congr 4
      omega

theorem or_shift8 (X : Nat) (b : Int) (h0 : 0 ≤ b) (h1 : b ≤ 255) (hX : X ≤ 72057594037927935) : bits .or .u64 ((X : Int) * 256) b = (X : Int) * 256 + b :=
  bits_join .u64 64 (by decide) (by intro n h0 h1; rw [IntKind.wrap_u64]; have : (2 : Int) ^ 64 = 18446744073709551616 := by decide
                                    omega) 8 _ _ (by omega) (by omega) (by omega) h0 (by omega) (by omega)
theorem get_bound (l : List UInt8) (k : Nat) (hk : k < l.length) (hl : l.length ≤ 8) : num (l.take k) ≤ 72057594037927935 := by
  have h1 := num_lt (l.take k)
  have h2 : (l.take k).length ≤ 7 := by simp; omega
  have h3 : 256 ^ (l.take k).length ≤ 256 ^ 7 := Nat.pow_le_pow_right (by decide) h2
  have : (256 : Nat) ^ 7 = 72057594037927936 := by decide
  omega
set_option maxRecDepth 100000 in
theorem num_step (l : List UInt8) (k : Nat) (h : k < l.length) : (num (l.take (k + 1)) : Int) = 256 * (num (l.take k) : Int) + bt8 l k := by
  rw [num_take_succ l k h, bt8_get l k h]; norm_cast
/-- bits of 32, turned k places to the right -/
def rotN (x k : Nat) : Nat := x / 2 ^ k + x % 2 ^ k * 2 ^ (32 - k)
def rotr (x : UInt32) (k : Nat) : UInt32 := UInt32.ofNat (rotN x.toNat k)
theorem rotN_lt {x k : Nat} (hx : x < 4294967296) (hk : k ≤ 32) : rotN x k < 4294967296 := by
  unfold rotN
  obtain ⟨j, hj⟩ : ∃ j, j + k = 32 := ⟨32 - k, by omega⟩
  have e : 32 - k = j := by omega
  have e2 : 2 ^ j * 2 ^ k = 4294967296 := by rw [← Nat.pow_add, hj]
  rw [e]
  have h1 : x / 2 ^ k < 2 ^ j := by rw [Nat.div_lt_iff_lt_mul (Nat.pow_pos (by decide)), e2]; exact hx
  have h2 : x % 2 ^ k + 1 ≤ 2 ^ k := Nat.mod_lt _ (Nat.pow_pos (by decide))
  have h3 := Nat.mul_le_mul_right (2 ^ j) h2
  rw [Nat.add_mul, Nat.mul_comm (2 ^ k)] at h3
  omega
theorem rotr_toNat (x : UInt32) (k : Nat) (hk : k ≤ 32) : (rotr x k).toNat = rotN x.toNat k := by
  unfold rotr
  simp only [UInt32.toNat_ofNat']
  exact Nat.mod_eq_of_lt (rotN_lt (by have := x.toNat_lt; omega) hk)
theorem rotr_zero (x : UInt32) : rotr x 0 = x := by
  apply UInt32.toNat_inj.1; rw [rotr_toNat _ _ (by omega)]; simp [rotN, Nat.mod_one]
theorem rotN_succ (x k : Nat) (hk : k < 32) : rotN (rotN x k) 1 = rotN x (k + 1) := by
  unfold rotN
  obtain ⟨j, hj⟩ : ∃ j, k + j = 31 := ⟨31 - k, by omega⟩
  have e1 : 32 - k = j + 1 := by omega
  have e2 : 32 - (k + 1) = j := by omega
  have e3 : 32 - 1 = 31 := rfl
  rw [e1, e2, e3, Nat.pow_succ 2 j, Nat.pow_succ 2 k]
  have hp : 0 < 2 ^ k := Nat.pow_pos (by decide)
  have a1 : x / (2 ^ k * 2) = x / 2 ^ k / 2 := by rw [Nat.div_div_eq_div_mul]
  have a2 : x % (2 ^ k * 2) = x % 2 ^ k + 2 ^ k * (x / 2 ^ k % 2) := Nat.mod_mul
  rw [a1, a2]
  generalize x / 2 ^ k = q
  generalize x % 2 ^ k = r
  have b1 : (q + r * (2 ^ j * 2)) / 2 = q / 2 + r * 2 ^ j := by
    rw [← Nat.mul_assoc]; omega
  have b2 : (q + r * (2 ^ j * 2)) % 2 = q % 2 := by
    rw [← Nat.mul_assoc]; omega
  have b3 : (2 ^ k * (q % 2)) * 2 ^ j = q % 2 * 2 ^ 31 := by
    rw [Nat.mul_comm (2 ^ k), Nat.mul_assoc, ← Nat.pow_add, hj]
  rw [Nat.pow_one, b1, b2, Nat.add_mul, b3]; omega
theorem rotr_succ (x : UInt32) (k : Nat) (hk : k < 32) : rotr (rotr x k) 1 = rotr x (k + 1) := by
  apply UInt32.toNat_inj.1
  rw [rotr_toNat _ _ (by omega), rotr_toNat _ _ (by omega), rotr_toNat _ _ (by omega), rotN_succ _ _ hk]
theorem rotr_full (x : UInt32) : rotr x 32 = x := by
  apply UInt32.toNat_inj.1; rw [rotr_toNat _ _ (by omega)]
  have := x.toNat_lt
  unfold rotN
  have e : (2 : Nat) ^ 32 = 4294967296 := by decide
  rw [e, Nat.div_eq_of_lt (by omega), Nat.mod_eq_of_lt (by omega)]; simp
theorem rotr_add (x : UInt32) (k j : Nat) (h : k + j ≤ 32) : rotr (rotr x k) j = rotr x (k + j) := by
  induction j with
  | zero => rw [rotr_zero]; rfl
  | succ j ih => rw [← rotr_succ _ j (by omega), ih (by omega), rotr_succ _ _ (by omega)]; rfl
set_option maxRecDepth 100000 in
theorem or_rot (x k : Nat) (hx : x < 4294967296) (hk : k < 32) : bits .or .u32 ((x : Int) / 2 ^ k) ((x : Int) * 2 ^ (32 - k) % 4294967296) = (rotN x k : Int) := by
  obtain ⟨j, hj⟩ : ∃ j, j + k = 32 := ⟨32 - k, by omega⟩
  have e : 32 - k = j := by omega
  have e2 : 2 ^ j * 2 ^ k = 4294967296 := by rw [← Nat.pow_add, hj]
  have hq : x / 2 ^ k < 2 ^ j := by rw [Nat.div_lt_iff_lt_mul (Nat.pow_pos (by decide)), e2]; exact hx
  have hm : x * 2 ^ j % 4294967296 = x % 2 ^ k * 2 ^ j := by
    rw [← e2, Nat.mul_comm (2 ^ j) (2 ^ k), Nat.mul_mod_mul_right]
  have c1 : (x : Int) / 2 ^ k = ((x / 2 ^ k : Nat) : Int) := by norm_cast
  have c2 : (x : Int) * 2 ^ j % 4294967296 = ((x * 2 ^ j % 4294967296 : Nat) : Int) := by rw [Int.natCast_emod, Int.natCast_mul, Int.natCast_pow]; rfl
  have hlt := rotN_lt hx (Nat.le_of_lt hk)
  unfold rotN at hlt ⊢
  rw [e] at hlt ⊢
  rw [c1, c2, u32_or_nat _ _ (by omega) (Nat.mod_lt _ (by decide)), hm, Nat.or_comm, Nat.mul_comm (x % 2 ^ k), ← Nat.two_pow_add_eq_or_of_lt hq, Nat.add_comm]
theorem and_31 (n : Int) : bits .and .u64 (IntKind.u64.wrap n) 31 = n % 32 := by
  have h := bits_mask .u64 64 (by decide) (by intro n h0 h1; rw [IntKind.wrap_u64]; have : (2 : Int) ^ 64 = 18446744073709551616 := by decide
                                              omega) 5 (by decide) (IntKind.u64.wrap n) (by rw [IntKind.wrap_u64]; omega) (by rw [IntKind.wrap_u64]; omega)
  simp at h
  rw [h, IntKind.wrap_u64]; omega
/-- new memory that can be read -/
def NewRd (w w' : World) (v : Value) (n : Nat) (cs : List Value) : Prop := Below w.heap.size w w' ∧ ∃ A c, v = .slice (some A) n c ∧ n ≤ c ∧ c ≤ maxLen ∧ w.heap.size ≤ A.block ∧ Rd w' (some A) cs
theorem four_cells (x : Nat) : by8 (be 4 x) = [.int .u8 ((x / 16777216 % 256 : Nat) : Int), .int .u8 ((x / 65536 % 256 : Nat) : Int), .int .u8 ((x / 256 % 256 : Nat) : Int), .int .u8 ((x % 256 : Nat) : Int)] := by
  simp [by8, be, byc, byte_of]
theorem rd_alloc (w : World) (cs : List Value) (t : TypeId) : Rd (w.alloc (.cells cs.toArray t)) (some ⟨w.heap.size, 0, none⟩) cs := by
  intro i c hc
  refine ⟨_, rfl, ?_⟩
  have : (⟨w.heap.size, 0, none⟩ : Addr).add i = ⟨w.heap.size, i, none⟩ := by unfold Addr.add; split <;> simp_all
  rw [this, cell_of_row _ _ _ _ _ _ (heap_alloc_new w _)]
  simpa using hc
theorem w32 {n : Int} (h0 : 0 ≤ n) (h1 : n < 4294967296) : IntKind.u32.wrap n = n := by rw [IntKind.wrap_u32]; omega
theorem or32 (i : Nat) (x y : Int) (hx₀ : 0 ≤ x) (hx : x % 2 ^ i = 0) (hx₁ : x < 4294967296) (hy₀ : 0 ≤ y) (hy : y < 2 ^ i) (hy₁ : y < 4294967296) : bits .or .u32 x y = x + y :=
  bits_join .u32 32 (by decide) (by intro n h0 h1; exact w32 h0 h1) i x y hx₀ hx hx₁ hy₀ hy hy₁
end Go.Proofs.Ytdldlimadmlpnaa
