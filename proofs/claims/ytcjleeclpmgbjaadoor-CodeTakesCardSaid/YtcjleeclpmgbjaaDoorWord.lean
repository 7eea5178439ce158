/- The functions of the packages word and chatelaineref01: what they answer. -/
import Derived.Test.YtcjleeclpmgbjaaDoorK
import Derived.Test.YtcjleeclpmgbjaaDoorSpec
set_option linter.unusedVariables false
set_option linter.unusedSimpArgs false
namespace Go.Proofs.YtcjleeclpmgbjaaDoor
open Go.RowKit

/-! ### Same: are two lists of bytes one? -/
theorem info_u8 : (Tryd.prog.info? 5).map (fun i => (i.zero, i.size, i.bytes)) = some (some (.int .u8 0), 1, 1) := by kernel_rfl
/-! ### Put -/
theorem byte_of (m : Nat) : (UInt8.ofNat m).toNat = m % 256 := by simp
/-! ### the document's Put -/
theorem be_get (q m k : Nat) (h : k < q) : (be q m)[k]? = some (UInt8.ofNat (m / 256 ^ (q - 1 - k))) := by
  induction q generalizing k with
  | zero => omega
  | succ q ih =>
    cases k with
    | zero => simp [be]
    | succ k =>
      simp only [be, List.getElem?_cons_succ]
      rw [ih k (by omega)]
      congr 4
      omega

set_option maxRecDepth 100000 in
theorem num_step (l : List UInt8) (k : Nat) (h : k < l.length) : (num (l.take (k + 1)) : Int) = 256 * (num (l.take k) : Int) + bt8 l k := by
  rw [num_take_succ l k h, bt8_get l k h]; norm_cast
/-- bits of 32, turned k places to the right -/
def rotN (x k : Nat) : Nat := x / 2 ^ k + x % 2 ^ k * 2 ^ (32 - k)
def rotr (x : UInt32) (k : Nat) : UInt32 := UInt32.ofNat (rotN x.toNat k)
theorem rotN_lt {x k : Nat} (hx : x < 4294967296) (hk : k ≤ 32) : rotN x k < 4294967296 := by
  unfold rotN
  obtain ⟨j, hj⟩ : ∃ j, j + k = 32 := ⟨32 - k, by omega⟩
  have e : 32 - k = j := by omega
  have e2 : 2 ^ j * 2 ^ k = 4294967296 := by rw [← Nat.pow_add, hj]
  rw [e]
  have h1 : x / 2 ^ k < 2 ^ j := by rw [Nat.div_lt_iff_lt_mul (Nat.pow_pos (by decide)), e2]; exact hx
  have h2 : x % 2 ^ k + 1 ≤ 2 ^ k := Nat.mod_lt _ (Nat.pow_pos (by decide))
  have h3 := Nat.mul_le_mul_right (2 ^ j) h2
  rw [Nat.add_mul, Nat.mul_comm (2 ^ k)] at h3
  omega
theorem rotr_toNat (x : UInt32) (k : Nat) (hk : k ≤ 32) : (rotr x k).toNat = rotN x.toNat k := by
  unfold rotr
  simp only [UInt32.toNat_ofNat']
  exact Nat.mod_eq_of_lt (rotN_lt (by have := x.toNat_lt; omega) hk)
theorem rotr_zero (x : UInt32) : rotr x 0 = x := by
  apply UInt32.toNat_inj.1; rw [rotr_toNat _ _ (by omega)]; simp [rotN, Nat.mod_one]
theorem rotN_succ (x k : Nat) (hk : k < 32) : rotN (rotN x k) 1 = rotN x (k + 1) := by
  unfold rotN
  obtain ⟨j, hj⟩ : ∃ j, k + j = 31 := ⟨31 - k, by omega⟩
  have e1 : 32 - k = j + 1 := by omega
  have e2 : 32 - (k + 1) = j := by omega
  have e3 : 32 - 1 = 31 := rfl
  rw [e1, e2, e3, Nat.pow_succ 2 j, Nat.pow_succ 2 k]
  have hp : 0 < 2 ^ k := Nat.pow_pos (by decide)
  have a1 : x / (2 ^ k * 2) = x / 2 ^ k / 2 := by rw [Nat.div_div_eq_div_mul]
  have a2 : x % (2 ^ k * 2) = x % 2 ^ k + 2 ^ k * (x / 2 ^ k % 2) := Nat.mod_mul
  rw [a1, a2]
  generalize x / 2 ^ k = q
  generalize x % 2 ^ k = r
  have b1 : (q + r * (2 ^ j * 2)) / 2 = q / 2 + r * 2 ^ j := by
    rw [← Nat.mul_assoc]; omega
  have b2 : (q + r * (2 ^ j * 2)) % 2 = q % 2 := by
    rw [← Nat.mul_assoc]; omega
  have b3 : (2 ^ k * (q % 2)) * 2 ^ j = q % 2 * 2 ^ 31 := by
    rw [Nat.mul_comm (2 ^ k), Nat.mul_assoc, ← Nat.pow_add, hj]
  rw [Nat.pow_one, b1, b2, Nat.add_mul, b3]; omega
theorem rotr_succ (x : UInt32) (k : Nat) (hk : k < 32) : rotr (rotr x k) 1 = rotr x (k + 1) := by
  apply UInt32.toNat_inj.1
  rw [rotr_toNat _ _ (by omega), rotr_toNat _ _ (by omega), rotr_toNat _ _ (by omega), rotN_succ _ _ hk]
set_option maxRecDepth 100000 in
theorem or_rot (x k : Nat) (hx : x < 4294967296) (hk : k < 32) : bits .or .u32 ((x : Int) / 2 ^ k) ((x : Int) * 2 ^ (32 - k) % 4294967296) = (rotN x k : Int) := by
  obtain ⟨j, hj⟩ : ∃ j, j + k = 32 := ⟨32 - k, by omega⟩
  have e : 32 - k = j := by omega
  have e2 : 2 ^ j * 2 ^ k = 4294967296 := by rw [← Nat.pow_add, hj]
  have hq : x / 2 ^ k < 2 ^ j := by rw [Nat.div_lt_iff_lt_mul (Nat.pow_pos (by decide)), e2]; exact hx
  have hm : x * 2 ^ j % 4294967296 = x % 2 ^ k * 2 ^ j := by
    rw [← e2, Nat.mul_comm (2 ^ j) (2 ^ k), Nat.mul_mod_mul_right]
  have c1 : (x : Int) / 2 ^ k = ((x / 2 ^ k : Nat) : Int) := by norm_cast
  have c2 : (x : Int) * 2 ^ j % 4294967296 = ((x * 2 ^ j % 4294967296 : Nat) : Int) := by rw [Int.natCast_emod, Int.natCast_mul, Int.natCast_pow]; rfl
  have hlt := rotN_lt hx (Nat.le_of_lt hk)
  unfold rotN at hlt ⊢
  rw [e] at hlt ⊢
  rw [c1, c2, u32_or_nat _ _ (by omega) (Nat.mod_lt _ (by decide)), hm, Nat.or_comm, Nat.mul_comm (x % 2 ^ k), ← Nat.two_pow_add_eq_or_of_lt hq, Nat.add_comm]
theorem and_31 (n : Int) : bits .and .u64 (IntKind.u64.wrap n) 31 = n % 32 := by
  have h := bits_mask .u64 64 (by decide) (by intro n h0 h1; rw [IntKind.wrap_u64]; have : (2 : Int) ^ 64 = 18446744073709551616 := by decide
                                              omega) 5 (by decide) (IntKind.u64.wrap n) (by rw [IntKind.wrap_u64]; omega) (by rw [IntKind.wrap_u64]; omega)
  simp at h
  rw [h, IntKind.wrap_u64]; omega
/-- word.Rotate -/
theorem rotate_ok (x : UInt32) (n : Int) (w : World) (hn : -9223372036854775808 ≤ n ∧ n ≤ 9223372036854775807) :
    Calls Tryd.prog 102 #[.int .u32 (x.toNat : Int), .int .i64 n] w fun e w' => e = .returned (.int .u32 ((rotr x (n % 32).toNat).toNat : Int)) ∧ w' = w := by
  have hb := and_31 n
  have h1 : 0 ≤ n % 32 := by omega
  have h2 : n % 32 ≤ 31 := by omega
  go_enter Tryd.func102, Tryd.ntmps102
  go_wp2
  go_ret
  refine ⟨ret_int ?_, rfl⟩
  rw [rotr_toNat _ _ (by omega), ← or_rot _ _ (by have := x.toNat_lt; omega) (by omega)]
  have : (32 - n % 32).toNat = 32 - (n % 32).toNat := by omega
  rw [this]
/-- the document's Right -/
theorem right_ok (x : UInt32) (w : World) :
    Calls Tryd.prog 90 #[.int .u32 (x.toNat : Int)] w fun e w' => e = .returned (.int .u32 ((rotr x 1).toNat : Int)) ∧ w' = w := by
  have hx := x.toNat_lt
  have e := rotr_toNat x 1 (by omega)
  simp only [rotN, Nat.pow_one, Nat.reduceSub, Nat.reducePow] at e
  have E := hid e
  clear e
  by_cases h : x.toNat % 2 = 1
  · have g : (((x.toNat : Int) % 2) == 1) = true := beq_iff_eq.mpr (by omega)
    have H := hid h
    clear h
    go_enter Tryd.func90, Tryd.ntmps90
    go_wp2
    go_ret
    exact ⟨ret_int (by rw [E.out, H.out]; omega), rfl⟩
  · have g : (((x.toNat : Int) % 2) == 1) = false := beq_eq_false_iff_ne.mpr (by omega)
    have H := hid h
    clear h
    go_enter Tryd.func90, Tryd.ntmps90
    go_wp2
    go_ret
    exact ⟨ret_int (by have := H.out; rw [E.out]; omega), rfl⟩
/-! ### Cut -/
/-! ### numbers of 32 and 64 bits -/
theorem four_cells (x : Nat) : by8 (be 4 x) = [.int .u8 ((x / 16777216 % 256 : Nat) : Int), .int .u8 ((x / 65536 % 256 : Nat) : Int), .int .u8 ((x / 256 % 256 : Nat) : Int), .int .u8 ((x % 256 : Nat) : Int)] := by
  simp [by8, be, byc, byte_of]
theorem rd_alloc (w : World) (cs : List Value) (t : TypeId) : Rd (w.alloc (.cells cs.toArray t)) (some ⟨w.heap.size, 0, none⟩) cs := by
  intro i c hc
  refine ⟨_, rfl, ?_⟩
  have : (⟨w.heap.size, 0, none⟩ : Addr).add i = ⟨w.heap.size, i, none⟩ := by unfold Addr.add; split <;> simp_all
  rw [this, cell_of_row _ _ _ _ _ _ (heap_alloc_new w _)]
  simpa using hc
theorem w32 {n : Int} (h0 : 0 ≤ n) (h1 : n < 4294967296) : IntKind.u32.wrap n = n := by rw [IntKind.wrap_u32]; omega
theorem or32 (i : Nat) (x y : Int) (hx₀ : 0 ≤ x) (hx : x % 2 ^ i = 0) (hx₁ : x < 4294967296) (hy₀ : 0 ≤ y) (hy : y < 2 ^ i) (hy₁ : y < 4294967296) : bits .or .u32 x y = x + y :=
  bits_join .u32 32 (by decide) (by intro n h0 h1; exact w32 h0 h1) i x y hx₀ hx hx₁ hy₀ hy hy₁
set_option maxRecDepth 100000 in
/-- word.Put32 -/
theorem put32_ok (x : UInt32) (w : World) :
    Calls Tryd.prog 70 #[.int .u32 (x.toNat : Int)] w fun e w' => ∃ A, e = .returned (.slice (some A) 4 4) ∧ Below w.heap.size w w' ∧ w.heap.size ≤ A.block ∧ Rd w' (some A) (by8 (be 4 x.toNat)) := by
  have hx := x.toNat_lt
  have i0 : ∀ w, (Instr.index 133 (.agg #[.int .u64 24, .int .u64 16, .int .u64 8, .int .u64 0]) (.int .i64 0)).run Tryd.prog w = .ok (.int .u64 24) w := fun _ => by kernel_rfl
  have i1 : ∀ w, (Instr.index 133 (.agg #[.int .u64 24, .int .u64 16, .int .u64 8, .int .u64 0]) (.int .i64 1)).run Tryd.prog w = .ok (.int .u64 16) w := fun _ => by kernel_rfl
  have i2 : ∀ w, (Instr.index 133 (.agg #[.int .u64 24, .int .u64 16, .int .u64 8, .int .u64 0]) (.int .i64 2)).run Tryd.prog w = .ok (.int .u64 8) w := fun _ => by kernel_rfl
  have i3 : ∀ w, (Instr.index 133 (.agg #[.int .u64 24, .int .u64 16, .int .u64 8, .int .u64 0]) (.int .i64 3)).run Tryd.prog w = .ok (.int .u64 0) w := fun _ => by kernel_rfl
  go_enter Tryd.func70, Tryd.ntmps70
  go_wp2
  refine wp_loop_rounds 5 ?_
  rw [rounds_succ]
  go_wp2
  rw [rounds_succ]
  go_wp2
  rw [rounds_succ]
  go_wp2
  rw [rounds_succ]
  go_wp2
  rw [rounds_succ]
  go_wp2
  go_ret
  refine ⟨_, rfl, (Below.refl _ _).alloc (Nat.le_refl _) _, Nat.le_refl _, ?_⟩
  rw [four_cells]
  have e0 : ((x.toNat / 16777216 % 256 : Nat) : Int) = (x.toNat : Int) / 16777216 := by omega
  rw [e0]
  exact rd_alloc _ _ _
set_option maxRecDepth 100000 in
/-- word.Get32 -/
theorem get32_ok (A : Option Addr) (l : List UInt8) (c : Nat) (w : World) (ha : Rd w A (by8 l)) (hl : l.length = 4) :
    Calls Tryd.prog 101 #[.slice A 4 c] w fun e w' => e = .returned (.tuple #[.int .u32 (num l), .bool true]) ∧ ∃ j, w' = w.drewN j := by
  obtain ⟨a, b, c', d, rfl⟩ : ∃ a b c d, l = [a, b, c, d] := by
    match l, hl with
    | [a, b, c, d], _ => exact ⟨a, b, c, d, rfl⟩
  obtain ⟨ad, rfl, h0⟩ := ha.byte 0 (by simp)
  obtain ⟨_, e, h1⟩ := ha.byte 1 (by simp); cases e
  obtain ⟨_, e, h2⟩ := ha.byte 2 (by simp); cases e
  obtain ⟨_, e, h3⟩ := ha.byte 3 (by simp); cases e
  have r0 := bt8_range [a, b, c', d] 0
  have r1 := bt8_range [a, b, c', d] 1
  have r2 := bt8_range [a, b, c', d] 2
  have r3 := bt8_range [a, b, c', d] 3
  have z : ad.add 0 = ad := by simp [Addr.add]
  rw [z] at h0
  clear z
  have E : (num [a, b, c', d] : Int) = bt8 [a, b, c', d] 0 * 16777216 + bt8 [a, b, c', d] 1 * 65536 + bt8 [a, b, c', d] 2 * 256 + bt8 [a, b, c', d] 3 := by
    simp [num, bt8]; omega
  have l1 : ad.add 1 = ⟨ad.block, ad.off + 1, none⟩ := by simp [Addr.add]
  have l2 : ad.add 2 = ⟨ad.block, ad.off + 2, none⟩ := by simp [Addr.add]
  have l3 : ad.add 3 = ⟨ad.block, ad.off + 3, none⟩ := by simp [Addr.add]
  rw [l1] at h1; rw [l2] at h2; rw [l3] at h3
  clear l1 l2 l3
  have E' := hid E
  clear E
  generalize bt8 [a, b, c', d] 0 = b0 at *
  generalize bt8 [a, b, c', d] 1 = b1 at *
  generalize bt8 [a, b, c', d] 2 = b2 at *
  generalize bt8 [a, b, c', d] 3 = b3 at *
  have k1 := w32 (n := b0) (by omega) (by omega)
  have k2 := w32 (n := b0 * 16777216) (by omega) (by omega)
  have k3 := w32 (n := b1) (by omega) (by omega)
  have k4 := w32 (n := b1 * 65536) (by omega) (by omega)
  have k5 := w32 (n := b2) (by omega) (by omega)
  have k6 := w32 (n := b2 * 256) (by omega) (by omega)
  have k7 := w32 (n := b3) (by omega) (by omega)
  have k8 := or32 24 (b0 * 16777216) (b1 * 65536) (by omega) (by omega) (by omega) (by omega) (by omega) (by omega)
  have k9 := or32 16 (b0 * 16777216 + b1 * 65536) (b2 * 256) (by omega) (by omega) (by omega) (by omega) (by omega) (by omega)
  have k10 := or32 8 (b0 * 16777216 + b1 * 65536 + b2 * 256) b3 (by omega) (by omega) (by omega) (by omega) (by omega) (by omega)
  clear ha
  go_enter Tryd.func101, Tryd.ntmps101
  go_wp2
  go_quiet (fail)
  go_wp2
  go_ret2
  rw [E'.out]
  exact ⟨rfl, _, rfl⟩
end Go.Proofs.YtcjleeclpmgbjaaDoor
