/- Texts put together. -/
import Derived.Test.YtohgmggdfmjgnaaK
import Derived.Test.YtohgmggdfmjgnaaSpec
import Derived.Test.YtohgmggdfmjgnaaMem
import Derived.Deep.MidRow
import Derived.Deep.RegionHeld3
import Derived.Laws.StructEq
set_option linter.unusedVariables false
set_option linter.unusedSimpArgs false
namespace Go.Proofs.Ytohgmggdfmjgnaa
open Go.RowKit
section

/-! ### Same: are two lists of bytes one? -/
theorem info_u8 : (Try.prog.info? 5).map (fun i => (i.zero, i.size, i.bytes)) = some (some (.int .u8 0), 1, 1) := by kernel_rfl
/-! ### Put -/
theorem byte_of (m : Nat) : (UInt8.ofNat m).toNat = m % 256 := by simp
/-! ### the document's Put -/
theorem be_get (q m k : Nat) (h : k < q) : (be q m)[k]? = some (UInt8.ofNat (m / 256 ^ (q - 1 - k))) := by
  induction q generalizing k with
  | zero => omega
  | succ q ih =>
    cases k with
    | zero => simp [be]
    | succ k =>
      simp only [be, List.getElem?_cons_succ]
      rw [ih k (by omega)]
      congr 4
      omega

set_option maxRecDepth 100000 in
theorem num_step (l : List UInt8) (k : Nat) (h : k < l.length) : (num (l.take (k + 1)) : Int) = 256 * (num (l.take k) : Int) + bt8 l k := by
  rw [num_take_succ l k h, bt8_get l k h]; norm_cast
/-- bits of 32, turned k places to the right -/
def rotN (x k : Nat) : Nat := x / 2 ^ k + x % 2 ^ k * 2 ^ (32 - k)
def rotr (x : UInt32) (k : Nat) : UInt32 := UInt32.ofNat (rotN x.toNat k)
theorem rotN_lt {x k : Nat} (hx : x < 4294967296) (hk : k ≤ 32) : rotN x k < 4294967296 := by
  unfold rotN
  obtain ⟨j, hj⟩ : ∃ j, j + k = 32 := ⟨32 - k, by omega⟩
  have e : 32 - k = j := by omega
  have e2 : 2 ^ j * 2 ^ k = 4294967296 := by rw [← Nat.pow_add, hj]
  rw [e]
  have h1 : x / 2 ^ k < 2 ^ j := by rw [Nat.div_lt_iff_lt_mul (Nat.pow_pos (by decide)), e2]; exact hx
  have h2 : x % 2 ^ k + 1 ≤ 2 ^ k := Nat.mod_lt _ (Nat.pow_pos (by decide))
  have h3 := Nat.mul_le_mul_right (2 ^ j) h2
  rw [Nat.add_mul, Nat.mul_comm (2 ^ k)] at h3
  omega
theorem rotr_toNat (x : UInt32) (k : Nat) (hk : k ≤ 32) : (rotr x k).toNat = rotN x.toNat k := by
  unfold rotr
  simp only [UInt32.toNat_ofNat']
  exact Nat.mod_eq_of_lt (rotN_lt (by have := x.toNat_lt; omega) hk)
theorem rotr_zero (x : UInt32) : rotr x 0 = x := by
  apply UInt32.toNat_inj.1; rw [rotr_toNat _ _ (by omega)]; simp [rotN, Nat.mod_one]
theorem rotN_succ (x k : Nat) (hk : k < 32) : rotN (rotN x k) 1 = rotN x (k + 1) := by
  unfold rotN
  obtain ⟨j, hj⟩ : ∃ j, k + j = 31 := ⟨31 - k, by omega⟩
  have e1 : 32 - k = j + 1 := by omega
  have e2 : 32 - (k + 1) = j := by omega
  have e3 : 32 - 1 = 31 := rfl
  rw [e1, e2, e3, Nat.pow_succ 2 j, Nat.pow_succ 2 k]
  have hp : 0 < 2 ^ k := Nat.pow_pos (by decide)
  have a1 : x / (2 ^ k * 2) = x / 2 ^ k / 2 := by rw [Nat.div_div_eq_div_mul]
  have a2 : x % (2 ^ k * 2) = x % 2 ^ k + 2 ^ k * (x / 2 ^ k % 2) := Nat.mod_mul
  rw [a1, a2]
  generalize x / 2 ^ k = q
  generalize x % 2 ^ k = r
  have b1 : (q + r * (2 ^ j * 2)) / 2 = q / 2 + r * 2 ^ j := by
    rw [← Nat.mul_assoc]; omega
  have b2 : (q + r * (2 ^ j * 2)) % 2 = q % 2 := by
    rw [← Nat.mul_assoc]; omega
  have b3 : (2 ^ k * (q % 2)) * 2 ^ j = q % 2 * 2 ^ 31 := by
    rw [Nat.mul_comm (2 ^ k), Nat.mul_assoc, ← Nat.pow_add, hj]
  rw [Nat.pow_one, b1, b2, Nat.add_mul, b3]; omega
theorem rotr_succ (x : UInt32) (k : Nat) (hk : k < 32) : rotr (rotr x k) 1 = rotr x (k + 1) := by
  apply UInt32.toNat_inj.1
  rw [rotr_toNat _ _ (by omega), rotr_toNat _ _ (by omega), rotr_toNat _ _ (by omega), rotN_succ _ _ hk]
set_option maxRecDepth 100000 in
theorem or_rot (x k : Nat) (hx : x < 4294967296) (hk : k < 32) : bits .or .u32 ((x : Int) / 2 ^ k) ((x : Int) * 2 ^ (32 - k) % 4294967296) = (rotN x k : Int) := by
  obtain ⟨j, hj⟩ : ∃ j, j + k = 32 := ⟨32 - k, by omega⟩
  have e : 32 - k = j := by omega
  have e2 : 2 ^ j * 2 ^ k = 4294967296 := by rw [← Nat.pow_add, hj]
  have hq : x / 2 ^ k < 2 ^ j := by rw [Nat.div_lt_iff_lt_mul (Nat.pow_pos (by decide)), e2]; exact hx
  have hm : x * 2 ^ j % 4294967296 = x % 2 ^ k * 2 ^ j := by
    rw [← e2, Nat.mul_comm (2 ^ j) (2 ^ k), Nat.mul_mod_mul_right]
  have c1 : (x : Int) / 2 ^ k = ((x / 2 ^ k : Nat) : Int) := by norm_cast
  have c2 : (x : Int) * 2 ^ j % 4294967296 = ((x * 2 ^ j % 4294967296 : Nat) : Int) := by rw [Int.natCast_emod, Int.natCast_mul, Int.natCast_pow]; rfl
  have hlt := rotN_lt hx (Nat.le_of_lt hk)
  unfold rotN at hlt ⊢
  rw [e] at hlt ⊢
  rw [c1, c2, u32_or_nat _ _ (by omega) (Nat.mod_lt _ (by decide)), hm, Nat.or_comm, Nat.mul_comm (x % 2 ^ k), ← Nat.two_pow_add_eq_or_of_lt hq, Nat.add_comm]
theorem and_31 (n : Int) : bits .and .u64 (IntKind.u64.wrap n) 31 = n % 32 := by
  have h := bits_mask .u64 64 (by decide) (by intro n h0 h1; rw [IntKind.wrap_u64]; have : (2 : Int) ^ 64 = 18446744073709551616 := by decide
                                              omega) 5 (by decide) (IntKind.u64.wrap n) (by rw [IntKind.wrap_u64]; omega) (by rw [IntKind.wrap_u64]; omega)
  simp at h
  rw [h, IntKind.wrap_u64]; omega
/-- word.Rotate -/
theorem rotate_ok (x : UInt32) (n : Int) (w : World) (hn : -9223372036854775808 ≤ n ∧ n ≤ 9223372036854775807) :
    Calls Try.prog 89 #[.int .u32 (x.toNat : Int), .int .i64 n] w fun e w' => e = .returned (.int .u32 ((rotr x (n % 32).toNat).toNat : Int)) ∧ w' = w := by
  have hb := and_31 n
  have h1 : 0 ≤ n % 32 := by omega
  have h2 : n % 32 ≤ 31 := by omega
  go_enter Try.func89, Try.ntmps89
  go_wp2
  go_ret
  refine ⟨ret_int ?_, rfl⟩
  rw [rotr_toNat _ _ (by omega), ← or_rot _ _ (by have := x.toNat_lt; omega) (by omega)]
  have : (32 - n % 32).toNat = 32 - (n % 32).toNat := by omega
  rw [this]
/-- the document's Right -/
theorem right_ok (x : UInt32) (w : World) :
    Calls Try.prog 108 #[.int .u32 (x.toNat : Int)] w fun e w' => e = .returned (.int .u32 ((rotr x 1).toNat : Int)) ∧ w' = w := by
  have hx := x.toNat_lt
  have e := rotr_toNat x 1 (by omega)
  simp only [rotN, Nat.pow_one, Nat.reduceSub, Nat.reducePow] at e
  have E := hid e
  clear e
  by_cases h : x.toNat % 2 = 1
  · have g : (((x.toNat : Int) % 2) == 1) = true := beq_iff_eq.mpr (by omega)
    have H := hid h
    clear h
    go_enter Try.func108, Try.ntmps108
    go_wp2
    go_ret
    exact ⟨ret_int (by rw [E.out, H.out]; omega), rfl⟩
  · have g : (((x.toNat : Int) % 2) == 1) = false := beq_eq_false_iff_ne.mpr (by omega)
    have H := hid h
    clear h
    go_enter Try.func108, Try.ntmps108
    go_wp2
    go_ret
    exact ⟨ret_int (by have := H.out; rw [E.out]; omega), rfl⟩
/-! ### Cut -/
theorem four_cells (x : Nat) : by8 (be 4 x) = [.int .u8 ((x / 16777216 % 256 : Nat) : Int), .int .u8 ((x / 65536 % 256 : Nat) : Int), .int .u8 ((x / 256 % 256 : Nat) : Int), .int .u8 ((x % 256 : Nat) : Int)] := by
  simp [by8, be, byc, byte_of]
theorem rd_alloc (w : World) (cs : List Value) (t : TypeId) : Rd (w.alloc (.cells cs.toArray t)) (some ⟨w.heap.size, 0, none⟩) cs := by
  intro i c hc
  refine ⟨_, rfl, ?_⟩
  have : (⟨w.heap.size, 0, none⟩ : Addr).add i = ⟨w.heap.size, i, none⟩ := by unfold Addr.add; split <;> simp_all
  rw [this, cell_of_row _ _ _ _ _ _ (heap_alloc_new w _)]
  simpa using hc
theorem w32 {n : Int} (h0 : 0 ≤ n) (h1 : n < 4294967296) : IntKind.u32.wrap n = n := by rw [IntKind.wrap_u32]; omega
theorem or32 (i : Nat) (x y : Int) (hx₀ : 0 ≤ x) (hx : x % 2 ^ i = 0) (hx₁ : x < 4294967296) (hy₀ : 0 ≤ y) (hy : y < 2 ^ i) (hy₁ : y < 4294967296) : bits .or .u32 x y = x + y :=
  bits_join .u32 32 (by decide) (by intro n h0 h1; exact w32 h0 h1) i x y hx₀ hx hx₁ hy₀ hy hy₁
set_option maxRecDepth 100000 in
/-- word.Put32 -/
theorem put32_ok (x : UInt32) (w : World) :
    Calls Try.prog 90 #[.int .u32 (x.toNat : Int)] w fun e w' => ∃ A, e = .returned (.slice (some A) 4 4) ∧ Below w.heap.size w w' ∧ w.heap.size ≤ A.block ∧ Rd w' (some A) (by8 (be 4 x.toNat)) := by
  have hx := x.toNat_lt
  have i0 : ∀ w, (Instr.index 135 (.agg #[.int .u64 24, .int .u64 16, .int .u64 8, .int .u64 0]) (.int .i64 0)).run Try.prog w = .ok (.int .u64 24) w := fun _ => by kernel_rfl
  have i1 : ∀ w, (Instr.index 135 (.agg #[.int .u64 24, .int .u64 16, .int .u64 8, .int .u64 0]) (.int .i64 1)).run Try.prog w = .ok (.int .u64 16) w := fun _ => by kernel_rfl
  have i2 : ∀ w, (Instr.index 135 (.agg #[.int .u64 24, .int .u64 16, .int .u64 8, .int .u64 0]) (.int .i64 2)).run Try.prog w = .ok (.int .u64 8) w := fun _ => by kernel_rfl
  have i3 : ∀ w, (Instr.index 135 (.agg #[.int .u64 24, .int .u64 16, .int .u64 8, .int .u64 0]) (.int .i64 3)).run Try.prog w = .ok (.int .u64 0) w := fun _ => by kernel_rfl
  go_enter Try.func90, Try.ntmps90
  go_wp2
  refine wp_loop_rounds 5 ?_
  rw [rounds_succ]
  go_wp2
  rw [rounds_succ]
  go_wp2
  rw [rounds_succ]
  go_wp2
  rw [rounds_succ]
  go_wp2
  rw [rounds_succ]
  go_wp2
  go_ret
  refine ⟨_, rfl, (Below.refl _ _).alloc (Nat.le_refl _) _, Nat.le_refl _, ?_⟩
  rw [four_cells]
  have e0 : ((x.toNat / 16777216 % 256 : Nat) : Int) = (x.toNat : Int) / 16777216 := by omega
  rw [e0]
  exact rd_alloc _ _ _
set_option maxRecDepth 100000 in
/-- word.Get32 -/
theorem get32_ok (A : Option Addr) (l : List UInt8) (c : Nat) (w : World) (ha : Rd w A (by8 l)) (hl : l.length = 4) :
    Calls Try.prog 87 #[.slice A 4 c] w fun e w' => e = .returned (.tuple #[.int .u32 (num l), .bool true]) ∧ ∃ j, w' = w.drewN j := by
  obtain ⟨a, b, c', d, rfl⟩ : ∃ a b c d, l = [a, b, c, d] := by
    match l, hl with
    | [a, b, c, d], _ => exact ⟨a, b, c, d, rfl⟩
  obtain ⟨ad, rfl, h0⟩ := ha.byte 0 (by simp)
  obtain ⟨_, e, h1⟩ := ha.byte 1 (by simp); cases e
  obtain ⟨_, e, h2⟩ := ha.byte 2 (by simp); cases e
  obtain ⟨_, e, h3⟩ := ha.byte 3 (by simp); cases e
  have r0 := bt8_range [a, b, c', d] 0
  have r1 := bt8_range [a, b, c', d] 1
  have r2 := bt8_range [a, b, c', d] 2
  have r3 := bt8_range [a, b, c', d] 3
  have z : ad.add 0 = ad := by simp [Addr.add]
  rw [z] at h0
  clear z
  have E : (num [a, b, c', d] : Int) = bt8 [a, b, c', d] 0 * 16777216 + bt8 [a, b, c', d] 1 * 65536 + bt8 [a, b, c', d] 2 * 256 + bt8 [a, b, c', d] 3 := by
    simp [num, bt8]; omega
  have l1 : ad.add 1 = ⟨ad.block, ad.off + 1, none⟩ := by simp [Addr.add]
  have l2 : ad.add 2 = ⟨ad.block, ad.off + 2, none⟩ := by simp [Addr.add]
  have l3 : ad.add 3 = ⟨ad.block, ad.off + 3, none⟩ := by simp [Addr.add]
  rw [l1] at h1; rw [l2] at h2; rw [l3] at h3
  clear l1 l2 l3
  have E' := hid E
  clear E
  generalize bt8 [a, b, c', d] 0 = b0 at *
  generalize bt8 [a, b, c', d] 1 = b1 at *
  generalize bt8 [a, b, c', d] 2 = b2 at *
  generalize bt8 [a, b, c', d] 3 = b3 at *
  have k1 := w32 (n := b0) (by omega) (by omega)
  have k2 := w32 (n := b0 * 16777216) (by omega) (by omega)
  have k3 := w32 (n := b1) (by omega) (by omega)
  have k4 := w32 (n := b1 * 65536) (by omega) (by omega)
  have k5 := w32 (n := b2) (by omega) (by omega)
  have k6 := w32 (n := b2 * 256) (by omega) (by omega)
  have k7 := w32 (n := b3) (by omega) (by omega)
  have k8 := or32 24 (b0 * 16777216) (b1 * 65536) (by omega) (by omega) (by omega) (by omega) (by omega) (by omega)
  have k9 := or32 16 (b0 * 16777216 + b1 * 65536) (b2 * 256) (by omega) (by omega) (by omega) (by omega) (by omega) (by omega)
  have k10 := or32 8 (b0 * 16777216 + b1 * 65536 + b2 * 256) b3 (by omega) (by omega) (by omega) (by omega) (by omega) (by omega)
  clear ha
  go_enter Try.func87, Try.ntmps87
  go_wp2
  go_quiet (fail)
  go_wp2
  go_ret2
  rw [E'.out]
  exact ⟨rfl, _, rfl⟩
end
section
section


theorem u32_split (x : UInt64) : ∃ h l : UInt32, (h.toNat : Int) = (x.toNat : Int) / 4294967296 ∧ (l.toNat : Int) = (x.toNat : Int) % 4294967296 ∧ be 8 x.toNat = be 4 h.toNat ++ be 4 l.toNat := by
  have hx := x.toNat_lt
  have e1 : (UInt32.ofNat (x.toNat / 4294967296)).toNat = x.toNat / 4294967296 := by simp; omega
  have e2 : (UInt32.ofNat (x.toNat % 4294967296)).toNat = x.toNat % 4294967296 := by simp
  refine ⟨UInt32.ofNat (x.toNat / 4294967296), UInt32.ofNat (x.toNat % 4294967296), by rw [e1]; omega, by rw [e2]; omega, ?_⟩
  rw [e1, e2]
  have e3 : be 4 (x.toNat % 4294967296) = be 4 x.toNat := by
    have := be_mod 4 x.toNat
    rwa [show (256 : Nat) ^ 4 = 4294967296 by decide] at this
  rw [e3]
  simp [be, Nat.div_div_eq_div_mul]
set_option maxRecDepth 100000 in
/-- word.Put64 -/
theorem put64_ok (x : UInt64) (w : World) :
    Calls Try.prog 70 #[.int .u64 (x.toNat : Int)] w fun e w' => ∃ v, e = .returned v ∧ New w w' 5 v 8 (by8 (be 8 x.toNat)) := by
  obtain ⟨h, l, eh, el, eb⟩ := u32_split x
  rw [eb]
  have EH := hid eh
  have EL := hid el
  clear eh el eb
  have k1 : IntKind.u32.wrap ((x.toNat : Int) / 4294967296) = (h.toNat : Int) := by rw [EH.out]; exact w32 (by omega) (by have := x.toNat_lt; omega)
  have k2 : IntKind.u32.wrap (x.toNat : Int) = (l.toNat : Int) := by rw [EL.out, IntKind.wrap_u32]
  go_enter Try.func70, Try.ntmps70
  go_wp2_with fail
  refine (put32_ok h _).mono ?_
  rintro e w1 ⟨A1, rfl, hb1, hz1, hr1⟩
  go_wp2_with fail
  refine (put32_ok l _).mono ?_
  rintro e w2 ⟨A2, rfl, hb2, hz2, hr2⟩
  have HR1 := hid (hr1.below hb2)
  have HR2 := hid hr2
  have HB := hid (below_step hb1 hb2)
  have hzz := hb1.size
  have hzz2 := hb2.size
  clear hr1 hr2 hb1 hb2 hz1 hz2
  obtain ⟨i, hi, hi0, hi1, hi2⟩ := info_parts info_u8
  go_wp2_with (at_builtin; go_must (refine wpList_append_grows _ rfl (.tmp 6) (.tmp 9) 22 rfl 5 i (.int .u8 0) 1 1 Try.underlying22 hi hi0 hi1 hi2 rfl (by decide) (some A1) 4 4 (by8 (be 4 h.toNat)) rfl (by simp) (by simp [by8_length, be_length]) (fun b hb j u hu => ?_) A2 4 4 (by8 (be 4 l.toNat)) rfl (by simp [by8_length, be_length]) (fun j u hu => ?_) (by8_one _) (by omega) (by simp [maxLen]) (by omega) ?_))
  · cases hb
    obtain ⟨ad, e, h1⟩ := HR1.out j u hu
    cases e; exact h1
  · obtain ⟨ad, e, h1⟩ := HR2.out j u hu
    cases e; exact h1
  · intro v' w3 hown hg
    go_wp2
    go_ret
    have hb3 : Below w2.heap.size w2 w3 := below_of_grown hg (by simp)
    refine ⟨_, rfl, below_step HB.out hb3, ?_⟩
    rw [by8_append]
    exact own_lower hown (by omega)
set_option maxRecDepth 100000 in
/-- the document's Get64 -/
theorem rget64_ok (A : Option Addr) (l : List UInt8) (c : Nat) (w : World) (ha : Rd w A (by8 l)) (hm : l.length ≤ 9223372036854775807) :
    Calls Try.prog 103 #[.slice A l.length c] w fun e w' => e = .returned (.int .u64 ((num l % 18446744073709551616 : Nat) : Int)) ∧ w' = w := by
  have HA := hid ha
  clear ha
  go_enter Try.func103, Try.ntmps103
  go_wp2
  go_loop [3, 4] (fun x i => ∃ k X : Nat, k ≤ l.length ∧ i = .int .i64 k ∧ x = .int .u64 X ∧ X ≤ 18446744073709551615 ∧ Hid (X = num (l.take k) % 18446744073709551616)) (fun _ i => l.length - (intOf i).toNat)
  case atStart => exact ⟨0, 0, Nat.zero_le _, rfl, rfl, by omega, hid (by simp [num])⟩
  case round =>
    obtain ⟨k, X, hk, rfl, rfl, hX, hh⟩ := hrel
    by_cases hlt : k < l.length
    · obtain ⟨ad, rfl, hc⟩ := HA.out.byte k hlt
      have hr := bt8_range l k
      go_wp2
      go_round
      case rel =>
        have e := num_step l k hlt
        have hh' := hh.out
        refine ⟨k + 1, num (l.take (k + 1)) % 18446744073709551616, by omega, by go_num, ?_, by omega, hid rfl⟩
        congr 1
        rw [IntKind.wrap_u64, IntKind.wrap_u64]
        omega
      case measure => simp [intOf]; omega
    · have hkl : k = l.length := by omega
      have hh' := hh.out
      rw [hkl, List.take_of_length_le (Nat.le_refl _)] at hh'
      have HH := hid hh'
      clear hh'
      go_wp2
      go_ret
      exact ⟨ret_int (by have := HH.out; omega), rfl⟩
set_option maxRecDepth 100000 in
/-- the document's Put64 -/
theorem rput64_ok (x : UInt64) (w : World) :
    Calls Try.prog 34 #[.int .u64 (x.toNat : Int)] w fun e w' => ∃ v, e = .returned v ∧ New w w' 5 v 8 (by8 (be 8 x.toNat)) := by
  have hx := x.toNat_lt
  go_enter Try.func34, Try.ntmps34
  go_wp2
  go_loopw [3, 4, 5] (fun out sc i wr => ∃ k s : Nat, k ≤ 8 ∧ i = .int .i64 k ∧ sc = .int .u64 s ∧ (k < 8 → 1 ≤ s) ∧ s ≤ 72057594037927936 ∧ Hid ((k < 8 → s = 256 ^ (7 - k)) ∧ wr.ownsRow w.heap.size 5 1 out k (by8 ((be 8 x.toNat).take k)) ∧ Below w.heap.size w wr)) (fun _ _ i _ => 8 - (intOf i).toNat)
  case atStart => exact ⟨0, 72057594037927936, by omega, rfl, rfl, by omega, by omega, hid ⟨fun _ => by decide, World.ownsRow_nil _ _ _ _, Below.refl _ _⟩⟩
  case round =>
    obtain ⟨k, s, hk, rfl, rfl, hs1, hs2, hh⟩ := hrel
    have hbz := hh.out.2.2.size
    by_cases hlt : k < 8
    · have hs3 := hs1 hlt
      have q0 : 0 ≤ (x.toNat : Int) / s := Int.ediv_nonneg (by omega) (by omega)
      have q1 : (x.toNat : Int) / s ≤ 18446744073709551615 := by
        have := Int.ediv_le_self (s : Int) (show (0 : Int) ≤ (x.toNat : Int) by omega)
        omega
      have hs4 : ((s : Int) == 0) = false := beq_eq_false_iff_ne.mpr (by omega)
      go_wp2_with (at_builtin; go_must (refine append1 (w0 := w) rfl (.tmp 10) (.tmp 16) 22 5 (.int .u8 0) 1 rfl Try.underlying22 info_u8 rfl _ k _ rfl _ rfl rfl w.heap.size hh.out.2.1 hh.out.2.2 hbz (by omega) (by unfold maxLen; omega) ?_; intro v' w2 hown2 hb2 _ _))
      go_roundw
      case rel =>
        have es := hh.out.1 hlt
        refine ⟨k + 1, s / 256, by omega, by go_num, by simp, ?_, by omega, hid ⟨?_, ?_, hb2⟩⟩
        · intro hk8; rw [es]
          have : 7 - k = (7 - (k + 1)) + 1 := by omega
          rw [this, Nat.pow_succ, Nat.mul_div_cancel _ (by decide)]
          exact Nat.pow_pos (by decide)
        · intro hk8; rw [es]
          have : 7 - k = (7 - (k + 1)) + 1 := by omega
          rw [this, Nat.pow_succ, Nat.mul_div_cancel _ (by decide)]
        · have hl : k < (be 8 x.toNat).length := by rw [be_length]; omega
          rw [List.take_succ_eq_append_getElem hl, by8_append]
          have e1 := be_get 8 x.toNat k hlt
          rw [List.getElem?_eq_getElem hl] at e1
          rw [Option.some.inj e1, show 8 - 1 - k = 7 - k by omega, ← es]
          have e2 : by8 [UInt8.ofNat (x.toNat / s)] = [.int .u8 ((x.toNat : Int) / s % 256)] := by
            simp [by8, byc]
          rw [e2]; exact hown2
      case measure => simp [intOf]; omega
    · have hk8 : k = 8 := by omega
      subst hk8
      go_wp2
      go_ret
      refine ⟨_, rfl, hh.out.2.2, ?_⟩
      have := hh.out.2.1
      rwa [List.take_of_length_le (by rw [be_length]; exact Nat.le_refl _)] at this
end
section
section
variable {P : Program}
/-- one part of a value that is built -/
theorem fill_mid {place : Nat → Option (Nat × Nat)} {i : Nat} {v : Value} {rest : List (Nat × Value)} {off n : Nat} {X Y Z : List Value} (hp : place i = some (off, n)) (hX : X.length = off) (hY : Y.length = n) (hv : v.cells.size = n) :
    Instr.fill place (X ++ Y ++ Z).toArray ((i, v) :: rest) = Instr.fill place (X ++ v.cells.toList ++ Z).toArray rest := by
  have key : ∀ (ys : List Value) (j : Nat) (X Y Z : List Value), Y.length = ys.length → X.length = off + j →
      ((ys.zipIdx j).foldl (fun (cs : Array Value) (p : Value × Nat) => cs.setIfInBounds (off + p.2) p.1) (X ++ Y ++ Z).toArray) = (X ++ ys ++ Z).toArray := by
    intro ys
    induction ys with
    | nil => intro j X Y Z h1 h2; simp at h1; subst h1; simp
    | cons y ys ih =>
      intro j X Y Z h1 h2
      obtain ⟨y0, Y', rfl⟩ : ∃ y0 Y', Y = y0 :: Y' := by cases Y with
        | nil => simp at h1
        | cons a b => exact ⟨a, b, rfl⟩
      simp only [List.zipIdx_cons, List.foldl_cons]
      have hset : (X ++ (y0 :: Y') ++ Z).toArray.setIfInBounds (off + j) y = ((X ++ [y]) ++ Y' ++ Z).toArray := by
        simp only [List.setIfInBounds_toArray]
        congr 1
        rw [← h2]; simp
      rw [hset, ih (j + 1) (X ++ [y]) Y' Z (by simpa using h1) (by simp; omega)]
      simp
  rw [Instr.fill]
  simp only [hp]
  rw [if_neg (by simp; omega)]
  congr 1
  have hcl : v.cells.zipIdx = (v.cells.toList.zipIdx 0).toArray := by
    apply Array.ext'
    rw [Array.toList_zipIdx]
  have := key v.cells.toList 0 X Y Z (by simp; omega) (by omega)
  rw [hcl]
  simpa using this
/-- the row of a type whose values are many cells -/
def Agg (P : Program) (t : TypeId) (n : Nat) : Prop := ∃ d, P.underlying t = some d ∧ d.isRow = true ∧ (P.info? t).map (·.size) = some n
section
variable {ops : Array Oper} {rest : List Oper} {o : Oper} {a : Act} {w : World} {Q : Exit → Act → World → Prop}
/-- load: cells in order -/
theorem ld_op (hg : o.guard = none) (t : TypeId) (x : Operand) (ho : o.op = .load t x) (b off : Nat) (hx : a.eval x = .pointer (some ⟨b, off, none⟩)) {n : Nat} (ht : Agg P t n) (cs : List Value) (hn : cs.length = n) (hc : w.rangeAt b off cs)
    (h : wpList P ops Q rest (a.put o.dst (.agg cs.toArray)) w) : wpList P ops Q (o :: rest) a w := by
  obtain ⟨d, h1, h2, h3⟩ := ht
  exact wpList_load_mid hg t x ho b off hx cs d hc h1 h2 (by rw [h3, hn]) h
/-- store: cells in order -/
theorem st_op (hg : o.guard = none) (t : TypeId) (x y : Operand) (ho : o.op = .store t x y) (b off : Nat) (cs : List Value) (hx : a.eval x = .pointer (some ⟨b, off, none⟩)) (hy : a.eval y = .agg cs.toArray) {n : Nat} (ht : Agg P t n) (hn : cs.length = n)
    (h1 : ∀ v ∈ cs, v.oneCell' = true) (hth : w.there b off n) (h : wpList P ops Q rest (a.put o.dst undef) (w.setCells b off cs)) : wpList P ops Q (o :: rest) a w := by
  obtain ⟨d, _, _, h3⟩ := ht
  refine wpList_store_mid hg t x y ho b off cs.toArray hx hy (by simpa [hn] using hth) (by rw [h3]; simp [hn]) (all_oneCell_toArray h1) ?_
  simpa using h
/-- build: a value of many cells -/
theorem bld_op (hg : o.guard = none) (t : TypeId) (ps : Array (Nat × Operand)) (ho : o.op = .build t ps) (parts : List (Nat × Value)) (hp : ps.toList.map (fun p => (p.1, a.eval p.2)) = parts) (C : Array Value) (hb : P.built t parts = some C)
    (h : wpList P ops Q rest (a.put o.dst (.agg C)) w) : wpList P ops Q (o :: rest) a w :=
  have hp' : (ps.map fun (i, x) => (i, a.eval x)).toList = parts := by rw [Array.toList_map]; exact hp
  wpList_build hg t ps ho (by rw [hp', hb]; rfl) (by rw [hp', hb]; exact h)
end
/-- a result of many cells -/
theorem results_agg {fn : Func} {p : Tmp} {ty : TypeId} (h : fn.results = #[.cell p ty]) (tmps : Array Value) (w : World) (b off : Nat) (hp : tmps.getD p undef = .pointer (some ⟨b, off, none⟩)) {n : Nat} (ht : Agg P ty n) (cs : List Value) (hn : cs.length = n) (hc : w.rangeAt b off cs) :
    (results fn tmps).run P w = .ok (.agg cs.toArray) w := by
  have hp' : tmps[p]?.getD undef = .pointer (some ⟨b, off, none⟩) := by simpa using hp
  obtain ⟨d, h1, h2, h3⟩ := ht
  simp [results, h, hp', asAddr, run_loadVar_mid w b off ty cs d hc h1 h2 (by rw [h3, hn])]
/-- what has just been laid -/
theorem range_new (w : World) (C : List Value) (t : TypeId) : (w.alloc (.cells C.toArray t)).rangeAt w.heap.size 0 C := fun j v hv => by
  rw [Nat.zero_add, cell_of_row _ _ j C.toArray t (0, 0) (heap_alloc_new w _)]
  simpa using hv
theorem there_new (w : World) (C : List Value) (t : TypeId) : (w.alloc (.cells C.toArray t)).there w.heap.size 0 C.length := fun j hj => by
  rw [Nat.zero_add]
  refine ⟨?_, frozen_of_row _ _ j C.toArray t (heap_alloc_new w _)⟩
  rw [cell_of_row _ _ j C.toArray t (0, 0) (heap_alloc_new w _)]
  simp [hj]
theorem Chg.setCells {w w' : World} {F : Nat → Prop} (h : Chg w w' F) {b : Nat} (hp : F b ∨ w.heap.size ≤ b) : ∀ (cs : List Value) (off : Nat), Chg w (w'.setCells b off cs) F := by
  intro cs
  induction cs generalizing w' with
  | nil => intro off; exact h
  | cons c cs ih => intro off; rw [World.setCells]; exact ih (h.setCell hp c) (off + 1)
end
end
end
end Go.Proofs.Ytohgmggdfmjgnaa
