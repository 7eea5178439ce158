/- The functions of the packages word and chatelaineref01: what they answer. -/
import Derived.Test.YtcjleeclpmgbjaaK
import Derived.Test.YtcjleeclpmgbjaaSpec
set_option linter.unusedVariables false
set_option linter.unusedSimpArgs false
namespace Go.Proofs.Ytcjleeclpmgbjaa
open Go.RowKit

/-! ### Same: are two lists of bytes one? -/
theorem take_succ_eq {α : Type} {a b : List α} {k : Nat} (h : a.take k = b.take k) (ha : k < a.length) (hb : k < b.length) (e : a[k] = b[k]) : a.take (k + 1) = b.take (k + 1) := by
  rw [List.take_succ_eq_append_getElem ha, List.take_succ_eq_append_getElem hb, h, e]
theorem bt8_inj {a b : List UInt8} {k : Nat} (ha : k < a.length) (hb : k < b.length) (h : bt8 a k = bt8 b k) : a[k] = b[k] := by
  rw [bt8_get a k ha, bt8_get b k hb] at h; exact UInt8.toNat_inj.1 (by omega)
theorem same_ok (A B : Option Addr) (la lb : List UInt8) (ca cb : Nat) (w : World) (ha : Rd w A (by8 la)) (hb : Rd w B (by8 lb)) (hm : la.length ≤ 9223372036854775807) :
    Calls Try.prog 12 #[.slice A la.length ca, .slice B lb.length cb] w fun e w' => e = .returned (.bool (decide (la = lb))) ∧ ∃ n, w' = w.drewN n := by
  by_cases hl : la.length = lb.length
  · have hl1 : ((la.length : Int) != (lb.length : Int)) = false := by simp [hl]
    have HA := hid ha
    have HB := hid hb
    have HL := hid hl
    clear ha hb hl
    go_enter Try.func12, Try.ntmps12
    go_wp2
    go_loopw [5] (fun i wr => ∃ k : Nat, k ≤ la.length ∧ i = .int .i64 k ∧ Hid (la.take k = lb.take k ∧ ∃ n, wr = w.drewN n)) (fun i _ => la.length - (intOf i).toNat)
    case atStart => exact ⟨0, Nat.zero_le _, rfl, hid ⟨by simp, 0, rfl⟩⟩
    case round =>
      obtain ⟨k, hk, rfl, hh⟩ := hrel
      obtain ⟨ht, n, rfl⟩ := hh.out
      have HT := hid ht
      clear hh ht
      by_cases hlt : k < la.length
      · obtain ⟨ad, rfl, h1⟩ := HA.out.byte k hlt
        obtain ⟨bd, rfl, h2⟩ := HB.out.byte k (by have := HL.out; omega)
        have hlb : k < lb.length := by have := HL.out; omega
        by_cases he : bt8 la k = bt8 lb k
        · have hd : (bt8 la k != bt8 lb k) = false := by simp [he]
          have HE := hid he
          clear he
          go_wp2
          go_quiet (fail)
          go_wp2
          go_roundw
          case rel => exact ⟨k + 1, by omega, by go_num, hid ⟨take_succ_eq HT.out hlt hlb (bt8_inj hlt hlb HE.out), _, rfl⟩⟩
          case measure => simp [intOf]; omega
        · have hd : (bt8 la k != bt8 lb k) = true := by simp [he]
          have HE := hid he
          clear he
          go_wp2
          go_quiet (fail)
          go_wp2
          go_ret
          exact ⟨ret_bool (by symm; rw [decide_eq_false_iff_not]; intro e; subst e; exact HE.out rfl), n + nq, by simp⟩
      · go_wp2
        go_ret
        have hka : k = la.length := by omega
        have h3 := HT.out
        rw [hka, List.take_of_length_le (Nat.le_refl _), HL.out, List.take_of_length_le (Nat.le_refl _)] at h3
        exact ⟨ret_bool (by simp [h3]), _, rfl⟩
  · have hl1 : ((la.length : Int) != (lb.length : Int)) = true := by simp; omega
    have HL := hid hl
    clear hl
    go_enter Try.func12, Try.ntmps12
    go_wp2
    go_ret
    exact ⟨ret_bool (by symm; rw [decide_eq_false_iff_not]; intro e; exact HL.out (by rw [e])), 0, rfl⟩

theorem same_b (A B : Option Addr) (la lb : List UInt8) (ca cb : Nat) (w : World) (ha : Rd w A (by8 la)) (hb : Rd w B (by8 lb)) (hm : la.length ≤ 9223372036854775807) :
    Calls Try.prog 12 #[.slice A la.length ca, .slice B lb.length cb] w fun e w' => e = .returned (.bool (decide (la = lb))) ∧ Below w.heap.size w w' :=
  (same_ok A B la lb ca cb w ha hb hm).mono fun e w' h => by
    obtain ⟨rfl, n, rfl⟩ := h
    exact ⟨rfl, below_drewN (Below.refl _ _) n⟩
theorem info_u8 : (Try.prog.info? 5).map (fun i => (i.zero, i.size, i.bytes)) = some (some (.int .u8 0), 1, 1) := by kernel_rfl
theorem info_int : (Try.prog.info? 3).map (fun i => (i.zero, i.size, i.bytes)) = some (some (.int .i64 0), 1, 8) := by kernel_rfl

/-! ### Put -/
theorem byte_of (m : Nat) : (UInt8.ofNat m).toNat = m % 256 := by simp
theorem set_be (j k m : Nat) (hj : 0 < j) : (List.replicate j (Value.int .u8 0) ++ by8 (be k m)).set (j - 1) (.int .u8 (((m / 256 ^ k) % 256 : Nat) : Int)) = List.replicate (j - 1) (Value.int .u8 0) ++ by8 (be (k + 1) m) := by
  obtain ⟨i, rfl⟩ : ∃ i, j = i + 1 := ⟨j - 1, by omega⟩
  rw [List.set_append_left _ _ (by simp)]
  simp only [Nat.add_sub_cancel, List.replicate_succ', be]
  rw [List.set_append_right _ _ (by simp)]
  simp [by8, byc, byte_of]
theorem shift_byte (n : Int) (k : Nat) (h : 0 ≤ n) : n / 2 ^ (8 * (k : Int)).toNat = ((n.toNat / 256 ^ k : Nat) : Int) := by
  have : (8 * (k : Int)).toNat = 8 * k := by omega
  rw [this, Int.pow_mul, Int.natCast_ediv, Int.toNat_of_nonneg h]; norm_cast
theorem int_zero_ne (l : List UInt8) (h : 0 < l.length) : ((l.length : Int) == 0) = false := by
  simp; intro e; subst e; simp at h
def lowV (k m : Nat) : List Value := (List.range k).map fun i => .int .i64 ((m / 256 ^ i % 256 : Nat) : Int)
theorem lowV_succ (k m : Nat) : lowV (k + 1) m = lowV k m ++ [.int .i64 ((m / 256 ^ k % 256 : Nat) : Int)] := by
  simp [lowV, List.range_succ]
theorem lowV_get (k m i : Nat) (h : i < k) : (lowV k m)[i]? = some (.int .i64 ((m / 256 ^ i % 256 : Nat) : Int)) := by
  simp [lowV, h]
theorem be_get (q m k : Nat) (h : k < q) : (be q m)[k]? = some (UInt8.ofNat (m / 256 ^ (q - 1 - k))) := by
  induction q generalizing k with
  | zero => omega
  | succ q ih =>
    cases k with
    | zero => simp [be]
    | succ k =>
      simp only [be, List.getElem?_cons_succ]
      rw [ih k (by omega)]
      congr 4
      omega

theorem or_shift8 (X : Nat) (b : Int) (h0 : 0 ≤ b) (h1 : b ≤ 255) (hX : X ≤ 72057594037927935) : bits .or .u64 ((X : Int) * 256) b = (X : Int) * 256 + b :=
  bits_join .u64 64 (by decide) (by intro n h0 h1; rw [IntKind.wrap_u64]; have : (2 : Int) ^ 64 = 18446744073709551616 := by decide
                                    omega) 8 _ _ (by omega) (by omega) (by omega) h0 (by omega) (by omega)
theorem get_bound (l : List UInt8) (k : Nat) (hk : k < l.length) (hl : l.length ≤ 8) : num (l.take k) ≤ 72057594037927935 := by
  have h1 := num_lt (l.take k)
  have h2 : (l.take k).length ≤ 7 := by simp; omega
  have h3 : 256 ^ (l.take k).length ≤ 256 ^ 7 := Nat.pow_le_pow_right (by decide) h2
  have : (256 : Nat) ^ 7 = 72057594037927936 := by decide
  omega
set_option maxRecDepth 100000 in
theorem num_step (l : List UInt8) (k : Nat) (h : k < l.length) : (num (l.take (k + 1)) : Int) = 256 * (num (l.take k) : Int) + bt8 l k := by
  rw [num_take_succ l k h, bt8_get l k h]; norm_cast
/-- bits of 32, turned k places to the right -/
def rotN (x k : Nat) : Nat := x / 2 ^ k + x % 2 ^ k * 2 ^ (32 - k)
def rotr (x : UInt32) (k : Nat) : UInt32 := UInt32.ofNat (rotN x.toNat k)
theorem rotN_lt {x k : Nat} (hx : x < 4294967296) (hk : k ≤ 32) : rotN x k < 4294967296 := by
  unfold rotN
  obtain ⟨j, hj⟩ : ∃ j, j + k = 32 := ⟨32 - k, by omega⟩
  have e : 32 - k = j := by omega
  have e2 : 2 ^ j * 2 ^ k = 4294967296 := by rw [← Nat.pow_add, hj]
  rw [e]
  have h1 : x / 2 ^ k < 2 ^ j := by rw [Nat.div_lt_iff_lt_mul (Nat.pow_pos (by decide)), e2]; exact hx
  have h2 : x % 2 ^ k + 1 ≤ 2 ^ k := Nat.mod_lt _ (Nat.pow_pos (by decide))
  have h3 := Nat.mul_le_mul_right (2 ^ j) h2
  rw [Nat.add_mul, Nat.mul_comm (2 ^ k)] at h3
  omega
theorem rotr_toNat (x : UInt32) (k : Nat) (hk : k ≤ 32) : (rotr x k).toNat = rotN x.toNat k := by
  unfold rotr
  simp only [UInt32.toNat_ofNat']
  exact Nat.mod_eq_of_lt (rotN_lt (by have := x.toNat_lt; omega) hk)
theorem rotr_zero (x : UInt32) : rotr x 0 = x := by
  apply UInt32.toNat_inj.1; rw [rotr_toNat _ _ (by omega)]; simp [rotN, Nat.mod_one]
theorem rotN_succ (x k : Nat) (hk : k < 32) : rotN (rotN x k) 1 = rotN x (k + 1) := by
  unfold rotN
  obtain ⟨j, hj⟩ : ∃ j, k + j = 31 := ⟨31 - k, by omega⟩
  have e1 : 32 - k = j + 1 := by omega
  have e2 : 32 - (k + 1) = j := by omega
  have e3 : 32 - 1 = 31 := rfl
  rw [e1, e2, e3, Nat.pow_succ 2 j, Nat.pow_succ 2 k]
  have hp : 0 < 2 ^ k := Nat.pow_pos (by decide)
  have a1 : x / (2 ^ k * 2) = x / 2 ^ k / 2 := by rw [Nat.div_div_eq_div_mul]
  have a2 : x % (2 ^ k * 2) = x % 2 ^ k + 2 ^ k * (x / 2 ^ k % 2) := Nat.mod_mul
  rw [a1, a2]
  generalize x / 2 ^ k = q
  generalize x % 2 ^ k = r
  have b1 : (q + r * (2 ^ j * 2)) / 2 = q / 2 + r * 2 ^ j := by
    rw [← Nat.mul_assoc]; omega
  have b2 : (q + r * (2 ^ j * 2)) % 2 = q % 2 := by
    rw [← Nat.mul_assoc]; omega
  have b3 : (2 ^ k * (q % 2)) * 2 ^ j = q % 2 * 2 ^ 31 := by
    rw [Nat.mul_comm (2 ^ k), Nat.mul_assoc, ← Nat.pow_add, hj]
  rw [Nat.pow_one, b1, b2, Nat.add_mul, b3]; omega
theorem rotr_succ (x : UInt32) (k : Nat) (hk : k < 32) : rotr (rotr x k) 1 = rotr x (k + 1) := by
  apply UInt32.toNat_inj.1
  rw [rotr_toNat _ _ (by omega), rotr_toNat _ _ (by omega), rotr_toNat _ _ (by omega), rotN_succ _ _ hk]
theorem rotr_full (x : UInt32) : rotr x 32 = x := by
  apply UInt32.toNat_inj.1; rw [rotr_toNat _ _ (by omega)]
  have := x.toNat_lt
  unfold rotN
  have e : (2 : Nat) ^ 32 = 4294967296 := by decide
  rw [e, Nat.div_eq_of_lt (by omega), Nat.mod_eq_of_lt (by omega)]; simp
theorem rotr_add (x : UInt32) (k j : Nat) (h : k + j ≤ 32) : rotr (rotr x k) j = rotr x (k + j) := by
  induction j with
  | zero => rw [rotr_zero]; rfl
  | succ j ih => rw [← rotr_succ _ j (by omega), ih (by omega), rotr_succ _ _ (by omega)]; rfl
set_option maxRecDepth 100000 in
theorem or_rot (x k : Nat) (hx : x < 4294967296) (hk : k < 32) : bits .or .u32 ((x : Int) / 2 ^ k) ((x : Int) * 2 ^ (32 - k) % 4294967296) = (rotN x k : Int) := by
  obtain ⟨j, hj⟩ : ∃ j, j + k = 32 := ⟨32 - k, by omega⟩
  have e : 32 - k = j := by omega
  have e2 : 2 ^ j * 2 ^ k = 4294967296 := by rw [← Nat.pow_add, hj]
  have hq : x / 2 ^ k < 2 ^ j := by rw [Nat.div_lt_iff_lt_mul (Nat.pow_pos (by decide)), e2]; exact hx
  have hm : x * 2 ^ j % 4294967296 = x % 2 ^ k * 2 ^ j := by
    rw [← e2, Nat.mul_comm (2 ^ j) (2 ^ k), Nat.mul_mod_mul_right]
  have c1 : (x : Int) / 2 ^ k = ((x / 2 ^ k : Nat) : Int) := by norm_cast
  have c2 : (x : Int) * 2 ^ j % 4294967296 = ((x * 2 ^ j % 4294967296 : Nat) : Int) := by rw [Int.natCast_emod, Int.natCast_mul, Int.natCast_pow]; rfl
  have hlt := rotN_lt hx (Nat.le_of_lt hk)
  unfold rotN at hlt ⊢
  rw [e] at hlt ⊢
  rw [c1, c2, u32_or_nat _ _ (by omega) (Nat.mod_lt _ (by decide)), hm, Nat.or_comm, Nat.mul_comm (x % 2 ^ k), ← Nat.two_pow_add_eq_or_of_lt hq, Nat.add_comm]
theorem and_31 (n : Int) : bits .and .u64 (IntKind.u64.wrap n) 31 = n % 32 := by
  have h := bits_mask .u64 64 (by decide) (by intro n h0 h1; rw [IntKind.wrap_u64]; have : (2 : Int) ^ 64 = 18446744073709551616 := by decide
                                              omega) 5 (by decide) (IntKind.u64.wrap n) (by rw [IntKind.wrap_u64]; omega) (by rw [IntKind.wrap_u64]; omega)
  simp at h
  rw [h, IntKind.wrap_u64]; omega
/-- word.Rotate -/
theorem rotate_ok (x : UInt32) (n : Int) (w : World) (hn : -9223372036854775808 ≤ n ∧ n ≤ 9223372036854775807) :
    Calls Try.prog 71 #[.int .u32 (x.toNat : Int), .int .i64 n] w fun e w' => e = .returned (.int .u32 ((rotr x (n % 32).toNat).toNat : Int)) ∧ w' = w := by
  have hb := and_31 n
  have h1 : 0 ≤ n % 32 := by omega
  have h2 : n % 32 ≤ 31 := by omega
  go_enter Try.func71, Try.ntmps71
  go_wp2
  go_ret
  refine ⟨ret_int ?_, rfl⟩
  rw [rotr_toNat _ _ (by omega), ← or_rot _ _ (by have := x.toNat_lt; omega) (by omega)]
  have : (32 - n % 32).toNat = 32 - (n % 32).toNat := by omega
  rw [this]
/-- the document's Right -/
theorem right_ok (x : UInt32) (w : World) :
    Calls Try.prog 72 #[.int .u32 (x.toNat : Int)] w fun e w' => e = .returned (.int .u32 ((rotr x 1).toNat : Int)) ∧ w' = w := by
  have hx := x.toNat_lt
  have e := rotr_toNat x 1 (by omega)
  simp only [rotN, Nat.pow_one, Nat.reduceSub, Nat.reducePow] at e
  have E := hid e
  clear e
  by_cases h : x.toNat % 2 = 1
  · have g : (((x.toNat : Int) % 2) == 1) = true := beq_iff_eq.mpr (by omega)
    have H := hid h
    clear h
    go_enter Try.func72, Try.ntmps72
    go_wp2
    go_ret
    exact ⟨ret_int (by rw [E.out, H.out]; omega), rfl⟩
  · have g : (((x.toNat : Int) % 2) == 1) = false := beq_eq_false_iff_ne.mpr (by omega)
    have H := hid h
    clear h
    go_enter Try.func72, Try.ntmps72
    go_wp2
    go_ret
    exact ⟨ret_int (by have := H.out; rw [E.out]; omega), rfl⟩
/-! ### Cut -/
/-- new memory that can be read -/
def NewRd (w w' : World) (v : Value) (n : Nat) (cs : List Value) : Prop := Below w.heap.size w w' ∧ ∃ A c, v = .slice (some A) n c ∧ n ≤ c ∧ c ≤ maxLen ∧ w.heap.size ≤ A.block ∧ Rd w' (some A) cs
theorem four_cells (x : Nat) : by8 (be 4 x) = [.int .u8 ((x / 16777216 % 256 : Nat) : Int), .int .u8 ((x / 65536 % 256 : Nat) : Int), .int .u8 ((x / 256 % 256 : Nat) : Int), .int .u8 ((x % 256 : Nat) : Int)] := by
  simp [by8, be, byc, byte_of]
theorem rd_alloc (w : World) (cs : List Value) (t : TypeId) : Rd (w.alloc (.cells cs.toArray t)) (some ⟨w.heap.size, 0, none⟩) cs := by
  intro i c hc
  refine ⟨_, rfl, ?_⟩
  have : (⟨w.heap.size, 0, none⟩ : Addr).add i = ⟨w.heap.size, i, none⟩ := by unfold Addr.add; split <;> simp_all
  rw [this, cell_of_row _ _ _ _ _ _ (heap_alloc_new w _)]
  simpa using hc
theorem w32 {n : Int} (h0 : 0 ≤ n) (h1 : n < 4294967296) : IntKind.u32.wrap n = n := by rw [IntKind.wrap_u32]; omega
theorem or32 (i : Nat) (x y : Int) (hx₀ : 0 ≤ x) (hx : x % 2 ^ i = 0) (hx₁ : x < 4294967296) (hy₀ : 0 ≤ y) (hy : y < 2 ^ i) (hy₁ : y < 4294967296) : bits .or .u32 x y = x + y :=
  bits_join .u32 32 (by decide) (by intro n h0 h1; exact w32 h0 h1) i x y hx₀ hx hx₁ hy₀ hy hy₁
set_option maxRecDepth 100000 in
/-- word.Put32 -/
theorem put32_ok (x : UInt32) (w : World) :
    Calls Try.prog 52 #[.int .u32 (x.toNat : Int)] w fun e w' => ∃ A, e = .returned (.slice (some A) 4 4) ∧ Below w.heap.size w w' ∧ w.heap.size ≤ A.block ∧ Rd w' (some A) (by8 (be 4 x.toNat)) := by
  have hx := x.toNat_lt
  have i0 : ∀ w, (Instr.index 109 (.agg #[.int .u64 24, .int .u64 16, .int .u64 8, .int .u64 0]) (.int .i64 0)).run Try.prog w = .ok (.int .u64 24) w := fun _ => by kernel_rfl
  have i1 : ∀ w, (Instr.index 109 (.agg #[.int .u64 24, .int .u64 16, .int .u64 8, .int .u64 0]) (.int .i64 1)).run Try.prog w = .ok (.int .u64 16) w := fun _ => by kernel_rfl
  have i2 : ∀ w, (Instr.index 109 (.agg #[.int .u64 24, .int .u64 16, .int .u64 8, .int .u64 0]) (.int .i64 2)).run Try.prog w = .ok (.int .u64 8) w := fun _ => by kernel_rfl
  have i3 : ∀ w, (Instr.index 109 (.agg #[.int .u64 24, .int .u64 16, .int .u64 8, .int .u64 0]) (.int .i64 3)).run Try.prog w = .ok (.int .u64 0) w := fun _ => by kernel_rfl
  go_enter Try.func52, Try.ntmps52
  go_wp2
  refine wp_loop_rounds 5 ?_
  rw [rounds_succ]
  go_wp2
  rw [rounds_succ]
  go_wp2
  rw [rounds_succ]
  go_wp2
  rw [rounds_succ]
  go_wp2
  rw [rounds_succ]
  go_wp2
  go_ret
  refine ⟨_, rfl, (Below.refl _ _).alloc (Nat.le_refl _) _, Nat.le_refl _, ?_⟩
  rw [four_cells]
  have e0 : ((x.toNat / 16777216 % 256 : Nat) : Int) = (x.toNat : Int) / 16777216 := by omega
  rw [e0]
  exact rd_alloc _ _ _
set_option maxRecDepth 100000 in
/-- word.Get32 -/
theorem get32_ok (A : Option Addr) (l : List UInt8) (c : Nat) (w : World) (ha : Rd w A (by8 l)) (hl : l.length = 4) :
    Calls Try.prog 53 #[.slice A 4 c] w fun e w' => e = .returned (.tuple #[.int .u32 (num l), .bool true]) ∧ ∃ j, w' = w.drewN j := by
  obtain ⟨a, b, c', d, rfl⟩ : ∃ a b c d, l = [a, b, c, d] := by
    match l, hl with
    | [a, b, c, d], _ => exact ⟨a, b, c, d, rfl⟩
  obtain ⟨ad, rfl, h0⟩ := ha.byte 0 (by simp)
  obtain ⟨_, e, h1⟩ := ha.byte 1 (by simp); cases e
  obtain ⟨_, e, h2⟩ := ha.byte 2 (by simp); cases e
  obtain ⟨_, e, h3⟩ := ha.byte 3 (by simp); cases e
  have r0 := bt8_range [a, b, c', d] 0
  have r1 := bt8_range [a, b, c', d] 1
  have r2 := bt8_range [a, b, c', d] 2
  have r3 := bt8_range [a, b, c', d] 3
  have z : ad.add 0 = ad := by simp [Addr.add]
  rw [z] at h0
  clear z
  have E : (num [a, b, c', d] : Int) = bt8 [a, b, c', d] 0 * 16777216 + bt8 [a, b, c', d] 1 * 65536 + bt8 [a, b, c', d] 2 * 256 + bt8 [a, b, c', d] 3 := by
    simp [num, bt8]; omega
  have l1 : ad.add 1 = ⟨ad.block, ad.off + 1, none⟩ := by simp [Addr.add]
  have l2 : ad.add 2 = ⟨ad.block, ad.off + 2, none⟩ := by simp [Addr.add]
  have l3 : ad.add 3 = ⟨ad.block, ad.off + 3, none⟩ := by simp [Addr.add]
  rw [l1] at h1; rw [l2] at h2; rw [l3] at h3
  clear l1 l2 l3
  have E' := hid E
  clear E
  generalize bt8 [a, b, c', d] 0 = b0 at *
  generalize bt8 [a, b, c', d] 1 = b1 at *
  generalize bt8 [a, b, c', d] 2 = b2 at *
  generalize bt8 [a, b, c', d] 3 = b3 at *
  have k1 := w32 (n := b0) (by omega) (by omega)
  have k2 := w32 (n := b0 * 16777216) (by omega) (by omega)
  have k3 := w32 (n := b1) (by omega) (by omega)
  have k4 := w32 (n := b1 * 65536) (by omega) (by omega)
  have k5 := w32 (n := b2) (by omega) (by omega)
  have k6 := w32 (n := b2 * 256) (by omega) (by omega)
  have k7 := w32 (n := b3) (by omega) (by omega)
  have k8 := or32 24 (b0 * 16777216) (b1 * 65536) (by omega) (by omega) (by omega) (by omega) (by omega) (by omega)
  have k9 := or32 16 (b0 * 16777216 + b1 * 65536) (b2 * 256) (by omega) (by omega) (by omega) (by omega) (by omega) (by omega)
  have k10 := or32 8 (b0 * 16777216 + b1 * 65536 + b2 * 256) b3 (by omega) (by omega) (by omega) (by omega) (by omega) (by omega)
  clear ha
  go_enter Try.func53, Try.ntmps53
  go_wp2
  go_quiet (fail)
  go_wp2
  go_ret2
  rw [E'.out]
  exact ⟨rfl, _, rfl⟩
end Go.Proofs.Ytcjleeclpmgbjaa
