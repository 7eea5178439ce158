/- Texts put together. -/
import Derived.Test.YtohgmggdfmjgnaaSha4
import Derived.Test.YtohgmggdfmjgnaaSha5
set_option linter.unusedVariables false
set_option linter.unusedSimpArgs false
namespace Go.Proofs.Ytohgmggdfmjgnaa
open Go.RowKit
section

theorem ib_quou {m n : Int} (h : 0 ≤ m ∧ m < 4294967296 ∧ 0 < n) : IB .quo .u32 m .u32 n (.int .u32 (m / n)) := by
  have h1 := ib_quow (k := .u32) (m := m) (n := n) (by omega)
  have h2 : 0 ≤ m / n := Int.ediv_nonneg h.1 (by omega)
  have h3 : m / n ≤ m := Int.ediv_le_self _ h.1
  rwa [Int.tdiv_eq_ediv_of_nonneg h.1, nwu32 (by omega)] at h1
theorem ib_remu {m n : Int} (h : 0 ≤ m) (hn : 0 < n) : IB .rem .u32 m .u32 n (.int .u32 (m % n)) := by
  have h1 := ib_remw (k := .u32) (m := m) (n := n) (by omega)
  rwa [Int.tmod_eq_emod_of_nonneg h] at h1
set_option maxRecDepth 100000 in
theorem rturn_ok (x : UInt32) (n : Nat) (hn : n ≤ 31) (w0 : World) :
    Calls Try.prog 104 #[.int .u32 (U x), .int .i64 (n : Int)] w0 fun e w' => e = .returned (.int .u32 (U (rotr x n))) ∧ Below w0.heap.size w0 w' := by
  refine c_enter Try.func104 rfl 14 rfl (by simp) (fun _ => False) _ rfl (fun a h => ?_)
  refine c_rs ?_
  refine sAV h (fun a h => ?_)
  refine l_end ?_
  refine wp_seq ?_
  refine c_rs ?_
  refine sAV h (fun a h => ?_)
  refine l_end ?_
  refine wp_block ?_
  refine c_loop (fun m a w => ∃ k : Nat, k + m = n ∧ St 14 w0 (fun _ => False) [(0, .int .u32 (U (rotr x k))), (1, .int .i64 (n : Int)), (5, .int .i64 (k : Int))] [] a w) n ⟨0, by omega, by rw [rotr_zero]; exact h.has (by exact ⟨rfl, rfl, rfl, trivial⟩)⟩ (fun m a w hI => ?_)
  obtain ⟨k, hk, h⟩ := hI
  refine wp_seq ?_
  refine c_rs ?_
  refine sMV h (fun a h => ?_)
  refine sMV h (fun a h => ?_)
  refine s_bin h rfl rfl rfl (by decide) rfl rfl (ib_lss) (fun a h => ?_)
  refine l_end ?_
  refine c_cond h rfl (fun hb => ?_) (fun hb => ?_)
  · have hlt : k < n := by have := of_decide_eq_true hb; omega
    refine wp_skip ?_
    refine e_thenN ?_
    refine wp_seq ?_
    refine wp_block ?_
    refine c_r ?_
    refine sMV h (fun a h => ?_)
    refine s_callB h rfl rfl rfl (by decide) Try.func108 rfl rfl rfl (same_below (right_ok (rotr x k) w)) (fun a w hb h => ?_)
    refine sAV h (fun a h => ?_)
    refine l_nil ?_
    refine e_blkN ?_
    refine e_thenN ?_
    refine c_r ?_
    refine sMV h (fun a h => ?_)
    refine s_bin h rfl rfl rfl (by decide) rfl rfl (ib_add (nw64 (by omega))) (fun a h => ?_)
    refine sAV h (fun a h => ?_)
    refine l_nil ?_
    refine e_thenN ⟨m - 1, by omega, k + 1, by omega, ?_⟩
    rw [rotr_succ x k (by omega)] at h
    exact h.has (by exact ⟨rfl, rfl, rfl, trivial⟩)
  · have hge : k = n := by have := of_decide_eq_false hb; omega
    subst hge
    refine wp_exit ?_
    refine e_thenX ?_
    refine e_thenX ?_
    refine e_blkX ?_
    refine e_thenN ?_
    refine c_rs ?_
    refine sMV h (fun a h => ?_)
    refine sAV h (fun a h => ?_)
    refine l_end ?_
    refine wp_ret ?_
    exact r_ret1 h rfl (rv_tmp h rfl) ⟨rfl, h.m.below⟩
theorem half_pow (x : UInt32) (k : Nat) : U x / (2 : Int) ^ k / 2 = U x / (2 : Int) ^ (k + 1) := by rw [Int.pow_succ, Int.ediv_ediv_of_nonneg (Int.le_of_lt (Int.pow_pos (by decide)))]
theorem pow_range (x : UInt32) (k : Nat) : 0 ≤ U x / (2 : Int) ^ k ∧ U x / (2 : Int) ^ k < 4294967296 := by
  have := U_range x
  have h1 : 0 ≤ U x / (2 : Int) ^ k := Int.ediv_nonneg this.1 (Int.le_of_lt (Int.pow_pos (by decide)))
  have h2 : U x / (2 : Int) ^ k ≤ U x := Int.ediv_le_self _ this.1
  omega
set_option maxRecDepth 100000 in
theorem rshift_ok (x : UInt32) (n : Nat) (hn : n ≤ 31) (w0 : World) :
    Calls Try.prog 105 #[.int .u32 (U x), .int .i64 (n : Int)] w0 fun e w' => e = .returned (.int .u32 (U x / (2 : Int) ^ n)) ∧ Below w0.heap.size w0 w' := by
  refine c_enter Try.func105 rfl 14 rfl (by simp) (fun _ => False) _ rfl (fun a h => ?_)
  refine c_rs ?_
  refine sAV h (fun a h => ?_)
  refine l_end ?_
  refine wp_seq ?_
  refine c_rs ?_
  refine sAV h (fun a h => ?_)
  refine l_end ?_
  refine wp_block ?_
  refine c_loop (fun m a w => ∃ k : Nat, k + m = n ∧ St 14 w0 (fun _ => False) [(0, .int .u32 (U x / (2 : Int) ^ k)), (1, .int .i64 (n : Int)), (5, .int .i64 (k : Int))] [] a w) n ⟨0, by omega, by rw [Int.pow_zero, Int.ediv_one]; exact h.has (by exact ⟨rfl, rfl, rfl, trivial⟩)⟩ (fun m a w hI => ?_)
  obtain ⟨k, hk, h⟩ := hI
  refine wp_seq ?_
  refine c_rs ?_
  refine sMV h (fun a h => ?_)
  refine sMV h (fun a h => ?_)
  refine s_bin h rfl rfl rfl (by decide) rfl rfl (ib_lss) (fun a h => ?_)
  refine l_end ?_
  refine c_cond h rfl (fun hb => ?_) (fun hb => ?_)
  · have hlt : k < n := by have := of_decide_eq_true hb; omega
    refine wp_skip ?_
    refine e_thenN ?_
    refine wp_seq ?_
    refine wp_block ?_
    refine c_r ?_
    refine sMV h (fun a h => ?_)
    refine s_bin h rfl rfl rfl (by decide) rfl rfl (ib_quou ⟨(pow_range x k).1, (pow_range x k).2, by decide⟩) (fun a h => ?_)
    refine sAV h (fun a h => ?_)
    refine l_nil ?_
    refine e_blkN ?_
    refine e_thenN ?_
    refine c_r ?_
    refine sMV h (fun a h => ?_)
    refine s_bin h rfl rfl rfl (by decide) rfl rfl (ib_add (nw64 (by omega))) (fun a h => ?_)
    refine sAV h (fun a h => ?_)
    refine l_nil ?_
    refine e_thenN ⟨m - 1, by omega, k + 1, by omega, ?_⟩
    rw [half_pow] at h
    exact h.has (by exact ⟨rfl, rfl, rfl, trivial⟩)
  · have hge : k = n := by have := of_decide_eq_false hb; omega
    subst hge
    refine wp_exit ?_
    refine e_thenX ?_
    refine e_thenX ?_
    refine e_blkX ?_
    refine e_thenN ?_
    refine c_rs ?_
    refine sMV h (fun a h => ?_)
    refine sAV h (fun a h => ?_)
    refine l_end ?_
    refine wp_ret ?_
    exact r_ret1 h rfl (rv_tmp h rfl) ⟨rfl, h.m.below⟩
theorem rshift3_ok (x : UInt32) (w0 : World) : Calls Try.prog 105 #[.int .u32 (U x), .int .i64 3] w0 fun e w' => e = .returned (.int .u32 (U (x >>> 3))) ∧ Below w0.heap.size w0 w' := by
  have := rshift_ok x 3 (by decide) w0
  rwa [show U x / (2 : Int) ^ 3 = U (x >>> 3) from U_shr3 x] at this
theorem rshift10_ok (x : UInt32) (w0 : World) : Calls Try.prog 105 #[.int .u32 (U x), .int .i64 10] w0 fun e w' => e = .returned (.int .u32 (U (x >>> 10))) ∧ Below w0.heap.size w0 w' := by
  have := rshift_ok x 10 (by decide) w0
  rwa [show U x / (2 : Int) ^ 10 = U (x >>> 10) from U_shr10 x] at this
theorem pad8 (n : Nat) (hn : n ≤ 1099511627776) : IB .mul .u64 (IntKind.u64.wrap (n : Int)) .u64 8 (.int .u64 ((UInt64.ofNat (8 * n)).toNat : Int)) := by
  refine ib_mul ?_
  rw [show IntKind.u64.wrap (n : Int) = (n : Int) from nwu64 (by omega), nwu64 (by omega)]; simp; omega
set_option maxRecDepth 100000 in
theorem rpad_ok (w0 : World) (n : Nat) (hn : n ≤ 1099511627776) :
    Calls Try.prog 102 #[.int .i64 (n : Int)] w0 fun e w' => ∃ v, e = .returned v ∧ New w0 w' 5 v (padL n).length (by8 (padL n)) := by
  refine c_enter Try.func102 rfl 20 rfl (by simp) (fun _ => False) _ rfl (fun a h => ?_)
  refine c_rs ?_
  refine sAV h (fun a h => ?_)
  refine l_end ?_
  refine c_rs ?_
  refine s_bslice1 h rfl rfl rfl (by decide) Try.underlying22 zi_uint8 rfl rfl (by simp [Value.oneCell']) (by decide) (by decide) (fun a w g4 h => ?_)
  have h := h.mem (h.m.asRow (i := 0) rfl 1 1 rfl (by simp [maxLen]))
  refine sAV h (fun a h => ?_)
  refine l_end ?_
  refine wp_seq ?_
  refine wp_block ?_
  refine c_loop (fun m a w => ∃ (k : Nat) (A : Option Addr) (c : Nat), k + m = (119 - n % 64) % 64 ∧ St 20 w0 (fun _ => False) [(0, .int .i64 (n : Int)), (3, .slice A (1 + k) c)] [.row (.slice A (1 + k) c) 5 1 (1 + k) ([.int .u8 128] ++ List.replicate k (.int .u8 0))] a w) ((119 - n % 64) % 64) ⟨0, _, _, by omega, h.has (by exact ⟨rfl, rfl, trivial⟩)⟩ (fun m a w hI => ?_)
  obtain ⟨k, A, c, hk, h⟩ := hI
  refine wp_seq ?_
  refine c_rs ?_
  refine sMV h (fun a h => ?_)
  refine sMV h (fun a h => ?_)
  refine s_len h rfl rfl rfl (by decide) Try.underlying22 rfl (fun a h => ?_)
  refine s_bin h rfl rfl rfl (by decide) rfl rfl (ib_add (nw64 (by omega))) (fun a h => ?_)
  refine s_bin h rfl rfl rfl (by decide) rfl rfl (ib_rem (by omega)) (fun a h => ?_)
  refine s_bin h rfl rfl rfl (by decide) rfl rfl (ib_neq) (fun a h => ?_)
  refine l_end ?_
  refine c_cond h rfl (fun hb => ?_) (fun hb => ?_)
  · have hlt : k < (119 - n % 64) % 64 := by
      have := of_decide_eq_true hb
      rcases Nat.lt_or_ge k ((119 - n % 64) % 64) with h1 | h1
      · exact h1
      · exact absurd (show ((n : Int) + ((1 + k : Nat) : Int)) % 64 = 56 by omega) this
    refine wp_skip ?_
    refine e_thenN ?_
    refine wp_block ?_
    refine c_r ?_
    refine sMV h (fun a h => ?_)
    refine s_bslice1 h rfl rfl rfl (by decide) Try.underlying22 zi_uint8 rfl rfl (by simp [Value.oneCell']) (by decide) (by decide) (fun a w g12 h => ?_)
    refine s_append h rfl rfl rfl (by decide) Try.underlying22 zb_uint8 rfl (by decide) rfl 1 rfl rfl [.int .u8 0] rfl (h.m.rdBox (i := 0) rfl 0) (by simp [Value.oneCell']) (by omega) (by unfold maxLen; omega) (fun a w v13 h => ?_)
    obtain ⟨A13, c13, rfl, _, _, _⟩ := h.m.rdRow (i := 1) rfl
    refine sAV h (fun a h => ?_)
    refine l_nil ?_
    refine e_blkN ?_
    have h := h.pick [1] (by decide) rfl
    rw [List.append_assoc, ← List.replicate_succ'] at h
    exact e_thenN ⟨m - 1, by omega, k + 1, A13, c13, by omega, h.has (by exact ⟨rfl, rfl, trivial⟩)⟩
  · have hge : k = (119 - n % 64) % 64 := by
      have := of_decide_eq_false hb
      have h2 : ((n : Int) + ((1 + k : Nat) : Int)) % 64 = 56 := Classical.byContradiction this
      omega
    refine wp_exit ?_
    refine e_thenX ?_
    refine e_thenX ?_
    refine e_blkX ?_
    refine e_thenN ?_
    refine c_rs ?_
    refine sMV h (fun a h => ?_)
    refine sMV h (fun a h => ?_)
    refine s_conv h rfl rfl rfl (by decide) Try.underlying3 Try.underlying59 rfl (fun a h => ?_)
    refine s_bin h rfl rfl rfl (by decide) rfl rfl (pad8 n hn) (fun a h => ?_)
    refine s_callN h rfl rfl rfl (by decide) Try.func34 rfl rfl rfl (rput64_ok (UInt64.ofNat (8 * n)) _) (fun a w v18 hb h => ?_)
    obtain ⟨A18, c18, rfl, _, _, hr18⟩ := h.m.rdRow (i := 0) rfl
    refine s_append h rfl rfl rfl (by decide) Try.underlying22 zb_uint8 rfl (by decide) rfl 1 rfl rfl _ (by simp [by8_length, be_length]) hr18 (by8_one _) (by omega) (by unfold maxLen; omega) (fun a w v19 h => ?_)
    refine sAV h (fun a h => ?_)
    refine l_end ?_
    refine wp_ret ?_
    refine r_ret1 h rfl (rv_tmp h rfl) ⟨v19, rfl, ?_⟩
    have e8 : (UInt64.ofNat (8 * n)).toNat = 8 * n := by simp; omega
    have hnr := h.m.newRow (i := 1) rfl
    rw [e8, hge, padL_cells] at hnr
    rw [padL_length, show 9 + (119 - n % 64) % 64 = 1 + (119 - n % 64) % 64 + 8 by omega]
    exact hnr
set_option maxRecDepth 100000 in
theorem told_ok (w0 : World) : Calls Try.prog 94 #[] w0 fun e w' => ∃ v, e = .returned v ∧ New w0 w' 106 v 64 (ucs kindsL) := by
  refine c_enter Try.func94 rfl 2 rfl (by simp) (fun _ => False) _ rfl (fun a h => ?_)
  refine c_rs ?_
  refine sAV h (fun a h => ?_)
  refine l_end ?_
  refine c_rs ?_
  refine s_bslice1 h rfl rfl rfl (by decide) Try.underlying95 zi_uint32 (vs := ucs kindsL) (by kernel_rfl) (by kernel_rfl) (ucs_one _) (by decide) (by decide) (fun a w g1 h => ?_)
  refine sAV h (fun a h => ?_)
  refine l_end ?_
  refine wp_ret ?_
  have h := h.mem (h.m.asRow (i := 0) rfl 64 1 (by rw [ucs_length]; rfl) (by simp [maxLen]))
  exact r_ret1 h rfl (rv_tmp h rfl) ⟨_, rfl, h.m.newRow (i := 0) rfl⟩
end
section

theorem absorb_rest (l : List UInt8) (s : List UInt32) (h : l.length % 64 = 0) : (absorb s l).2 = [] := by
  generalize hn : l.length = n at h
  induction n using Nat.strongRecOn generalizing l s with
  | _ n ih =>
    by_cases h64 : 64 ≤ l.length
    · rw [absorb_ge s l h64]; exact ih (l.drop 64).length (by simp; omega) _ _ rfl (by simp; omega)
    · rw [absorb_lt s l h64]; show l = []; exact List.eq_nil_of_length_eq_zero (by omega)
/-- k pieces of a text -/
def pieces (M : List UInt8) (k : Nat) : List UInt32 := (absorb beginL (M.take (64 * k))).1
theorem pieces_zero (M : List UInt8) : pieces M 0 = beginL := by unfold pieces; rw [Nat.mul_zero, List.take_zero, absorb_lt _ _ (by decide)]
theorem pieces_length (M : List UInt8) (k : Nat) : (pieces M k).length = 8 := (absorb_length _ _ rfl).1
theorem pieces_succ (M : List UInt8) (k : Nat) (h : 64 * k + 64 ≤ M.length) : pieces M (k + 1) = pieceS (pieces M k) ((M.drop (64 * k)).take 64) := by
  unfold pieces
  have e : M.take (64 * (k + 1)) = M.take (64 * k) ++ (M.drop (64 * k)).take 64 := by rw [← List.take_add, show 64 * (k + 1) = 64 * k + 64 by omega]
  have hl : ((M.drop (64 * k)).take 64).length = 64 := by simp; omega
  rw [e]
  generalize (M.drop (64 * k)).take 64 = q at hl
  rw [← absorb_append, absorb_rest _ _ (by simp; omega), List.nil_append, absorb_ge _ q (by omega), List.take_of_length_le (show q.length ≤ 64 by omega), List.drop_of_length_le (show q.length ≤ 64 by omega), absorb_lt _ _ (by decide)]
theorem bits_u32 {x y : UInt32} (h : ∀ i : Nat, x.toBitVec.getLsbD i = y.toBitVec.getLsbD i) : x = y := UInt32.toBitVec_inj.1 (BitVec.eq_of_getLsbD_eq (fun i _ => h i))
theorem ch_eq (e f g : UInt32) : (e &&& f) ^^^ (~~~e &&& g) = (e &&& f ||| ~~~e &&& g) := by
  refine bits_u32 fun i => ?_
  simp only [UInt32.toBitVec_xor, UInt32.toBitVec_and, UInt32.toBitVec_or, UInt32.toBitVec_not, BitVec.getLsbD_xor, BitVec.getLsbD_and, BitVec.getLsbD_or, BitVec.getLsbD_not]
  cases e.toBitVec.getLsbD i <;> cases f.toBitVec.getLsbD i <;> cases g.toBitVec.getLsbD i <;> cases decide (i < 32) <;> rfl
theorem maj_eq (a b c : UInt32) : (a &&& b) ^^^ (a &&& c) ^^^ (b &&& c) = (a &&& b ||| a &&& c ||| b &&& c) := by
  refine bits_u32 fun i => ?_
  simp only [UInt32.toBitVec_xor, UInt32.toBitVec_and, UInt32.toBitVec_or, BitVec.getLsbD_xor, BitVec.getLsbD_and, BitVec.getLsbD_or]
  cases a.toBitVec.getLsbD i <;> cases b.toBitVec.getLsbD i <;> cases c.toBitVec.getLsbD i <;> rfl
theorem U_sub (y : UInt32) : IntKind.u32.wrap (4294967295 - U y) = U (~~~ y) := by rw [U_not, nwu32 (by have := U_range (~~~ y); omega)]
theorem U_wd' (P : List UInt8) (k : Nat) : IntKind.u32.wrap ((num ((P.drop (4 * k)).take 4) % 18446744073709551616 : Nat) : Int) = U (wd P k) := by
  rw [← wd_toNat]
  have h1 := num_lt ((P.drop (4 * k)).take 4)
  have h2 : ((P.drop (4 * k)).take 4).length ≤ 4 := by simp; omega
  have h3 : 256 ^ ((P.drop (4 * k)).take 4).length ≤ 256 ^ 4 := Nat.pow_le_pow_right (by decide) h2
  have h4 : (256 : Nat) ^ 4 = 4294967296 := by decide
  rw [Nat.mod_eq_of_lt (by omega), nwu32 (by omega)]
theorem be4 (x : UInt32) : by8 (be 4 x.toNat) = [.int .u8 (IntKind.u8.wrap (U x / 16777216)), .int .u8 (IntKind.u8.wrap (U x / 65536 % 256)), .int .u8 (IntKind.u8.wrap (U x / 256 % 256)), .int .u8 (IntKind.u8.wrap (U x % 256))] := by
  simp only [be, by8, byc, List.map_cons, List.map_nil, IntKind.wrap_u8, U, UInt8.toNat_ofNat']
  have := x.toNat_lt
  simp only [List.cons.injEq, Value.int.injEq, true_and, and_true]
  refine ⟨?_, ?_, ?_, ?_⟩ <;> omega
theorem splice_cons (cs : List Value) (off : Nat) (a : Value) (l : List Value) (h : off < cs.length) : splice cs off (a :: l) = splice (cs.set off a) (off + 1) l := by
  unfold splice
  rw [List.take_succ_eq_append_getElem (by simpa using h), List.take_set_of_le (Nat.le_refl _), List.drop_set_of_lt (by omega)]
  simp; congr 1; omega
theorem splice_nil (cs : List Value) (off : Nat) : splice cs off [] = cs := by unfold splice; simp
theorem outK_sets (s : List UInt32) (k : Nat) (hs : s.length = 8) (hk : k < 8) (a b c d : Value) (h : by8 (be 4 (s.getD k 0).toNat) = [a, b, c, d]) :
    ((((by8 (outK s k)).set (4 * k) a).set (4 * k + 1) b).set (4 * k + 2) c).set (4 * k + 3) d = by8 (outK s (k + 1)) := by
  have hl : (by8 (outK s k)).length = 32 := by rw [by8_length, outK_length _ _ hs (by omega)]
  rw [← outK_step s k hs hk, h, splice_cons _ _ _ _ (by omega), splice_cons _ _ _ _ (by simp; omega), splice_cons _ _ _ _ (by simp; omega), splice_cons _ _ _ _ (by simp; omega), splice_nil]
end
end Go.Proofs.Ytohgmggdfmjgnaa
