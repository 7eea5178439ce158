/- The document's answer for the package sha: its parts. -/
import Derived.Test.YtcjleeclpmgbjaaDoorSha4
set_option linter.unusedVariables false
set_option linter.unusedSimpArgs false
namespace Go.Proofs.YtcjleeclpmgbjaaDoor
open Go.RowKit

theorem ib_quou {m n : Int} (h : 0 ≤ m ∧ m < 4294967296 ∧ 0 < n) : IB .quo .u32 m .u32 n (.int .u32 (m / n)) := by
  have h1 := ib_quow (k := .u32) (m := m) (n := n) (by omega)
  have h2 : 0 ≤ m / n := Int.ediv_nonneg h.1 (by omega)
  have h3 : m / n ≤ m := Int.ediv_le_self _ h.1
  rwa [Int.tdiv_eq_ediv_of_nonneg h.1, nwu32 (by omega)] at h1
theorem ib_remu {m n : Int} (h : 0 ≤ m) (hn : 0 < n) : IB .rem .u32 m .u32 n (.int .u32 (m % n)) := by
  have h1 := ib_remw (k := .u32) (m := m) (n := n) (by omega)
  rwa [Int.tmod_eq_emod_of_nonneg h] at h1
set_option maxRecDepth 100000 in
theorem rturn_ok (x : UInt32) (n : Nat) (hn : n ≤ 31) (w0 : World) :
    Calls Tryd.prog 74 #[.int .u32 (U x), .int .i64 (n : Int)] w0 fun e w' => e = .returned (.int .u32 (U (rotr x n))) ∧ Below w0.heap.size w0 w' := by
  refine c_enter Tryd.func74 rfl 14 rfl (by simp) (fun _ => False) _ rfl (fun a h => ?_)
  refine c_rs ?_ -- region 0
  refine s_assign h rfl _ rfl rfl (by decide) rfl (fun a h => ?_)
  refine l_end ?_
  refine wp_seq ?_
  refine c_rs ?_ -- region 1
  refine s_assign h rfl _ rfl rfl (by decide) rfl (fun a h => ?_)
  refine l_end ?_
  refine wp_block ?_
  refine c_loop (fun m a w => ∃ k : Nat, k + m = n ∧ St 14 w0 (fun _ => False) [(0, .int .u32 (U (rotr x k))), (1, .int .i64 (n : Int)), (5, .int .i64 (k : Int))] [] a w) n ⟨0, by omega, by rw [rotr_zero]; exact h.has (by exact ⟨rfl, rfl, rfl, trivial⟩)⟩ (fun m a w hI => ?_)
  obtain ⟨k, hk, h⟩ := hI
  refine wp_seq ?_
  refine c_rs ?_ -- region 2
  refine s_move h rfl _ rfl rfl (by decide) rfl (fun a h => ?_)
  refine s_move h rfl _ rfl rfl (by decide) rfl (fun a h => ?_)
  refine s_bin h rfl rfl rfl (by decide) rfl rfl (ib_lss) (fun a h => ?_)
  refine l_end ?_
  refine c_cond h rfl (fun hb => ?_) (fun hb => ?_)
  · have hlt : k < n := by have := of_decide_eq_true hb; omega
    refine wp_skip ?_
    refine e_thenN ?_
    refine wp_seq ?_
    refine wp_block ?_
    refine c_r ?_ -- region 4
    refine s_move h rfl _ rfl rfl (by decide) rfl (fun a h => ?_)
    refine s_callB h rfl rfl rfl (by decide) Tryd.func90 rfl rfl rfl (same_below (right_ok (rotr x k) w)) (fun a w hb h => ?_)
    refine s_assign h rfl _ rfl rfl (by decide) rfl (fun a h => ?_)
    refine l_nil ?_
    refine e_blkN ?_
    refine e_thenN ?_
    refine c_r ?_ -- region 3
    refine s_move h rfl _ rfl rfl (by decide) rfl (fun a h => ?_)
    refine s_bin h rfl rfl rfl (by decide) rfl rfl (ib_add (nw64 (by omega))) (fun a h => ?_)
    refine s_assign h rfl _ rfl rfl (by decide) rfl (fun a h => ?_)
    refine l_nil ?_
    refine e_thenN ⟨m - 1, by omega, k + 1, by omega, ?_⟩
    rw [rotr_succ x k (by omega)] at h
    exact h.has (by exact ⟨rfl, rfl, rfl, trivial⟩)
  · have hge : k = n := by have := of_decide_eq_false hb; omega
    subst hge
    refine wp_exit ?_
    refine e_thenX ?_
    refine e_thenX ?_
    refine e_blkX ?_
    refine e_thenN ?_
    refine c_rs ?_ -- region 5
    refine s_move h rfl _ rfl rfl (by decide) rfl (fun a h => ?_)
    refine s_assign h rfl _ rfl rfl (by decide) rfl (fun a h => ?_)
    refine l_end ?_
    refine wp_ret ?_
    exact r_ret1 h rfl (rv_tmp h rfl) ⟨rfl, h.m.below⟩
theorem half_pow (x : UInt32) (k : Nat) : U x / (2 : Int) ^ k / 2 = U x / (2 : Int) ^ (k + 1) := by rw [Int.pow_succ, Int.ediv_ediv_of_nonneg (Int.le_of_lt (Int.pow_pos (by decide)))]
theorem pow_range (x : UInt32) (k : Nat) : 0 ≤ U x / (2 : Int) ^ k ∧ U x / (2 : Int) ^ k < 4294967296 := by
  have := U_range x
  have h1 : 0 ≤ U x / (2 : Int) ^ k := Int.ediv_nonneg this.1 (Int.le_of_lt (Int.pow_pos (by decide)))
  have h2 : U x / (2 : Int) ^ k ≤ U x := Int.ediv_le_self _ this.1
  omega
set_option maxRecDepth 100000 in
theorem rshift_ok (x : UInt32) (n : Nat) (hn : n ≤ 31) (w0 : World) :
    Calls Tryd.prog 75 #[.int .u32 (U x), .int .i64 (n : Int)] w0 fun e w' => e = .returned (.int .u32 (U x / (2 : Int) ^ n)) ∧ Below w0.heap.size w0 w' := by
  refine c_enter Tryd.func75 rfl 14 rfl (by simp) (fun _ => False) _ rfl (fun a h => ?_)
  refine c_rs ?_ -- region 0
  refine s_assign h rfl _ rfl rfl (by decide) rfl (fun a h => ?_)
  refine l_end ?_
  refine wp_seq ?_
  refine c_rs ?_ -- region 1
  refine s_assign h rfl _ rfl rfl (by decide) rfl (fun a h => ?_)
  refine l_end ?_
  refine wp_block ?_
  refine c_loop (fun m a w => ∃ k : Nat, k + m = n ∧ St 14 w0 (fun _ => False) [(0, .int .u32 (U x / (2 : Int) ^ k)), (1, .int .i64 (n : Int)), (5, .int .i64 (k : Int))] [] a w) n ⟨0, by omega, by rw [Int.pow_zero, Int.ediv_one]; exact h.has (by exact ⟨rfl, rfl, rfl, trivial⟩)⟩ (fun m a w hI => ?_)
  obtain ⟨k, hk, h⟩ := hI
  refine wp_seq ?_
  refine c_rs ?_ -- region 2
  refine s_move h rfl _ rfl rfl (by decide) rfl (fun a h => ?_)
  refine s_move h rfl _ rfl rfl (by decide) rfl (fun a h => ?_)
  refine s_bin h rfl rfl rfl (by decide) rfl rfl (ib_lss) (fun a h => ?_)
  refine l_end ?_
  refine c_cond h rfl (fun hb => ?_) (fun hb => ?_)
  · have hlt : k < n := by have := of_decide_eq_true hb; omega
    refine wp_skip ?_
    refine e_thenN ?_
    refine wp_seq ?_
    refine wp_block ?_
    refine c_r ?_ -- region 4
    refine s_move h rfl _ rfl rfl (by decide) rfl (fun a h => ?_)
    refine s_bin h rfl rfl rfl (by decide) rfl rfl (ib_quou ⟨(pow_range x k).1, (pow_range x k).2, by decide⟩) (fun a h => ?_)
    refine s_assign h rfl _ rfl rfl (by decide) rfl (fun a h => ?_)
    refine l_nil ?_
    refine e_blkN ?_
    refine e_thenN ?_
    refine c_r ?_ -- region 3
    refine s_move h rfl _ rfl rfl (by decide) rfl (fun a h => ?_)
    refine s_bin h rfl rfl rfl (by decide) rfl rfl (ib_add (nw64 (by omega))) (fun a h => ?_)
    refine s_assign h rfl _ rfl rfl (by decide) rfl (fun a h => ?_)
    refine l_nil ?_
    refine e_thenN ⟨m - 1, by omega, k + 1, by omega, ?_⟩
    rw [half_pow] at h
    exact h.has (by exact ⟨rfl, rfl, rfl, trivial⟩)
  · have hge : k = n := by have := of_decide_eq_false hb; omega
    subst hge
    refine wp_exit ?_
    refine e_thenX ?_
    refine e_thenX ?_
    refine e_blkX ?_
    refine e_thenN ?_
    refine c_rs ?_ -- region 5
    refine s_move h rfl _ rfl rfl (by decide) rfl (fun a h => ?_)
    refine s_assign h rfl _ rfl rfl (by decide) rfl (fun a h => ?_)
    refine l_end ?_
    refine wp_ret ?_
    exact r_ret1 h rfl (rv_tmp h rfl) ⟨rfl, h.m.below⟩
theorem rshift3_ok (x : UInt32) (w0 : World) : Calls Tryd.prog 75 #[.int .u32 (U x), .int .i64 3] w0 fun e w' => e = .returned (.int .u32 (U (x >>> 3))) ∧ Below w0.heap.size w0 w' := by
  have := rshift_ok x 3 (by decide) w0
  rwa [show U x / (2 : Int) ^ 3 = U (x >>> 3) from U_shr3 x] at this
theorem rshift10_ok (x : UInt32) (w0 : World) : Calls Tryd.prog 75 #[.int .u32 (U x), .int .i64 10] w0 fun e w' => e = .returned (.int .u32 (U (x >>> 10))) ∧ Below w0.heap.size w0 w' := by
  have := rshift_ok x 10 (by decide) w0
  rwa [show U x / (2 : Int) ^ 10 = U (x >>> 10) from U_shr10 x] at this
theorem pad8 (n : Nat) (hn : n ≤ 1099511627776) : IB .mul .u64 (IntKind.u64.wrap (n : Int)) .u64 8 (.int .u64 ((UInt64.ofNat (8 * n)).toNat : Int)) := by
  refine ib_mul ?_
  rw [show IntKind.u64.wrap (n : Int) = (n : Int) from nwu64 (by omega), nwu64 (by omega)]; simp; omega
set_option maxRecDepth 100000 in
theorem rpad_ok (w0 : World) (n : Nat) (hn : n ≤ 1099511627776) :
    Calls Tryd.prog 72 #[.int .i64 (n : Int)] w0 fun e w' => ∃ v, e = .returned v ∧ New w0 w' 5 v (padL n).length (by8 (padL n)) := by
  refine c_enter Tryd.func72 rfl 20 rfl (by simp) (fun _ => False) _ rfl (fun a h => ?_)
  refine c_rs ?_ -- region 0
  refine s_assign h rfl _ rfl rfl (by decide) rfl (fun a h => ?_)
  refine l_end ?_
  refine c_rs ?_ -- region 1
  refine s_bslice1 h rfl rfl rfl (by decide) Tryd.underlying23 zi_uint8 rfl rfl (by simp [Value.oneCell']) (by decide) (by decide) (fun a w g4 h => ?_)
  have h := h.mem (h.m.asRow (i := 0) rfl 1 1 rfl (by simp [maxLen]))
  refine s_assign h rfl _ rfl rfl (by decide) rfl (fun a h => ?_)
  refine l_end ?_
  refine wp_seq ?_
  refine wp_block ?_
  refine c_loop (fun m a w => ∃ (k : Nat) (A : Option Addr) (c : Nat), k + m = (119 - n % 64) % 64 ∧ St 20 w0 (fun _ => False) [(0, .int .i64 (n : Int)), (3, .slice A (1 + k) c)] [.row (.slice A (1 + k) c) 5 1 (1 + k) ([.int .u8 128] ++ List.replicate k (.int .u8 0))] a w) ((119 - n % 64) % 64) ⟨0, _, _, by omega, h.has (by exact ⟨rfl, rfl, trivial⟩)⟩ (fun m a w hI => ?_)
  obtain ⟨k, A, c, hk, h⟩ := hI
  refine wp_seq ?_
  refine c_rs ?_ -- region 2
  refine s_move h rfl _ rfl rfl (by decide) rfl (fun a h => ?_)
  refine s_move h rfl _ rfl rfl (by decide) rfl (fun a h => ?_)
  refine s_len h rfl rfl rfl (by decide) Tryd.underlying23 rfl (fun a h => ?_)
  refine s_bin h rfl rfl rfl (by decide) rfl rfl (ib_add (nw64 (by omega))) (fun a h => ?_)
  refine s_bin h rfl rfl rfl (by decide) rfl rfl (ib_rem (by omega)) (fun a h => ?_)
  refine s_bin h rfl rfl rfl (by decide) rfl rfl (ib_neq) (fun a h => ?_)
  refine l_end ?_
  refine c_cond h rfl (fun hb => ?_) (fun hb => ?_)
  · have hlt : k < (119 - n % 64) % 64 := by
      have := of_decide_eq_true hb
      rcases Nat.lt_or_ge k ((119 - n % 64) % 64) with h1 | h1
      · exact h1
      · exact absurd (show ((n : Int) + ((1 + k : Nat) : Int)) % 64 = 56 by omega) this
    refine wp_skip ?_
    refine e_thenN ?_
    refine wp_block ?_
    refine c_r ?_ -- region 3
    refine s_move h rfl _ rfl rfl (by decide) rfl (fun a h => ?_)
    refine s_bslice1 h rfl rfl rfl (by decide) Tryd.underlying23 zi_uint8 rfl rfl (by simp [Value.oneCell']) (by decide) (by decide) (fun a w g12 h => ?_)
    refine s_append h rfl rfl rfl (by decide) Tryd.underlying23 zb_uint8 rfl (by decide) rfl 1 rfl rfl [.int .u8 0] rfl (h.m.rdBox (i := 0) rfl 0) (by simp [Value.oneCell']) (by omega) (by unfold maxLen; omega) (fun a w v13 h => ?_)
    obtain ⟨A13, c13, rfl, _, _, _⟩ := h.m.rdRow (i := 1) rfl
    refine s_assign h rfl _ rfl rfl (by decide) rfl (fun a h => ?_)
    refine l_nil ?_
    refine e_blkN ?_
    have h := h.pick [1] (by decide) rfl
    rw [List.append_assoc, ← List.replicate_succ'] at h
    exact e_thenN ⟨m - 1, by omega, k + 1, A13, c13, by omega, h.has (by exact ⟨rfl, rfl, trivial⟩)⟩
  · have hge : k = (119 - n % 64) % 64 := by
      have := of_decide_eq_false hb
      have h2 : ((n : Int) + ((1 + k : Nat) : Int)) % 64 = 56 := Classical.byContradiction this
      omega
    refine wp_exit ?_
    refine e_thenX ?_
    refine e_thenX ?_
    refine e_blkX ?_
    refine e_thenN ?_
    refine c_rs ?_ -- region 4
    refine s_move h rfl _ rfl rfl (by decide) rfl (fun a h => ?_)
    refine s_move h rfl _ rfl rfl (by decide) rfl (fun a h => ?_)
    refine s_conv h rfl rfl rfl (by decide) Tryd.underlying3 Tryd.underlying107 rfl (fun a h => ?_)
    refine s_bin h rfl rfl rfl (by decide) rfl rfl (pad8 n hn) (fun a h => ?_)
    refine s_callN h rfl rfl rfl (by decide) Tryd.func89 rfl rfl rfl (rput64_ok (UInt64.ofNat (8 * n)) _) (fun a w v18 hb h => ?_)
    obtain ⟨A18, c18, rfl, _, _, hr18⟩ := h.m.rdRow (i := 0) rfl
    refine s_append h rfl rfl rfl (by decide) Tryd.underlying23 zb_uint8 rfl (by decide) rfl 1 rfl rfl _ (by simp [by8_length, be_length]) hr18 (by8_one _) (by omega) (by unfold maxLen; omega) (fun a w v19 h => ?_)
    refine s_assign h rfl _ rfl rfl (by decide) rfl (fun a h => ?_)
    refine l_end ?_
    refine wp_ret ?_
    refine r_ret1 h rfl (rv_tmp h rfl) ⟨v19, rfl, ?_⟩
    have e8 : (UInt64.ofNat (8 * n)).toNat = 8 * n := by simp; omega
    have hnr := h.m.newRow (i := 1) rfl
    rw [e8, hge, padL_cells] at hnr
    rw [padL_length, show 9 + (119 - n % 64) % 64 = 1 + (119 - n % 64) % 64 + 8 by omega]
    exact hnr
set_option maxRecDepth 100000 in
theorem told_ok (w0 : World) : Calls Tryd.prog 58 #[] w0 fun e w' => ∃ v, e = .returned v ∧ New w0 w' 95 v 64 (ucs kindsL) := by
  refine c_enter Tryd.func58 rfl 2 rfl (by simp) (fun _ => False) _ rfl (fun a h => ?_)
  refine c_rs ?_ -- region 0
  refine s_assign h rfl _ rfl rfl (by decide) rfl (fun a h => ?_)
  refine l_end ?_
  refine c_rs ?_ -- region 1
  refine s_bslice1 h rfl rfl rfl (by decide) Tryd.underlying96 zi_uint32 (vs := ucs kindsL) (by kernel_rfl) (by kernel_rfl) (ucs_one _) (by decide) (by decide) (fun a w g1 h => ?_)
  refine s_assign h rfl _ rfl rfl (by decide) rfl (fun a h => ?_)
  refine l_end ?_
  refine wp_ret ?_
  have h := h.mem (h.m.asRow (i := 0) rfl 64 1 (by rw [ucs_length]; rfl) (by simp [maxLen]))
  exact r_ret1 h rfl (rv_tmp h rfl) ⟨_, rfl, h.m.newRow (i := 0) rfl⟩
end Go.Proofs.YtcjleeclpmgbjaaDoor
