/- Sums of pairs. -/
import Derived.Test.YtlgcfnbhnpnkiaaRef5c
set_option linter.unusedVariables false
set_option linter.unusedSimpArgs false
namespace Go.Proofs.Ytlgcfnbhnpnkiaa
open Go.RowKit

set_option maxRecDepth 100000 in
theorem rsum_ok (w0 : World) (A : Option Addr) (p : List UInt8) (c : Nat) (hP : Rd w0 A (by8 p)) (hp : p.length ≤ 1099511627776) :
    Calls Try.prog 72 #[.slice A p.length c] w0 fun e w' => e = .returned (.agg (by8 (shaS p)).toArray) ∧ Below w0.heap.size w0 w' := by
  refine c_enter Try.func72 rfl 9 rfl (by simp) (fun _ => False) _ rfl (fun a h => ?_)
  have h := h.mem (h.m.arg (rdP A (by8 p)) hP (fun _ _ hh => hh))
  refine c_rs ?_ -- region 0
  refine s_alloc h rfl rfl rfl (by decide) zi_A32_uint8 rfl (fun a w g2 h => ?_)
  refine l_end ?_
  refine c_rs ?_ -- region 1
  refine s_bslice1 h rfl rfl rfl (by decide) Try.underlying140 zi_uint32 (vs := ucs beginL) (by kernel_rfl) (by kernel_rfl) (ucs_one _) (by decide) (by decide) (fun a w g4 h => ?_)
  refine s_assign h rfl _ rfl rfl (by decide) rfl (fun a h => ?_)
  refine l_end ?_
  refine c_rs ?_ -- region 2
  refine s_callN h rfl rfl rfl (by decide) Try.func97 rfl rfl rfl (told_ok w) (fun a w v5 hb h => ?_)
  obtain ⟨g5, c5, rfl, hc5, _⟩ := h.m.rowAt (i := 0) rfl (by omega)
  have hr4 : Rd w (some ⟨g4, 0, none⟩) (ucs beginL) := by have := h.m.rdBox (i := 1) rfl 0; rwa [List.drop_zero] at this
  refine s_move h rfl _ rfl rfl (by decide) rfl (fun a h => ?_)
  refine s_move h rfl _ rfl rfl (by decide) rfl (fun a h => ?_)
  refine s_callB h rfl rfl rfl (by decide) Try.func96 rfl rfl rfl (with_ok w g5 0 c5 (h.m.rdRowA (i := 0) rfl) (some ⟨g4, 0, none⟩) 8 hr4 A p c (h.m.ok 3 _ rfl) hp) (fun a w hb h => ?_)
  refine s_stW h rfl rfl rfl ag_A32_uint8 rfl rfl (by rw [by8_length, shaS_length]) (by8_one _) 2 rfl (by rfl) (fun a w h => ?_)
  refine l_end ?_
  refine wp_ret ?_
  exact r_ret1 h rfl (rv_cellA h rfl 2 rfl ag_A32_uint8 (by rw [by8_length, shaS_length])) ⟨rfl, h.m.below⟩
set_option maxRecDepth 100000 in
theorem list_ok (w0 : World) (s : List UInt8) (hs : s.length = 32) :
    Calls Try.prog 71 #[.agg (by8 s).toArray] w0 fun e w' => ∃ v, e = .returned v ∧ New w0 w' 5 v 32 (by8 s) := by
  refine c_enter Try.func71 rfl 16 rfl (by simp) (fun _ => False) _ rfl (fun a h => ?_)
  refine c_rs ?_ -- region 0
  refine s_box h rfl rfl rfl (by decide) rfl rfl (fun a w g1 h => ?_)
  refine s_assign h rfl _ rfl rfl (by decide) rfl (fun a h => ?_)
  refine l_end ?_
  refine c_rs ?_ -- region 1
  refine s_assign h rfl _ rfl rfl (by decide) rfl (fun a h => ?_)
  refine l_end ?_
  refine wp_seq ?_
  refine c_rs ?_ -- region 2
  have h := h.mem (h.m.nilrow 5 1)
  refine s_assign h rfl _ rfl rfl (by decide) rfl (fun a h => ?_)
  refine l_end ?_
  refine wp_block ?_
  refine c_loop (fun m a w => ∃ (k : Nat) (A : Option Addr) (c : Nat), k + m = 32 ∧ St 16 w0 (fun _ => False) [(1, .pointer (some ⟨g1, 0, none⟩)), (3, .slice A k c), (4, .int .i64 (k : Int))] [.row (.slice A k c) 5 1 k (by8 (s.take k)), .box g1 40 (by8 s)] a w) 32 ⟨0, none, 0, rfl, h.has (by exact ⟨rfl, rfl, rfl, trivial⟩)⟩ (fun m a w hI => ?_)
  obtain ⟨k, A, c, hkm, h⟩ := hI
  refine wp_seq ?_
  refine c_rs ?_ -- region 3
  refine s_move h rfl _ rfl rfl (by decide) rfl (fun a h => ?_)
  refine s_bin h rfl rfl rfl (by decide) rfl rfl (ib_lss) (fun a h => ?_)
  refine l_end ?_
  refine c_cond h rfl (fun hb => ?_) (fun hb => ?_)
  · have hlt : k < 32 := by have := of_decide_eq_true hb; omega
    have hbk : (by8 s)[k]? = some (.int .u8 ((s[k]'(by omega)).toNat : Int)) := by simp [by8, byc, hs, hlt]
    refine wp_skip ?_
    refine e_thenN ?_
    refine wp_seq ?_
    refine wp_block ?_
    refine c_r ?_ -- region 5
    refine s_move h rfl _ rfl rfl (by decide) rfl (fun a h => ?_)
    refine s_move h rfl _ rfl rfl (by decide) rfl (fun a h => ?_)
    refine s_iaddrA h rfl rfl rfl (by decide) Try.underlying40 sz_uint8 rfl rfl (m := k) (by omega) (by omega) (r := k) (by omega) (fun a h => ?_)
    refine s_ldb h rfl rfl rfl (by decide) Try.underlying5 rfl rfl 1 rfl (hbk) (fun a h => ?_)
    refine s_bslice1 h rfl rfl rfl (by decide) Try.underlying52 zi_uint8 rfl rfl (by simp [Value.oneCell']) (by decide) (by decide) (fun a w g13 h => ?_)
    refine s_append h rfl rfl rfl (by decide) Try.underlying52 zb_uint8 rfl (by decide) rfl 1 rfl rfl [.int .u8 ((s[k]'(by omega)).toNat : Int)] rfl (h.m.rdBox (i := 0) rfl 0) (by simp [Value.oneCell']) (by omega) (by unfold maxLen; omega) (fun a w v13 h => ?_)
    obtain ⟨A13, c13, rfl, _, _, _⟩ := h.m.rdRow (i := 1) rfl
    refine s_assign h rfl _ rfl rfl (by decide) rfl (fun a h => ?_)
    refine l_nil ?_
    refine e_blkN ?_
    refine e_thenN ?_
    refine c_r ?_ -- region 4
    refine s_move h rfl _ rfl rfl (by decide) rfl (fun a h => ?_)
    refine s_bin h rfl rfl rfl (by decide) rfl rfl (ib_add (nw64 (by omega))) (fun a h => ?_)
    refine s_assign h rfl _ rfl rfl (by decide) rfl (fun a h => ?_)
    refine l_nil ?_
    have h := h.pick [1, 2] (by decide) rfl
    rw [show by8 (s.take k) ++ [.int .u8 ((s[k]'(by omega)).toNat : Int)] = by8 (s.take (k + 1)) by rw [List.take_succ_eq_append_getElem (by omega), by8_append]; rfl] at h
    exact e_thenN ⟨m - 1, by omega, k + 1, A13, c13, by omega, h.has (by exact ⟨rfl, rfl, rfl, trivial⟩)⟩
  · have hge : k = 32 := by have := of_decide_eq_false hb; omega
    subst hge
    refine wp_exit ?_
    refine e_thenX ?_
    refine e_thenX ?_
    refine e_blkX ?_
    refine e_thenN ?_
    refine c_rs ?_ -- region 6
    refine s_move h rfl _ rfl rfl (by decide) rfl (fun a h => ?_)
    refine s_assign h rfl _ rfl rfl (by decide) rfl (fun a h => ?_)
    refine l_end ?_
    refine wp_ret ?_
    rw [List.take_of_length_le (by omega)] at h
    exact r_ret1 h rfl (rv_tmp h rfl) ⟨_, rfl, h.m.newRow (i := 0) rfl⟩
/-- the sum of a pair -/
def pairS (a b : List UInt8) : List UInt8 := shaS ([1] ++ a ++ b)
theorem pairS_length (a b : List UInt8) : (pairS a b).length = 32 := shaS_length _
set_option maxRecDepth 100000 in
theorem rpair_ok (w0 : World) (x y : List UInt8) (hx : x.length = 32) (hy : y.length = 32) :
    Calls Try.prog 27 #[.agg (by8 x).toArray, .agg (by8 y).toArray] w0 fun e w' => e = .returned (.agg (by8 (pairS x y)).toArray) ∧ Below w0.heap.size w0 w' := by
  refine c_enter Try.func27 rfl 16 rfl (by simp) (fun _ => False) _ rfl (fun a h => ?_)
  refine c_rs ?_ -- region 0
  refine s_box h rfl rfl rfl (by decide) rfl rfl (fun a w g2 h => ?_)
  refine s_box h rfl rfl rfl (by decide) rfl rfl (fun a w g3 h => ?_)
  refine s_alloc h rfl rfl rfl (by decide) zi_A32_uint8 rfl (fun a w g4 h => ?_)
  refine l_end ?_
  refine c_rs ?_ -- region 1
  refine s_bslice1 h rfl rfl rfl (by decide) Try.underlying52 zi_uint8 rfl rfl (by simp [Value.oneCell']) (by decide) (by decide) (fun a w g6 h => ?_)
  have h := h.mem (h.m.asRow (i := 0) rfl 1 1 rfl (by simp [maxLen]))
  refine s_assign h rfl _ rfl rfl (by decide) rfl (fun a h => ?_)
  refine l_end ?_
  refine c_rs ?_ -- region 2
  refine s_move h rfl _ rfl rfl (by decide) rfl (fun a h => ?_)
  refine s_ldW h rfl rfl rfl (by decide) ag_A32_uint8 rfl 3 rfl (by rw [by8_length, hx]) (fun a h => ?_)
  refine s_callN h rfl rfl rfl (by decide) Try.func71 rfl rfl rfl (list_ok w x hx) (fun a w v9 hb h => ?_)
  obtain ⟨A9, c9, rfl, _, _, hr9⟩ := h.m.rdRow (i := 0) rfl
  refine s_append h rfl rfl rfl (by decide) Try.underlying52 zb_uint8 rfl (by decide) rfl 1 rfl rfl (by8 x) (by rw [by8_length, hx]) hr9 (by8_one _) (by omega) (by unfold maxLen; omega) (fun a w v10 h => ?_)
  have h := h.pick [1, 2, 3, 4] (by decide) rfl
  refine s_assign h rfl _ rfl rfl (by decide) rfl (fun a h => ?_)
  refine l_end ?_
  refine c_rs ?_ -- region 3
  refine s_move h rfl _ rfl rfl (by decide) rfl (fun a h => ?_)
  refine s_ldW h rfl rfl rfl (by decide) ag_A32_uint8 rfl 2 rfl (by rw [by8_length, hy]) (fun a h => ?_)
  refine s_callN h rfl rfl rfl (by decide) Try.func71 rfl rfl rfl (list_ok w y hy) (fun a w v13 hb h => ?_)
  obtain ⟨A13, c13, rfl, _, _, hr13⟩ := h.m.rdRow (i := 0) rfl
  refine s_append h rfl rfl rfl (by decide) Try.underlying52 zb_uint8 rfl (by decide) rfl 1 rfl rfl (by8 y) (by rw [by8_length, hy]) hr13 (by8_one _) (by omega) (by unfold maxLen; omega) (fun a w v14 h => ?_)
  obtain ⟨A14, c14, rfl, _, _, hr14⟩ := h.m.rdRow (i := 1) rfl
  have hl : ([1] ++ x ++ y).length = 1 + 32 + 32 := by simp [hx, hy]
  have hr14' : Rd w A14 (by8 ([1] ++ x ++ y)) := by rw [by8_append, by8_append]; exact hr14
  have hC := rsum_ok w A14 ([1] ++ x ++ y) c14 hr14' (by omega)
  rw [hl] at hC
  refine s_callB h rfl rfl rfl (by decide) Try.func72 rfl rfl rfl (hC) (fun a w hb h => ?_)
  refine s_stW h rfl rfl rfl ag_A32_uint8 rfl rfl (by rw [by8_length, shaS_length]) (by8_one _) 2 rfl (by rfl) (fun a w h => ?_)
  refine l_end ?_
  refine wp_ret ?_
  exact r_ret1 h rfl (rv_cellA h rfl 2 rfl ag_A32_uint8 (by rw [by8_length, shaS_length])) ⟨rfl, h.m.below⟩
theorem rb_of {w : World} {A : Option Addr} {l : List UInt8} {n c : Nat} (hl : l.length = n) (h1 : n ≤ c) (h2 : c ≤ 9223372036854775807) (h : Rd w A (by8 l)) : Rb w (.slice A n c) l := by subst hl; exact ⟨A, c, rfl, h1, h2, h⟩
set_option maxRecDepth 100000 in
theorem pair_ok (w0 : World) (x y : List UInt8) (hx : x.length = 32) (hy : y.length = 32) :
    Calls Try.prog 73 #[.agg (by8 x).toArray, .agg (by8 y).toArray] w0 fun e w' => e = .returned (.agg (by8 (pairS x y)).toArray) ∧ Below w0.heap.size w0 w' := by
  refine c_enter Try.func73 rfl 10 rfl (by simp) (fun _ => False) _ rfl (fun a h => ?_)
  refine c_rs ?_ -- region 0
  refine s_box h rfl rfl rfl (by decide) rfl rfl (fun a w g2 h => ?_)
  refine s_box h rfl rfl rfl (by decide) rfl rfl (fun a w g3 h => ?_)
  refine s_alloc h rfl rfl rfl (by decide) zi_A32_uint8 rfl (fun a w g4 h => ?_)
  refine l_end ?_
  refine wp_seq ?_
  -- region 1 DRAWS
  refine d_start h (Mem _ _ _) 5 6 rfl (by kernel_rfl) (fun _ _ _ _ _ h => h) (fun _ h => h) (fun Q a w HE HN h HS => ?_)
  refine d_takeP h (fun _ => HS) HN 1 rfl (by kernel_rfl) (by kernel_rfl) (by kernel_rfl) (by decide) rfl rfl (by decide) (fun w' => x_sliceA h.k rfl Try.underlying40 sz_uint8 rfl 0 32 32 (by exact rfl) (by exact rfl) (by exact rfl) (by intro _; rfl) (by omega) (by omega) (by omega)) (fun a h => ?_)
  refine d_takeP h (fun _ => HS) HN 2 rfl (by kernel_rfl) (by kernel_rfl) (by kernel_rfl) (by decide) rfl rfl (by decide) (fun w' => x_sliceA h.k rfl Try.underlying40 sz_uint8 rfl 0 32 32 (by exact rfl) (by exact rfl) (by exact rfl) (by intro _; rfl) (by omega) (by omega) (by omega)) (fun a h => ?_)
  refine d_alone 0 rfl (by kernel_rfl) (fun K hK => ?_)
  refine s_bslice1 h rfl rfl rfl (by decide) Try.underlying52 zi_uint8 rfl rfl (by simp [Value.oneCell']) (by decide) (by decide) (fun a w g5 h => ?_)
  replace HS := h.m.tail
  refine hK _ _ (fun _ _ => HS) ?_
  clear hK
  refine d_alone 3 rfl (by kernel_rfl) (fun K hK => ?_)
  refine s_bslice1 h rfl rfl rfl (by decide) Try.underlying64 zi_Suint8 rfl rfl (by simp [Value.oneCell']) (by decide) (by decide) (fun a w g8 h => ?_)
  replace HS := h.m.tail.tail
  refine hK _ _ (fun _ _ => HS) ?_
  clear hK
  refine d_alone 4 rfl (by kernel_rfl) (fun K hK => ?_)
  have hr5 : Rb w (.slice (some ⟨g5, 0, none⟩) 1 1) [1] := rb_of rfl (by omega) (by omega) (h.m.rdBox (i := 1) rfl 0)
  have hr2 : Rb w (.slice (some ⟨g2, 0, none⟩) 32 32) x := rb_of hx (by omega) (by omega) (by have := h.m.rdBox (i := 4) rfl 0; rwa [List.drop_zero] at this)
  have hr3 : Rb w (.slice (some ⟨g3, 0, none⟩) 32 32) y := rb_of hy (by omega) (by omega) (by have := h.m.rdBox (i := 3) rfl 0; rwa [List.drop_zero] at this)
  have hL : RbL w (some ⟨g8, 0, none⟩) [[1], x, y] := by
    refine ⟨_, rfl, h.m.rdBox (i := 0) rfl 0, fun i v l hv hl => ?_⟩
    match i, hv, hl with
    | 0, hv, hl => cases hv; cases hl; exact hr5
    | 1, hv, hl => cases hv; cases hl; exact hr2
    | 2, hv, hl => cases hv; cases hl; exact hr3
    | i + 3, hv, hl => simp at hl
  have hfl : [[1], x, y].flatten = [1] ++ x ++ y := by simp
  have hC := sum_ok w (some ⟨g8, 0, none⟩) [[1], x, y] 3 hL (by simp) (by simp [hx, hy])
  rw [hfl] at hC
  refine s_callB h rfl rfl rfl (by decide) Try.func74 rfl rfl rfl (hC) (fun a w hb h => ?_)
  refine hK _ _ (fun _ _ => HS.ext hb) ?_
  replace HS := HS.ext hb
  clear hK
  refine d_alone 5 rfl (by kernel_rfl) (fun K hK => ?_)
  refine s_stW h rfl rfl rfl ag_A32_uint8 rfl rfl (by rw [by8_length, shaS_length]) (by8_one _) 2 rfl (by rfl) (fun a w h => ?_)
  refine hK _ _ (fun hne _ => absurd rfl hne) ?_
  clear hK
  refine d_done (by kernel_rfl) (HE _ _ ?_) _
  refine e_thenN ?_
  refine wp_ret ?_
  exact r_ret1 h rfl (rv_cellA h rfl 2 rfl ag_A32_uint8 (by rw [by8_length, shaS_length])) ⟨rfl, h.m.below⟩
end Go.Proofs.Ytlgcfnbhnpnkiaa
