/- Eu: Go functions as plain functions, and that they are so (written by xt.py). -/
import Derived.Test.YtdahdlidpplllaaEt
set_option linter.unusedVariables false
set_option linter.unusedSimpArgs false
namespace Go.Proofs.Ytdahdlidpplllaa
open Go.RowKit
def chatelaineref36_Store_Find_l0 (Fu : Nat) (a0 : (List (Int × Int × Int))) (a1 : Int × Int × Int) : Nat → Int → Option (Sum Int Unit)
  | 0, _ => none
  | k + 1, x11 => if x11 < (a0.length : Int) then ((idx a0 x11).bind fun x25 => if x25 = a1 then (some (.inl x11)) else (chatelaineref36_Store_Find_l0 Fu a0 a1 k (w64 (x11 + 1)))) else (some (.inr ()))
def chatelaineref36_Store_Find (Fu : Nat) (a0 : (List (Int × Int × Int))) (a1 : Int × Int × Int) : Option Int :=
  (chatelaineref36_Store_Find_l0 Fu a0 a1 Fu 0).bind fun o => match o with | .inl r44 => some r44 | .inr _ => some (-1)
set_option maxRecDepth 100000 in
set_option maxHeartbeats 2000000 in
theorem chatelaineref36_Store_Find_ok (Fu : Nat) {S0 : Snap} (ga0 : Nat) (a0 : (List (Int × Int × Int))) (hpa0 : ptS (tyL (tyP tyI (tyP tyI tyI))) S0 ga0 a0) (csa1 : List Value) (a1 : Int × Int × Int) (hsa1 : (tyP tyI (tyP tyI tyI)).rep S0 csa1 a1) (r : Int) (hf : chatelaineref36_Store_Find Fu a0 a1 = some r) (w0 : World) (hm : Mem w0 (ownL ([] ++ [.sn S0])) ([] ++ [.sn S0]) w0) :
    Calls Try.prog 92 #[.pointer (some ⟨ga0, 0, none⟩), .agg csa1.toArray] w0 (Ret w0 S0 [] (fun v L1 S1 => v = .int .i64 r ∧ L1 = [] ∧ r64 r ∧ True)) := by
  unfold chatelaineref36_Store_Find at hf
  obtain ⟨k1, k2, rfl, ⟨rfl, hr3⟩, ⟨k4, k5, rfl, ⟨rfl, hr6⟩, ⟨rfl, hr7⟩⟩⟩ := hsa1
  refine c_enterM Try.func92 rfl 25 rfl (by simp) _ hm _ rfl (fun a h => ?_)
  refine c_rs ?_ -- region 0
  refine s_box h rfl rfl rfl (by decide) rfl (cs := [.int .i64 a1.1, .int .i64 a1.2.1, .int .i64 a1.2.2]) (by rfl) (fun a w g8 h => ?_)
  refine s_assign h rfl _ rfl rfl (by decide) rfl (fun a h => ?_)
  refine l_end ?_
  refine wp_seq ?_
  refine c_rs ?_ -- region 1
  refine s_assign h rfl _ rfl rfl (by decide) rfl (fun a h => ?_)
  refine l_end ?_
  obtain ⟨o9, hl10, hf⟩ := bsome hf
  refine c_fin (fun a w => (.inr ()) = o9 ∧ St 25 w0 (ownL ([] ++ [.sn S0])) [] [.sn S0] a w) ?_ ?_
  · refine wp_block ?_
    refine c_loop (fun m14 a w => ∃ (x11 : Int), chatelaineref36_Store_Find_l0 Fu a0 a1 m14 x11 = some o9 ∧ r64 x11 ∧ St 25 w0 (ownL ([] ++ [.sn S0])) [(0, .pointer (some ⟨ga0, 0, none⟩)), (3, .pointer (some ⟨g8, 0, none⟩)), (5, .int .i64 x11)] [.box g8 89 ([.int .i64 a1.1, .int .i64 a1.2.1, .int .i64 a1.2.2]), .sn S0] a w) Fu ⟨0, hl10, (show r64 0 from ⟨by decide, by decide⟩), h.has (by exact ⟨rfl, rfl, rfl, trivial⟩)⟩ (fun m14 a w hI => ?_)
    obtain ⟨x11, hl13, hr12, h⟩ := hI
    obtain _ | m14 := m14
    · rw [chatelaineref36_Store_Find_l0] at hl13; cases hl13
    rw [chatelaineref36_Store_Find_l0] at hl13
    refine wp_seq ?_
    refine c_rs ?_ -- region 2
    refine s_move h rfl _ rfl rfl (by decide) rfl (fun a h => ?_)
    refine s_move h rfl _ rfl rfl (by decide) rfl (fun a h => ?_)
    obtain ⟨k15, hc16, ⟨A17, c18, rfl, hs19⟩⟩ := id hpa0
    refine s_x h rfl rfl (by decide) (x_nil h.k rfl rfl) (fun a h => ?_)
    refine s_x h rfl rfl (by decide) (x_faddr h.k rfl Try.underlying101 rfl sz_Sapi_Term rfl) (fun a h => ?_)
    refine s_x h rfl rfl (by decide) (x_ld h.k rfl Try.underlying81 rfl rfl (hc16 _ (h.m.snOK (i := 1) rfl) 0 _ rfl)) (fun a h => ?_)
    refine s_x h rfl rfl (by decide) (x_len h.k rfl Try.underlying81 rfl) (fun a h => ?_)
    refine s_x h rfl rfl (by decide) (x_bin h.k rfl rfl rfl ib_lss) (fun a h => ?_)
    refine l_end ?_
    refine c_cond h rfl (fun hb => ?_) (fun hb => ?_)
    · rw [if_pos (of_decide_eq_true hb)] at hl13
      refine wp_skip ?_
      refine e_thenN ?_
      refine wp_seq ?_
      refine wp_block ?_
      refine wp_seq ?_
      -- region 4 draws
      obtain ⟨x25, h29, hl13⟩ := bsome hl13
      refine d_start h (Mem _ _ _) 9 9 rfl (by kernel_rfl) (fun _ _ _ _ _ h => h) (fun _ h => h) (fun Q a w HE HN h HS => ?_)
      refine d_takeP h (fun _ => HS) HN 0 rfl (by kernel_rfl) (by kernel_rfl) (by kernel_rfl) (by decide) rfl rfl (by decide) (fun w' => x_move h.k _ rfl rfl) (fun a h => ?_)
      obtain ⟨k20, hc21, ⟨A22, c23, rfl, hs24⟩⟩ := id hpa0
      refine d_takeP h (fun _ => HS) HN 1 rfl (by kernel_rfl) (by kernel_rfl) (by kernel_rfl) (by decide) rfl rfl (by decide) (fun w' => x_nil h.k rfl rfl) (fun a h => ?_)
      refine d_takeP h (fun _ => HS) HN 2 rfl (by kernel_rfl) (by kernel_rfl) (by kernel_rfl) (by decide) rfl rfl (by decide) (fun w' => x_faddr h.k rfl Try.underlying101 rfl sz_Sapi_Term rfl) (fun a h => ?_)
      refine d_take h HS HN 3 rfl (by kernel_rfl) (by kernel_rfl) (by kernel_rfl) (by kernel_rfl) (by kernel_rfl) rfl rfl (by decide) (fun w' hw => x_ld h.k rfl Try.underlying81 rfl rfl (hc21 _ (hw.snOK (i := 1) rfl) 0 _ rfl)) (fun a h => ?_)
      refine d_takeP h (fun _ => HS) HN 4 rfl (by kernel_rfl) (by kernel_rfl) (by kernel_rfl) (by decide) rfl rfl (by decide) (fun w' => x_move h.k _ rfl rfl) (fun a h => ?_)
      obtain ⟨m26, hi30, hm31, hx32⟩ := idx_some h29
      obtain ⟨b27, off28, k33, hA34, hu35, hc36⟩ := (hs24).at (by decide) hx32 (h.m.snOK (i := 1) rfl)
      obtain ⟨k37, k38, rfl, ⟨rfl, hr39⟩, ⟨k40, k41, rfl, ⟨rfl, hr42⟩, ⟨rfl, hr43⟩⟩⟩ := hu35
      refine d_takeP h (fun _ => HS) HN 5 rfl (by kernel_rfl) (by kernel_rfl) (by kernel_rfl) (by decide) rfl rfl (by decide) (fun w' => x_iaddrE h.k rfl Try.underlying81 sz_api_Term hA34 rfl rfl hi30 hm31) (fun a h => ?_)
      refine d_take h HS HN 6 rfl (by kernel_rfl) (by kernel_rfl) (by kernel_rfl) (by kernel_rfl) (by kernel_rfl) rfl rfl (by decide) (fun w' hw => x_ldR h.k rfl ag_api_Term rfl ([.int .i64 x25.1, .int .i64 x25.2.1, .int .i64 x25.2.2]) rfl (hc36 _ (hw.snOK (i := 1) rfl))) (fun a h => ?_)
      refine d_take h HS HN 7 rfl (by kernel_rfl) (by kernel_rfl) (by kernel_rfl) (by kernel_rfl) (by kernel_rfl) rfl rfl (by decide) (fun w' hw => x_ldR h.k rfl ag_api_Term rfl ([.int .i64 a1.1, .int .i64 a1.2.1, .int .i64 a1.2.2]) rfl (hw.range0 (i := 0) rfl)) (fun a h => ?_)
      refine d_takeP h (fun _ => HS) HN 8 rfl (by kernel_rfl) (by kernel_rfl) (by kernel_rfl) (by decide) rfl rfl (by decide) (fun w' => x_eqlS h.k rfl rfl rfl gd_api_Term (eqs_api_Term _ x25 a1)) (fun a h => ?_)
      refine d_done (by kernel_rfl) (HE _ _ ?_) _
      refine e_thenN ?_
      refine c_cond h rfl (fun hb => ?_) (fun hb => ?_)
      · rw [if_pos (of_decide_eq_true hb)] at hl13
        refine c_rs ?_ -- region 5
        refine s_move h rfl _ rfl rfl (by decide) rfl (fun a h => ?_)
        refine s_assign h rfl _ rfl rfl (by decide) rfl (fun a h => ?_)
        refine l_end ?_
        refine wp_ret ?_
        refine e_blkR ?_
        refine e_thenR ?_
        refine e_thenR ?_
        refine e_blkR ?_
        refine e_thenR ?_
        cases hl13
        try dsimp only at hf
        refine e_thenR ?_
        obtain rfl := Option.some.inj hf
        exact r_ret1 h rfl (rv_tmp h rfl) ⟨_, [], _, rfl, ⟨rfl, rfl, hr12, trivial⟩, rfl, (Up.refl _ _ _), (h.m.pick [1] _ (by decide) rfl)⟩
      · rw [if_neg (of_decide_eq_false hb)] at hl13
        refine wp_skip ?_
        refine e_blkN ?_
        refine e_thenN ?_
        refine c_r ?_ -- region 3
        refine s_move h rfl _ rfl rfl (by decide) rfl (fun a h => ?_)
        refine s_x h rfl rfl (by decide) (x_bin h.k rfl rfl rfl (ib_add rfl)) (fun a h => ?_)
        refine s_assign h rfl _ rfl rfl (by decide) rfl (fun a h => ?_)
        refine l_nil ?_
        exact e_thenN ⟨m14, Nat.lt_succ_self _, w64 (x11 + 1), hl13, (w64_r _), h.has (by exact ⟨rfl, rfl, rfl, trivial⟩)⟩
    · rw [if_neg (of_decide_eq_false hb)] at hl13
      refine wp_exit ?_
      refine e_thenX ?_
      refine e_thenX ?_
      refine e_blkX ?_
      refine e_thenN ?_
      have h := h.pick [1] (by decide) rfl
      exact ⟨(Option.some.inj hl13), h.has trivial⟩
  · rintro a w ⟨rfl, h⟩
    try dsimp only at hf
    refine e_thenN ?_
    refine c_rs ?_ -- region 6
    refine s_assign h rfl _ rfl rfl (by decide) rfl (fun a h => ?_)
    refine l_end ?_
    refine wp_ret ?_
    obtain rfl := Option.some.inj hf
    exact r_ret1 h rfl (rv_tmp h rfl) ⟨_, [], _, rfl, ⟨rfl, rfl, (show r64 (-1) from ⟨by decide, by decide⟩), trivial⟩, rfl, (Up.refl _ _ _), h.m⟩
def chatelaineref36_Store_Put (Fu : Nat) (a0 : (List (Int × Int × Int))) (a1 : Int × Int × Int) : Option (Int × Int × ((List (Int × Int × Int)))) :=
  if (!((((((decide (a1.1 = 1)) && (decide (1 ≤ a1.2.1))) && (decide (a1.2.1 ≤ 4))) && (decide (0 ≤ a1.2.2))) || ((((decide (a1.1 = 2)) && (decide (0 ≤ a1.2.1))) && (decide (a1.2.1 < (a0.length : Int)))) && (decide (0 ≤ a1.2.2)))) || (((((decide (a1.1 = 3)) && (decide (0 ≤ a1.2.1))) && (decide (a1.2.1 < (a0.length : Int)))) && (decide (0 ≤ a1.2.2))) && (decide (a1.2.2 < (a0.length : Int)))))) = true then (some (0, 2, a0)) else ((chatelaineref36_Store_Find Fu a0 a1).bind fun x39 => if 0 ≤ x39 then ((chatelaineref36_Store_Find Fu a0 a1).bind fun x43 => some (x43, 0, a0)) else ((app 24 a0 ([a1])).bind fun x49 => some ((a0.length : Int), 0, x49)))
set_option maxRecDepth 100000 in
set_option maxHeartbeats 2000000 in
theorem chatelaineref36_Store_Put_ok (Fu : Nat) {S0 : Snap} (a0 : (List (Int × Int × Int))) (g1 : Nat) (A2 : Option Addr) (c3 : Nat) (cs4 : List Value) (hq5 : reps (tyP tyI (tyP tyI tyI)) S0 cs4 a0) (csa1 : List Value) (a1 : Int × Int × Int) (hsa1 : (tyP tyI (tyP tyI tyI)).rep S0 csa1 a1) (r : Int × Int × ((List (Int × Int × Int)))) (hf : chatelaineref36_Store_Put Fu a0 a1 = some r) (w0 : World) (hm : Mem w0 (ownL ([.box g1 101 ([.slice A2 a0.length c3]), .row (.slice A2 a0.length c3) 89 3 a0.length cs4] ++ [.sn S0])) ([.box g1 101 ([.slice A2 a0.length c3]), .row (.slice A2 a0.length c3) 89 3 a0.length cs4] ++ [.sn S0]) w0) :
    Calls Try.prog 67 #[.pointer (some ⟨g1, 0, none⟩), .agg csa1.toArray] w0 (Ret w0 S0 [.box g1 101 ([.slice A2 a0.length c3]), .row (.slice A2 a0.length c3) 89 3 a0.length cs4] (fun v L1 S1 => ∃ (A61 : Option Addr), ∃ (c62 : Nat), ∃ (cs63 : List Value), v = .tuple #[.int .i64 r.1, .int .i64 r.2.1] ∧ L1 = [.box g1 101 ([.slice A61 r.2.2.length c62]), .row (.slice A61 r.2.2.length c62) 89 3 r.2.2.length cs63] ∧ r64 r.1 ∧ r64 r.2.1 ∧ reps (tyP tyI (tyP tyI tyI)) S1 cs63 r.2.2 ∧ True)) := by
  unfold chatelaineref36_Store_Put at hf
  obtain ⟨k6, k7, rfl, ⟨rfl, hr8⟩, ⟨k9, k10, rfl, ⟨rfl, hr11⟩, ⟨rfl, hr12⟩⟩⟩ := hsa1
  refine c_enterM Try.func67 rfl 101 rfl (by simp) _ hm _ rfl (fun a h => ?_)
  refine c_rs ?_ -- region 0
  refine s_box h rfl rfl rfl (by decide) rfl (cs := [.int .i64 a1.1, .int .i64 a1.2.1, .int .i64 a1.2.2]) (by rfl) (fun a w g13 h => ?_)
  refine s_assign h rfl _ rfl rfl (by decide) rfl (fun a h => ?_)
  refine s_assign h rfl _ rfl rfl (by decide) rfl (fun a h => ?_)
  refine l_end ?_
  refine c_rs ?_ -- region 1
  refine s_move h rfl _ rfl rfl (by decide) rfl (fun a h => ?_)
  refine s_x h rfl rfl (by decide) (x_nil h.k rfl rfl) (fun a h => ?_)
  refine s_x h rfl rfl (by decide) (x_faddr h.k rfl Try.underlying101 rfl sz_Sapi_Term rfl) (fun a h => ?_)
  refine s_x h rfl rfl (by decide) (x_ld h.k rfl Try.underlying81 rfl rfl ((h.m.cell (i := 1) rfl 0).trans rfl)) (fun a h => ?_)
  have hr14 : r64 (a0.length : Int) := len_r (h.m.rowLen (i := 2) rfl)
  refine s_x h rfl rfl (by decide) (x_len h.k rfl Try.underlying81 rfl) (fun a h => ?_)
  refine s_assign h rfl _ rfl rfl (by decide) rfl (fun a h => ?_)
  refine l_end ?_
  refine c_rs ?_ -- region 2
  refine s_x h rfl rfl (by decide) (x_faddr h.k rfl Try.underlying89 rfl sz_int rfl) (fun a h => ?_)
  refine s_x h rfl rfl (by decide) (x_ld h.k rfl Try.underlying3 rfl rfl ((h.m.cell (i := 0) rfl 0).trans rfl)) (fun a h => ?_)
  refine s_x h rfl rfl (by decide) (x_bin h.k rfl rfl rfl ib_eql) (fun a h => ?_)
  refine s_move h rfl _ rfl rfl (by decide) rfl (fun a h => ?_)
  refine q_grp h 4 (t := 16) 20 ((decide (a1.1 = 1)) && (decide (1 ≤ a1.2.1))) rfl (fun hB3 => ?_) (fun hB3 => ?_) (fun a w h => ?_)
  · refine g_yes h rfl rfl rfl rfl hB3 ?_
    refine s_x h rfl rfl (by decide) (x_faddr h.k rfl Try.underlying89 rfl sz_int rfl) (fun a h => ?_)
    refine g_yes h rfl rfl rfl rfl hB3 ?_
    refine s_x h rfl rfl (by decide) (x_ld h.k rfl Try.underlying3 rfl rfl ((h.m.cell (i := 0) rfl 1).trans rfl)) (fun a h => ?_)
    refine g_yes h rfl rfl rfl rfl hB3 ?_
    refine s_x h rfl rfl (by decide) (x_bin h.k rfl rfl rfl ib_geq) (fun a h => ?_)
    refine s_x h rfl rfl (by decide) (x_pick (u' := undef) h.k rfl rfl (fun _ => rfl) (fun hh => absurd (hB3.symm.trans hh) (by decide))) (fun a h => ?_)
    exact (h.mid 3 rfl).val (by first | rfl | (rw [hB3]; first | rfl | simp))
  · refine g_no h rfl rfl rfl rfl hB3 rfl (by decide) (fun a h => ?_)
    refine g_no h rfl rfl rfl rfl hB3 rfl (by decide) (fun a h => ?_)
    refine g_no h rfl rfl rfl rfl hB3 rfl (by decide) (fun a h => ?_)
    refine s_x h rfl rfl (by decide) (x_pick (u' := undef) h.k rfl rfl (fun hh => absurd (hB3.symm.trans hh) (by decide)) (fun _ => rfl)) (fun a h => ?_)
    exact (h.mid 3 rfl).val (by first | rfl | (rw [hB3]; first | rfl | simp))
  refine s_move h rfl _ rfl rfl (by decide) rfl (fun a h => ?_)
  refine q_grp h 4 (t := 21) 25 (((decide (a1.1 = 1)) && (decide (1 ≤ a1.2.1))) && (decide (a1.2.1 ≤ 4))) rfl (fun hB8 => ?_) (fun hB8 => ?_) (fun a w h => ?_)
  · refine g_yes h rfl rfl rfl rfl hB8 ?_
    refine s_x h rfl rfl (by decide) (x_faddr h.k rfl Try.underlying89 rfl sz_int rfl) (fun a h => ?_)
    refine g_yes h rfl rfl rfl rfl hB8 ?_
    refine s_x h rfl rfl (by decide) (x_ld h.k rfl Try.underlying3 rfl rfl ((h.m.cell (i := 0) rfl 1).trans rfl)) (fun a h => ?_)
    refine g_yes h rfl rfl rfl rfl hB8 ?_
    refine s_x h rfl rfl (by decide) (x_bin h.k rfl rfl rfl ib_leq) (fun a h => ?_)
    refine s_x h rfl rfl (by decide) (x_pick (u' := undef) h.k rfl rfl (fun _ => rfl) (fun hh => absurd (hB8.symm.trans hh) (by decide))) (fun a h => ?_)
    exact (h.mid 3 rfl).val (by first | rfl | (rw [hB8]; first | rfl | simp))
  · refine g_no h rfl rfl rfl rfl hB8 rfl (by decide) (fun a h => ?_)
    refine g_no h rfl rfl rfl rfl hB8 rfl (by decide) (fun a h => ?_)
    refine g_no h rfl rfl rfl rfl hB8 rfl (by decide) (fun a h => ?_)
    refine s_x h rfl rfl (by decide) (x_pick (u' := undef) h.k rfl rfl (fun hh => absurd (hB8.symm.trans hh) (by decide)) (fun _ => rfl)) (fun a h => ?_)
    exact (h.mid 3 rfl).val (by first | rfl | (rw [hB8]; first | rfl | simp))
  refine s_move h rfl _ rfl rfl (by decide) rfl (fun a h => ?_)
  refine q_grp h 4 (t := 26) 30 ((((decide (a1.1 = 1)) && (decide (1 ≤ a1.2.1))) && (decide (a1.2.1 ≤ 4))) && (decide (0 ≤ a1.2.2))) rfl (fun hB13 => ?_) (fun hB13 => ?_) (fun a w h => ?_)
  · refine g_yes h rfl rfl rfl rfl hB13 ?_
    refine s_x h rfl rfl (by decide) (x_faddr h.k rfl Try.underlying89 rfl sz_int rfl) (fun a h => ?_)
    refine g_yes h rfl rfl rfl rfl hB13 ?_
    refine s_x h rfl rfl (by decide) (x_ld h.k rfl Try.underlying3 rfl rfl ((h.m.cell (i := 0) rfl 2).trans rfl)) (fun a h => ?_)
    refine g_yes h rfl rfl rfl rfl hB13 ?_
    refine s_x h rfl rfl (by decide) (x_bin h.k rfl rfl rfl ib_geq) (fun a h => ?_)
    refine s_x h rfl rfl (by decide) (x_pick (u' := undef) h.k rfl rfl (fun _ => rfl) (fun hh => absurd (hB13.symm.trans hh) (by decide))) (fun a h => ?_)
    exact (h.mid 3 rfl).val (by first | rfl | (rw [hB13]; first | rfl | simp))
  · refine g_no h rfl rfl rfl rfl hB13 rfl (by decide) (fun a h => ?_)
    refine g_no h rfl rfl rfl rfl hB13 rfl (by decide) (fun a h => ?_)
    refine g_no h rfl rfl rfl rfl hB13 rfl (by decide) (fun a h => ?_)
    refine s_x h rfl rfl (by decide) (x_pick (u' := undef) h.k rfl rfl (fun hh => absurd (hB13.symm.trans hh) (by decide)) (fun _ => rfl)) (fun a h => ?_)
    exact (h.mid 3 rfl).val (by first | rfl | (rw [hB13]; first | rfl | simp))
  refine s_assign h rfl _ rfl rfl (by decide) rfl (fun a h => ?_)
  refine l_end ?_
  refine c_rs ?_ -- region 3
  refine s_move h rfl _ rfl rfl (by decide) rfl (fun a h => ?_)
  refine s_move h rfl _ rfl rfl (by decide) rfl (fun a h => ?_)
  refine q_grp h 20 (t := 32) 52 (((((decide (a1.1 = 1)) && (decide (1 ≤ a1.2.1))) && (decide (a1.2.1 ≤ 4))) && (decide (0 ≤ a1.2.2))) || ((((decide (a1.1 = 2)) && (decide (0 ≤ a1.2.1))) && (decide (a1.2.1 < (a0.length : Int)))) && (decide (0 ≤ a1.2.2)))) rfl (fun hB1 => ?_) (fun hB1 => ?_) (fun a w h => ?_)
  · refine g_no h rfl rfl rfl rfl hB1 rfl (by decide) (fun a h => ?_)
    refine g_no h rfl rfl rfl rfl hB1 rfl (by decide) (fun a h => ?_)
    refine g_no h rfl rfl rfl rfl hB1 rfl (by decide) (fun a h => ?_)
    refine g_no h rfl rfl rfl rfl hB1 rfl (by decide) (fun a h => ?_)
    refine g_off h rfl rfl rfl rfl rfl (by decide) (fun a h => ?_)
    refine g_off h rfl rfl rfl rfl rfl (by decide) (fun a h => ?_)
    refine g_off h rfl rfl rfl rfl rfl (by decide) (fun a h => ?_)
    refine g_no h rfl rfl rfl rfl hB1 rfl (by decide) (fun a h => ?_)
    refine g_no h rfl rfl rfl rfl hB1 rfl (by decide) (fun a h => ?_)
    refine g_off h rfl rfl rfl rfl rfl (by decide) (fun a h => ?_)
    refine g_off h rfl rfl rfl rfl rfl (by decide) (fun a h => ?_)
    refine g_off h rfl rfl rfl rfl rfl (by decide) (fun a h => ?_)
    refine g_off h rfl rfl rfl rfl rfl (by decide) (fun a h => ?_)
    refine g_no h rfl rfl rfl rfl hB1 rfl (by decide) (fun a h => ?_)
    refine g_no h rfl rfl rfl rfl hB1 rfl (by decide) (fun a h => ?_)
    refine g_off h rfl rfl rfl rfl rfl (by decide) (fun a h => ?_)
    refine g_off h rfl rfl rfl rfl rfl (by decide) (fun a h => ?_)
    refine g_off h rfl rfl rfl rfl rfl (by decide) (fun a h => ?_)
    refine g_no h rfl rfl rfl rfl hB1 rfl (by decide) (fun a h => ?_)
    refine s_x h rfl rfl (by decide) (x_pick (u' := undef) h.k rfl rfl (fun _ => rfl) (fun hh => absurd (hB1.symm.trans hh) (by decide))) (fun a h => ?_)
    exact (h.mid 19 rfl).val (by first | rfl | (rw [hB1]; first | rfl | simp))
  · refine g_yes h rfl rfl rfl rfl hB1 ?_
    refine s_x h rfl rfl (by decide) (x_faddr h.k rfl Try.underlying89 rfl sz_int rfl) (fun a h => ?_)
    refine g_yes h rfl rfl rfl rfl hB1 ?_
    refine s_x h rfl rfl (by decide) (x_ld h.k rfl Try.underlying3 rfl rfl ((h.m.cell (i := 0) rfl 0).trans rfl)) (fun a h => ?_)
    refine g_yes h rfl rfl rfl rfl hB1 ?_
    refine s_x h rfl rfl (by decide) (x_bin h.k rfl rfl rfl ib_eql) (fun a h => ?_)
    refine g_yes h rfl rfl rfl rfl hB1 ?_
    refine s_move h rfl _ rfl rfl (by decide) rfl (fun a h => ?_)
    refine q_grp h 4 (t := 36) 40 ((decide (a1.1 = 2)) && (decide (0 ≤ a1.2.1))) rfl (fun hB5 => ?_) (fun hB5 => ?_) (fun a w h => ?_)
    · refine g_yes h rfl rfl rfl rfl hB5 ?_
      refine s_x h rfl rfl (by decide) (x_faddr h.k rfl Try.underlying89 rfl sz_int rfl) (fun a h => ?_)
      refine g_yes h rfl rfl rfl rfl hB5 ?_
      refine s_x h rfl rfl (by decide) (x_ld h.k rfl Try.underlying3 rfl rfl ((h.m.cell (i := 0) rfl 1).trans rfl)) (fun a h => ?_)
      refine g_yes h rfl rfl rfl rfl hB5 ?_
      refine s_x h rfl rfl (by decide) (x_bin h.k rfl rfl rfl ib_geq) (fun a h => ?_)
      refine g_yes h rfl rfl rfl rfl hB1 ?_
      refine s_x h rfl rfl (by decide) (x_pick (u' := undef) h.k rfl rfl (fun _ => rfl) (fun hh => absurd (hB5.symm.trans hh) (by decide))) (fun a h => ?_)
      exact (h.mid 3 rfl).val (by first | rfl | (rw [hB5]; first | rfl | simp))
    · refine g_no h rfl rfl rfl rfl hB5 rfl (by decide) (fun a h => ?_)
      refine g_no h rfl rfl rfl rfl hB5 rfl (by decide) (fun a h => ?_)
      refine g_no h rfl rfl rfl rfl hB5 rfl (by decide) (fun a h => ?_)
      refine g_yes h rfl rfl rfl rfl hB1 ?_
      refine s_x h rfl rfl (by decide) (x_pick (u' := undef) h.k rfl rfl (fun hh => absurd (hB5.symm.trans hh) (by decide)) (fun _ => rfl)) (fun a h => ?_)
      exact (h.mid 3 rfl).val (by first | rfl | (rw [hB5]; first | rfl | simp))
    refine g_yes h rfl rfl rfl rfl hB1 ?_
    refine s_move h rfl _ rfl rfl (by decide) rfl (fun a h => ?_)
    refine q_grp h 5 (t := 41) 46 (((decide (a1.1 = 2)) && (decide (0 ≤ a1.2.1))) && (decide (a1.2.1 < (a0.length : Int)))) rfl (fun hB10 => ?_) (fun hB10 => ?_) (fun a w h => ?_)
    · refine g_yes h rfl rfl rfl rfl hB10 ?_
      refine s_x h rfl rfl (by decide) (x_faddr h.k rfl Try.underlying89 rfl sz_int rfl) (fun a h => ?_)
      refine g_yes h rfl rfl rfl rfl hB10 ?_
      refine s_x h rfl rfl (by decide) (x_ld h.k rfl Try.underlying3 rfl rfl ((h.m.cell (i := 0) rfl 1).trans rfl)) (fun a h => ?_)
      refine g_yes h rfl rfl rfl rfl hB10 ?_
      refine s_move h rfl _ rfl rfl (by decide) rfl (fun a h => ?_)
      refine g_yes h rfl rfl rfl rfl hB10 ?_
      refine s_x h rfl rfl (by decide) (x_bin h.k rfl rfl rfl ib_lss) (fun a h => ?_)
      refine g_yes h rfl rfl rfl rfl hB1 ?_
      refine s_x h rfl rfl (by decide) (x_pick (u' := undef) h.k rfl rfl (fun _ => rfl) (fun hh => absurd (hB10.symm.trans hh) (by decide))) (fun a h => ?_)
      exact (h.mid 4 rfl).val (by first | rfl | (rw [hB10]; first | rfl | simp))
    · refine g_no h rfl rfl rfl rfl hB10 rfl (by decide) (fun a h => ?_)
      refine g_no h rfl rfl rfl rfl hB10 rfl (by decide) (fun a h => ?_)
      refine g_no h rfl rfl rfl rfl hB10 rfl (by decide) (fun a h => ?_)
      refine g_no h rfl rfl rfl rfl hB10 rfl (by decide) (fun a h => ?_)
      refine g_yes h rfl rfl rfl rfl hB1 ?_
      refine s_x h rfl rfl (by decide) (x_pick (u' := undef) h.k rfl rfl (fun hh => absurd (hB10.symm.trans hh) (by decide)) (fun _ => rfl)) (fun a h => ?_)
      exact (h.mid 4 rfl).val (by first | rfl | (rw [hB10]; first | rfl | simp))
    refine g_yes h rfl rfl rfl rfl hB1 ?_
    refine s_move h rfl _ rfl rfl (by decide) rfl (fun a h => ?_)
    refine q_grp h 4 (t := 47) 51 ((((decide (a1.1 = 2)) && (decide (0 ≤ a1.2.1))) && (decide (a1.2.1 < (a0.length : Int)))) && (decide (0 ≤ a1.2.2))) rfl (fun hB16 => ?_) (fun hB16 => ?_) (fun a w h => ?_)
    · refine g_yes h rfl rfl rfl rfl hB16 ?_
      refine s_x h rfl rfl (by decide) (x_faddr h.k rfl Try.underlying89 rfl sz_int rfl) (fun a h => ?_)
      refine g_yes h rfl rfl rfl rfl hB16 ?_
      refine s_x h rfl rfl (by decide) (x_ld h.k rfl Try.underlying3 rfl rfl ((h.m.cell (i := 0) rfl 2).trans rfl)) (fun a h => ?_)
      refine g_yes h rfl rfl rfl rfl hB16 ?_
      refine s_x h rfl rfl (by decide) (x_bin h.k rfl rfl rfl ib_geq) (fun a h => ?_)
      refine g_yes h rfl rfl rfl rfl hB1 ?_
      refine s_x h rfl rfl (by decide) (x_pick (u' := undef) h.k rfl rfl (fun _ => rfl) (fun hh => absurd (hB16.symm.trans hh) (by decide))) (fun a h => ?_)
      exact (h.mid 3 rfl).val (by first | rfl | (rw [hB16]; first | rfl | simp))
    · refine g_no h rfl rfl rfl rfl hB16 rfl (by decide) (fun a h => ?_)
      refine g_no h rfl rfl rfl rfl hB16 rfl (by decide) (fun a h => ?_)
      refine g_no h rfl rfl rfl rfl hB16 rfl (by decide) (fun a h => ?_)
      refine g_yes h rfl rfl rfl rfl hB1 ?_
      refine s_x h rfl rfl (by decide) (x_pick (u' := undef) h.k rfl rfl (fun hh => absurd (hB16.symm.trans hh) (by decide)) (fun _ => rfl)) (fun a h => ?_)
      exact (h.mid 3 rfl).val (by first | rfl | (rw [hB16]; first | rfl | simp))
    refine s_x h rfl rfl (by decide) (x_pick (u' := undef) h.k rfl rfl (fun hh => absurd (hB1.symm.trans hh) (by decide)) (fun _ => rfl)) (fun a h => ?_)
    exact (h.mid 9 rfl).val (by first | rfl | (rw [hB1]; first | rfl | simp))
  refine s_assign h rfl _ rfl rfl (by decide) rfl (fun a h => ?_)
  refine l_end ?_
  refine c_rs ?_ -- region 4
  refine s_move h rfl _ rfl rfl (by decide) rfl (fun a h => ?_)
  refine s_move h rfl _ rfl rfl (by decide) rfl (fun a h => ?_)
  refine q_grp h 26 (t := 54) 80 ((((((decide (a1.1 = 1)) && (decide (1 ≤ a1.2.1))) && (decide (a1.2.1 ≤ 4))) && (decide (0 ≤ a1.2.2))) || ((((decide (a1.1 = 2)) && (decide (0 ≤ a1.2.1))) && (decide (a1.2.1 < (a0.length : Int)))) && (decide (0 ≤ a1.2.2)))) || (((((decide (a1.1 = 3)) && (decide (0 ≤ a1.2.1))) && (decide (a1.2.1 < (a0.length : Int)))) && (decide (0 ≤ a1.2.2))) && (decide (a1.2.2 < (a0.length : Int))))) rfl (fun hB1 => ?_) (fun hB1 => ?_) (fun a w h => ?_)
  · refine g_no h rfl rfl rfl rfl hB1 rfl (by decide) (fun a h => ?_)
    refine g_no h rfl rfl rfl rfl hB1 rfl (by decide) (fun a h => ?_)
    refine g_no h rfl rfl rfl rfl hB1 rfl (by decide) (fun a h => ?_)
    refine g_no h rfl rfl rfl rfl hB1 rfl (by decide) (fun a h => ?_)
    refine g_off h rfl rfl rfl rfl rfl (by decide) (fun a h => ?_)
    refine g_off h rfl rfl rfl rfl rfl (by decide) (fun a h => ?_)
    refine g_off h rfl rfl rfl rfl rfl (by decide) (fun a h => ?_)
    refine g_no h rfl rfl rfl rfl hB1 rfl (by decide) (fun a h => ?_)
    refine g_no h rfl rfl rfl rfl hB1 rfl (by decide) (fun a h => ?_)
    refine g_off h rfl rfl rfl rfl rfl (by decide) (fun a h => ?_)
    refine g_off h rfl rfl rfl rfl rfl (by decide) (fun a h => ?_)
    refine g_off h rfl rfl rfl rfl rfl (by decide) (fun a h => ?_)
    refine g_off h rfl rfl rfl rfl rfl (by decide) (fun a h => ?_)
    refine g_no h rfl rfl rfl rfl hB1 rfl (by decide) (fun a h => ?_)
    refine g_no h rfl rfl rfl rfl hB1 rfl (by decide) (fun a h => ?_)
    refine g_off h rfl rfl rfl rfl rfl (by decide) (fun a h => ?_)
    refine g_off h rfl rfl rfl rfl rfl (by decide) (fun a h => ?_)
    refine g_off h rfl rfl rfl rfl rfl (by decide) (fun a h => ?_)
    refine g_no h rfl rfl rfl rfl hB1 rfl (by decide) (fun a h => ?_)
    refine g_no h rfl rfl rfl rfl hB1 rfl (by decide) (fun a h => ?_)
    refine g_off h rfl rfl rfl rfl rfl (by decide) (fun a h => ?_)
    refine g_off h rfl rfl rfl rfl rfl (by decide) (fun a h => ?_)
    refine g_off h rfl rfl rfl rfl rfl (by decide) (fun a h => ?_)
    refine g_off h rfl rfl rfl rfl rfl (by decide) (fun a h => ?_)
    refine g_no h rfl rfl rfl rfl hB1 rfl (by decide) (fun a h => ?_)
    refine s_x h rfl rfl (by decide) (x_pick (u' := undef) h.k rfl rfl (fun _ => rfl) (fun hh => absurd (hB1.symm.trans hh) (by decide))) (fun a h => ?_)
    exact (h.mid 25 rfl).val (by first | rfl | (rw [hB1]; first | rfl | simp))
  · refine g_yes h rfl rfl rfl rfl hB1 ?_
    refine s_x h rfl rfl (by decide) (x_faddr h.k rfl Try.underlying89 rfl sz_int rfl) (fun a h => ?_)
    refine g_yes h rfl rfl rfl rfl hB1 ?_
    refine s_x h rfl rfl (by decide) (x_ld h.k rfl Try.underlying3 rfl rfl ((h.m.cell (i := 0) rfl 0).trans rfl)) (fun a h => ?_)
    refine g_yes h rfl rfl rfl rfl hB1 ?_
    refine s_x h rfl rfl (by decide) (x_bin h.k rfl rfl rfl ib_eql) (fun a h => ?_)
    refine g_yes h rfl rfl rfl rfl hB1 ?_
    refine s_move h rfl _ rfl rfl (by decide) rfl (fun a h => ?_)
    refine q_grp h 4 (t := 58) 62 ((decide (a1.1 = 3)) && (decide (0 ≤ a1.2.1))) rfl (fun hB5 => ?_) (fun hB5 => ?_) (fun a w h => ?_)
    · refine g_yes h rfl rfl rfl rfl hB5 ?_
      refine s_x h rfl rfl (by decide) (x_faddr h.k rfl Try.underlying89 rfl sz_int rfl) (fun a h => ?_)
      refine g_yes h rfl rfl rfl rfl hB5 ?_
      refine s_x h rfl rfl (by decide) (x_ld h.k rfl Try.underlying3 rfl rfl ((h.m.cell (i := 0) rfl 1).trans rfl)) (fun a h => ?_)
      refine g_yes h rfl rfl rfl rfl hB5 ?_
      refine s_x h rfl rfl (by decide) (x_bin h.k rfl rfl rfl ib_geq) (fun a h => ?_)
      refine g_yes h rfl rfl rfl rfl hB1 ?_
      refine s_x h rfl rfl (by decide) (x_pick (u' := undef) h.k rfl rfl (fun _ => rfl) (fun hh => absurd (hB5.symm.trans hh) (by decide))) (fun a h => ?_)
      exact (h.mid 3 rfl).val (by first | rfl | (rw [hB5]; first | rfl | simp))
    · refine g_no h rfl rfl rfl rfl hB5 rfl (by decide) (fun a h => ?_)
      refine g_no h rfl rfl rfl rfl hB5 rfl (by decide) (fun a h => ?_)
      refine g_no h rfl rfl rfl rfl hB5 rfl (by decide) (fun a h => ?_)
      refine g_yes h rfl rfl rfl rfl hB1 ?_
      refine s_x h rfl rfl (by decide) (x_pick (u' := undef) h.k rfl rfl (fun hh => absurd (hB5.symm.trans hh) (by decide)) (fun _ => rfl)) (fun a h => ?_)
      exact (h.mid 3 rfl).val (by first | rfl | (rw [hB5]; first | rfl | simp))
    refine g_yes h rfl rfl rfl rfl hB1 ?_
    refine s_move h rfl _ rfl rfl (by decide) rfl (fun a h => ?_)
    refine q_grp h 5 (t := 63) 68 (((decide (a1.1 = 3)) && (decide (0 ≤ a1.2.1))) && (decide (a1.2.1 < (a0.length : Int)))) rfl (fun hB10 => ?_) (fun hB10 => ?_) (fun a w h => ?_)
    · refine g_yes h rfl rfl rfl rfl hB10 ?_
      refine s_x h rfl rfl (by decide) (x_faddr h.k rfl Try.underlying89 rfl sz_int rfl) (fun a h => ?_)
      refine g_yes h rfl rfl rfl rfl hB10 ?_
      refine s_x h rfl rfl (by decide) (x_ld h.k rfl Try.underlying3 rfl rfl ((h.m.cell (i := 0) rfl 1).trans rfl)) (fun a h => ?_)
      refine g_yes h rfl rfl rfl rfl hB10 ?_
      refine s_move h rfl _ rfl rfl (by decide) rfl (fun a h => ?_)
      refine g_yes h rfl rfl rfl rfl hB10 ?_
      refine s_x h rfl rfl (by decide) (x_bin h.k rfl rfl rfl ib_lss) (fun a h => ?_)
      refine g_yes h rfl rfl rfl rfl hB1 ?_
      refine s_x h rfl rfl (by decide) (x_pick (u' := undef) h.k rfl rfl (fun _ => rfl) (fun hh => absurd (hB10.symm.trans hh) (by decide))) (fun a h => ?_)
      exact (h.mid 4 rfl).val (by first | rfl | (rw [hB10]; first | rfl | simp))
    · refine g_no h rfl rfl rfl rfl hB10 rfl (by decide) (fun a h => ?_)
      refine g_no h rfl rfl rfl rfl hB10 rfl (by decide) (fun a h => ?_)
      refine g_no h rfl rfl rfl rfl hB10 rfl (by decide) (fun a h => ?_)
      refine g_no h rfl rfl rfl rfl hB10 rfl (by decide) (fun a h => ?_)
      refine g_yes h rfl rfl rfl rfl hB1 ?_
      refine s_x h rfl rfl (by decide) (x_pick (u' := undef) h.k rfl rfl (fun hh => absurd (hB10.symm.trans hh) (by decide)) (fun _ => rfl)) (fun a h => ?_)
      exact (h.mid 4 rfl).val (by first | rfl | (rw [hB10]; first | rfl | simp))
    refine g_yes h rfl rfl rfl rfl hB1 ?_
    refine s_move h rfl _ rfl rfl (by decide) rfl (fun a h => ?_)
    refine q_grp h 4 (t := 69) 73 ((((decide (a1.1 = 3)) && (decide (0 ≤ a1.2.1))) && (decide (a1.2.1 < (a0.length : Int)))) && (decide (0 ≤ a1.2.2))) rfl (fun hB16 => ?_) (fun hB16 => ?_) (fun a w h => ?_)
    · refine g_yes h rfl rfl rfl rfl hB16 ?_
      refine s_x h rfl rfl (by decide) (x_faddr h.k rfl Try.underlying89 rfl sz_int rfl) (fun a h => ?_)
      refine g_yes h rfl rfl rfl rfl hB16 ?_
      refine s_x h rfl rfl (by decide) (x_ld h.k rfl Try.underlying3 rfl rfl ((h.m.cell (i := 0) rfl 2).trans rfl)) (fun a h => ?_)
      refine g_yes h rfl rfl rfl rfl hB16 ?_
      refine s_x h rfl rfl (by decide) (x_bin h.k rfl rfl rfl ib_geq) (fun a h => ?_)
      refine g_yes h rfl rfl rfl rfl hB1 ?_
      refine s_x h rfl rfl (by decide) (x_pick (u' := undef) h.k rfl rfl (fun _ => rfl) (fun hh => absurd (hB16.symm.trans hh) (by decide))) (fun a h => ?_)
      exact (h.mid 3 rfl).val (by first | rfl | (rw [hB16]; first | rfl | simp))
    · refine g_no h rfl rfl rfl rfl hB16 rfl (by decide) (fun a h => ?_)
      refine g_no h rfl rfl rfl rfl hB16 rfl (by decide) (fun a h => ?_)
      refine g_no h rfl rfl rfl rfl hB16 rfl (by decide) (fun a h => ?_)
      refine g_yes h rfl rfl rfl rfl hB1 ?_
      refine s_x h rfl rfl (by decide) (x_pick (u' := undef) h.k rfl rfl (fun hh => absurd (hB16.symm.trans hh) (by decide)) (fun _ => rfl)) (fun a h => ?_)
      exact (h.mid 3 rfl).val (by first | rfl | (rw [hB16]; first | rfl | simp))
    refine g_yes h rfl rfl rfl rfl hB1 ?_
    refine s_move h rfl _ rfl rfl (by decide) rfl (fun a h => ?_)
    refine q_grp h 5 (t := 74) 79 (((((decide (a1.1 = 3)) && (decide (0 ≤ a1.2.1))) && (decide (a1.2.1 < (a0.length : Int)))) && (decide (0 ≤ a1.2.2))) && (decide (a1.2.2 < (a0.length : Int)))) rfl (fun hB21 => ?_) (fun hB21 => ?_) (fun a w h => ?_)
    · refine g_yes h rfl rfl rfl rfl hB21 ?_
      refine s_x h rfl rfl (by decide) (x_faddr h.k rfl Try.underlying89 rfl sz_int rfl) (fun a h => ?_)
      refine g_yes h rfl rfl rfl rfl hB21 ?_
      refine s_x h rfl rfl (by decide) (x_ld h.k rfl Try.underlying3 rfl rfl ((h.m.cell (i := 0) rfl 2).trans rfl)) (fun a h => ?_)
      refine g_yes h rfl rfl rfl rfl hB21 ?_
      refine s_move h rfl _ rfl rfl (by decide) rfl (fun a h => ?_)
      refine g_yes h rfl rfl rfl rfl hB21 ?_
      refine s_x h rfl rfl (by decide) (x_bin h.k rfl rfl rfl ib_lss) (fun a h => ?_)
      refine g_yes h rfl rfl rfl rfl hB1 ?_
      refine s_x h rfl rfl (by decide) (x_pick (u' := undef) h.k rfl rfl (fun _ => rfl) (fun hh => absurd (hB21.symm.trans hh) (by decide))) (fun a h => ?_)
      exact (h.mid 4 rfl).val (by first | rfl | (rw [hB21]; first | rfl | simp))
    · refine g_no h rfl rfl rfl rfl hB21 rfl (by decide) (fun a h => ?_)
      refine g_no h rfl rfl rfl rfl hB21 rfl (by decide) (fun a h => ?_)
      refine g_no h rfl rfl rfl rfl hB21 rfl (by decide) (fun a h => ?_)
      refine g_no h rfl rfl rfl rfl hB21 rfl (by decide) (fun a h => ?_)
      refine g_yes h rfl rfl rfl rfl hB1 ?_
      refine s_x h rfl rfl (by decide) (x_pick (u' := undef) h.k rfl rfl (fun hh => absurd (hB21.symm.trans hh) (by decide)) (fun _ => rfl)) (fun a h => ?_)
      exact (h.mid 4 rfl).val (by first | rfl | (rw [hB21]; first | rfl | simp))
    refine s_x h rfl rfl (by decide) (x_pick (u' := undef) h.k rfl rfl (fun hh => absurd (hB1.symm.trans hh) (by decide)) (fun _ => rfl)) (fun a h => ?_)
    exact (h.mid 11 rfl).val (by first | rfl | (rw [hB1]; first | rfl | simp))
  refine s_assign h rfl _ rfl rfl (by decide) rfl (fun a h => ?_)
  refine l_end ?_
  refine wp_seq ?_
  refine c_rs ?_ -- region 5
  refine s_move h rfl _ rfl rfl (by decide) rfl (fun a h => ?_)
  refine s_x h rfl rfl (by decide) (x_not h.k rfl rfl) (fun a h => ?_)
  refine l_end ?_
  refine c_cond h rfl (fun hb => ?_) (fun hb => ?_)
  · rw [if_pos hb] at hf
    refine c_rs ?_ -- region 6
    refine s_assign h rfl _ rfl rfl (by decide) rfl (fun a h => ?_)
    refine s_assign h rfl _ rfl rfl (by decide) rfl (fun a h => ?_)
    refine l_end ?_
    refine wp_ret ?_
    refine e_thenR ?_
    obtain rfl := Option.some.inj hf
    exact r_ret2 h rfl (rv_tmp h rfl) (rv_tmp h rfl) ⟨_, [.box g1 101 ([.slice A2 a0.length c3]), .row (.slice A2 a0.length c3) 89 3 a0.length cs4], _, rfl, ⟨A2, c3, cs4, rfl, rfl, (show r64 0 from ⟨by decide, by decide⟩), (show r64 2 from ⟨by decide, by decide⟩), hq5, trivial⟩, rfl, (Up.refl _ _ _), (h.m.pick [1, 2, 3] _ (by decide) rfl)⟩
  · rw [if_neg (by rw [hb]; decide)] at hf
    refine wp_skip ?_
    refine e_thenN ?_
    refine wp_seq ?_
    refine c_rs ?_ -- region 7
    refine s_move h rfl _ rfl rfl (by decide) rfl (fun a h => ?_)
    refine s_x h rfl rfl (by decide) (x_ldR h.k rfl ag_api_Term rfl ([.int .i64 a1.1, .int .i64 a1.2.1, .int .i64 a1.2.2]) rfl (h.m.range0 (i := 0) rfl)) (fun a h => ?_)
    obtain ⟨x39, h40, hf⟩ := bsome hf
    have hX := chatelaineref36_Store_Find_ok Fu (S0 := snapAll _) g1 a0 ⟨[.slice A2 a0.length c3], h.m.boxAll (i := 1) rfl, ⟨_, _, rfl, h.m.rowAll (i := 2) rfl (j := 3) rfl hq5⟩⟩ ([.int .i64 a1.1, .int .i64 a1.2.1, .int .i64 a1.2.2]) a1 ((tyP tyI (tyP tyI tyI)).mono (h.m.leAll (i := 3) rfl) (show (tyP tyI (tyP tyI tyI)).rep S0 ([.int .i64 a1.1, .int .i64 a1.2.1, .int .i64 a1.2.2]) a1 from ⟨[.int .i64 a1.1], [.int .i64 a1.2.1, .int .i64 a1.2.2], rfl, ⟨rfl, hr8⟩, ⟨[.int .i64 a1.2.1], [.int .i64 a1.2.2], rfl, ⟨rfl, hr11⟩, ⟨rfl, hr12⟩⟩⟩)) _ h40 _ h.startAll
    refine q_callX hX h rfl rfl rfl (by decide) Try.func92 rfl rfl rfl (fun a w v L1 S1 hR hb1 h => ?_)
    obtain ⟨rfl, rfl, hr42, _⟩ := hR
    refine s_x h rfl rfl (by decide) (x_bin h.k rfl rfl rfl ib_geq) (fun a h => ?_)
    refine l_end ?_
    refine c_cond h rfl (fun hb => ?_) (fun hb => ?_)
    · rw [if_pos (of_decide_eq_true hb)] at hf
      refine c_rs ?_ -- region 8
      refine s_move h rfl _ rfl rfl (by decide) rfl (fun a h => ?_)
      refine s_x h rfl rfl (by decide) (x_ldR h.k rfl ag_api_Term rfl ([.int .i64 a1.1, .int .i64 a1.2.1, .int .i64 a1.2.2]) rfl (h.m.range0 (i := 0) rfl)) (fun a h => ?_)
      obtain ⟨x43, h44, hf⟩ := bsome hf
      have hX := chatelaineref36_Store_Find_ok Fu (S0 := snapAll _) g1 a0 ⟨[.slice A2 a0.length c3], h.m.boxAll (i := 1) rfl, ⟨_, _, rfl, h.m.rowAll (i := 2) rfl (j := 3) rfl hq5⟩⟩ ([.int .i64 a1.1, .int .i64 a1.2.1, .int .i64 a1.2.2]) a1 ((tyP tyI (tyP tyI tyI)).mono (h.m.leAll (i := 3) rfl) (show (tyP tyI (tyP tyI tyI)).rep S0 ([.int .i64 a1.1, .int .i64 a1.2.1, .int .i64 a1.2.2]) a1 from ⟨[.int .i64 a1.1], [.int .i64 a1.2.1, .int .i64 a1.2.2], rfl, ⟨rfl, hr8⟩, ⟨[.int .i64 a1.2.1], [.int .i64 a1.2.2], rfl, ⟨rfl, hr11⟩, ⟨rfl, hr12⟩⟩⟩)) _ h44 _ h.startAll
      refine q_callX hX h rfl rfl rfl (by decide) Try.func92 rfl rfl rfl (fun a w v L1 S1 hR hb1 h => ?_)
      obtain ⟨rfl, rfl, hr46, _⟩ := hR
      refine s_assign h rfl _ rfl rfl (by decide) rfl (fun a h => ?_)
      refine s_assign h rfl _ rfl rfl (by decide) rfl (fun a h => ?_)
      refine l_end ?_
      refine wp_ret ?_
      refine e_thenR ?_
      obtain rfl := Option.some.inj hf
      exact r_ret2 h rfl (rv_tmp h rfl) (rv_tmp h rfl) ⟨_, [.box g1 101 ([.slice A2 a0.length c3]), .row (.slice A2 a0.length c3) 89 3 a0.length cs4], _, rfl, ⟨A2, c3, cs4, rfl, rfl, hr46, (show r64 0 from ⟨by decide, by decide⟩), hq5, trivial⟩, rfl, (Up.refl _ _ _), (h.m.pick [1, 2, 3] _ (by decide) rfl)⟩
    · rw [if_neg (of_decide_eq_false hb)] at hf
      refine wp_skip ?_
      refine e_thenN ?_
      refine wp_seq ?_
      -- region 9 draws
      obtain ⟨x49, h50, hf⟩ := bsome hf
      refine c_fin (fun a w => ∃ (A55 : Option Addr), ∃ (c56 : Nat), ∃ (cs57 : List Value), reps (tyP tyI (tyP tyI tyI)) S0 cs57 x49 ∧ St 101 w0 (ownL ([.box g1 101 ([.slice A2 a0.length c3]), .row (.slice A2 a0.length c3) 89 3 a0.length cs4] ++ [.sn S0])) [(6, .int .i64 (a0.length : Int))] [.box g1 101 ([.slice A55 x49.length c56]), .row (.slice A55 x49.length c56) 89 3 x49.length cs57, .sn S0] a w) ?_ (fun a w h => ?_)
      · refine d_start h (Mem _ _ _) 11 11 rfl (by kernel_rfl) (fun _ _ _ _ _ h => h) (fun _ h => h.pick [0, 3] [.box g13 89 ([.int .i64 a1.1, .int .i64 a1.2.1, .int .i64 a1.2.2]), .sn S0] (by decide) rfl) (fun Q a w HE HN h HS => ?_)
        refine d_takeP h (fun _ => HS) HN 0 rfl (by kernel_rfl) (by kernel_rfl) (by kernel_rfl) (by decide) rfl rfl (by decide) (fun w' => x_move h.k _ rfl rfl) (fun a h => ?_)
        refine d_takeP h (fun _ => HS) HN 1 rfl (by kernel_rfl) (by kernel_rfl) (by kernel_rfl) (by decide) rfl rfl (by decide) (fun w' => x_move h.k _ rfl rfl) (fun a h => ?_)
        refine d_takeP h (fun _ => HS) HN 2 rfl (by kernel_rfl) (by kernel_rfl) (by kernel_rfl) (by decide) rfl rfl (by decide) (fun w' => x_nil h.k rfl rfl) (fun a h => ?_)
        refine d_takeP h (fun _ => HS) HN 3 rfl (by kernel_rfl) (by kernel_rfl) (by kernel_rfl) (by decide) rfl rfl (by decide) (fun w' => x_faddr h.k rfl Try.underlying101 rfl sz_Sapi_Term rfl) (fun a h => ?_)
        refine d_take h HS HN 5 rfl (by kernel_rfl) (by kernel_rfl) (by kernel_rfl) (by kernel_rfl) (by kernel_rfl) rfl rfl (by decide) (fun w' hw => x_ldR h.k rfl ag_api_Term rfl ([.int .i64 a1.1, .int .i64 a1.2.1, .int .i64 a1.2.2]) rfl (hw.range0 (i := 0) rfl)) (fun a h => ?_)
        refine d_two 4 6 (by kernel_rfl) (d_one 4 rfl _ (fun K hK => ?_)) (d_one 6 rfl _ (fun K hK => ?_))
        · refine s_x h rfl rfl (by decide) (x_ld h.k rfl Try.underlying81 rfl rfl ((h.m.cell (i := 1) rfl 0).trans rfl)) (fun a h => ?_)
          refine hK _ _ ⟨fun _ _ => HS, ?_⟩
          clear hK
          refine d_alone 6 rfl (by kernel_rfl) (fun K hK => ?_)
          refine q_bslice (T := tyP tyI (tyP tyI tyI)) (S := S0) h rfl rfl rfl (by decide) Try.underlying81 zi_api_Term (by decide) (by decide) (by decide) (by decide) [.agg ([.int .i64 a1.1, .int .i64 a1.2.1, .int .i64 a1.2.2]).toArray] rfl rfl (C := [[.int .i64 a1.1, .int .i64 a1.2.1, .int .i64 a1.2.2]]) rfl (xs := [a1]) ⟨[.int .i64 a1.1, .int .i64 a1.2.1, .int .i64 a1.2.2], _, rfl, ⟨[.int .i64 a1.1], [.int .i64 a1.2.1, .int .i64 a1.2.2], rfl, ⟨rfl, hr8⟩, ⟨[.int .i64 a1.2.1], [.int .i64 a1.2.2], rfl, ⟨rfl, hr11⟩, ⟨rfl, hr12⟩⟩⟩, rfl⟩ (by intro c hc; simp only [List.mem_cons, List.not_mem_nil, or_false] at hc; subst hc; rfl) (fun a w A47 h => ?_)
          have hb48 : reps (tyP tyI (tyP tyI tyI)) S0 ([[.int .i64 a1.1, .int .i64 a1.2.1, .int .i64 a1.2.2]]).flatten [a1] := ⟨[.int .i64 a1.1, .int .i64 a1.2.1, .int .i64 a1.2.2], _, rfl, ⟨[.int .i64 a1.1], [.int .i64 a1.2.1, .int .i64 a1.2.2], rfl, ⟨rfl, hr8⟩, ⟨[.int .i64 a1.2.1], [.int .i64 a1.2.2], rfl, ⟨rfl, hr11⟩, ⟨rfl, hr12⟩⟩⟩, rfl⟩
          replace HS := h.m.pick [1, 4] [.box g13 89 ([.int .i64 a1.1, .int .i64 a1.2.1, .int .i64 a1.2.2]), .sn S0] (by decide) rfl
          refine hK _ _ (fun _ _ => HS) ?_
          clear hK
          refine d_alone 7 rfl (by kernel_rfl) (fun K hK => ?_)
          refine q_append (T := tyP tyI (tyP tyI tyI)) (S := S0) h rfl rfl rfl (by decide) Try.underlying81 zb_api_Term rfl (by decide) rfl 3 rfl hq5 rfl hb48 (h.m.rdRowA (i := 0) rfl) h50 (fun a w A51 c52 cs53 hq54 h => ?_)
          replace HS := h.m.pick [1, 4] [.box g13 89 ([.int .i64 a1.1, .int .i64 a1.2.1, .int .i64 a1.2.2]), .sn S0] (by decide) rfl
          refine hK _ _ (fun _ _ => HS) ?_
          clear hK
          refine d_takeP h (fun _ => HS) HN 8 rfl (by kernel_rfl) (by kernel_rfl) (by kernel_rfl) (by decide) rfl rfl (by decide) (fun w' => x_nil h.k rfl rfl) (fun a h => ?_)
          refine d_takeP h (fun _ => HS) HN 9 rfl (by kernel_rfl) (by kernel_rfl) (by kernel_rfl) (by decide) rfl rfl (by decide) (fun w' => x_faddr h.k rfl Try.underlying101 rfl sz_Sapi_Term rfl) (fun a h => ?_)
          refine d_alone 10 rfl (by kernel_rfl) (fun K hK => ?_)
          refine s_stb h rfl rfl rfl sz_Sapi_Term rfl rfl rfl 2 rfl (by first | decide | simp) (fun a w h => ?_)
          replace HS := h.m.pick [1, 4] [.box g13 89 ([.int .i64 a1.1, .int .i64 a1.2.1, .int .i64 a1.2.2]), .sn S0] (by decide) rfl
          refine hK _ _ (fun _ _ => HS) ?_
          clear hK
          refine d_done (by kernel_rfl) (HE _ _ ?_) _
          refine e_thenN ?_
          have h := h.pick [2, 3, 4] (by decide) rfl
          exact ⟨A51, c52, cs53, hq54, h.has (by exact ⟨rfl, trivial⟩)⟩
        · refine q_bslice (T := tyP tyI (tyP tyI tyI)) (S := S0) h rfl rfl rfl (by decide) Try.underlying81 zi_api_Term (by decide) (by decide) (by decide) (by decide) [.agg ([.int .i64 a1.1, .int .i64 a1.2.1, .int .i64 a1.2.2]).toArray] rfl rfl (C := [[.int .i64 a1.1, .int .i64 a1.2.1, .int .i64 a1.2.2]]) rfl (xs := [a1]) ⟨[.int .i64 a1.1, .int .i64 a1.2.1, .int .i64 a1.2.2], _, rfl, ⟨[.int .i64 a1.1], [.int .i64 a1.2.1, .int .i64 a1.2.2], rfl, ⟨rfl, hr8⟩, ⟨[.int .i64 a1.2.1], [.int .i64 a1.2.2], rfl, ⟨rfl, hr11⟩, ⟨rfl, hr12⟩⟩⟩, rfl⟩ (by intro c hc; simp only [List.mem_cons, List.not_mem_nil, or_false] at hc; subst hc; rfl) (fun a w A47 h => ?_)
          have hb48 : reps (tyP tyI (tyP tyI tyI)) S0 ([[.int .i64 a1.1, .int .i64 a1.2.1, .int .i64 a1.2.2]]).flatten [a1] := ⟨[.int .i64 a1.1, .int .i64 a1.2.1, .int .i64 a1.2.2], _, rfl, ⟨[.int .i64 a1.1], [.int .i64 a1.2.1, .int .i64 a1.2.2], rfl, ⟨rfl, hr8⟩, ⟨[.int .i64 a1.2.1], [.int .i64 a1.2.2], rfl, ⟨rfl, hr11⟩, ⟨rfl, hr12⟩⟩⟩, rfl⟩
          replace HS := h.m.pick [1, 4] [.box g13 89 ([.int .i64 a1.1, .int .i64 a1.2.1, .int .i64 a1.2.2]), .sn S0] (by decide) rfl
          refine hK _ _ ⟨fun _ _ => HS, ?_⟩
          clear hK
          refine d_alone 4 rfl (by kernel_rfl) (fun K hK => ?_)
          refine s_x h rfl rfl (by decide) (x_ld h.k rfl Try.underlying81 rfl rfl ((h.m.cell (i := 2) rfl 0).trans rfl)) (fun a h => ?_)
          refine hK _ _ (fun _ _ => HS) ?_
          clear hK
          refine d_alone 7 rfl (by kernel_rfl) (fun K hK => ?_)
          refine q_append (T := tyP tyI (tyP tyI tyI)) (S := S0) h rfl rfl rfl (by decide) Try.underlying81 zb_api_Term rfl (by decide) rfl 3 rfl hq5 rfl hb48 (h.m.rdRowA (i := 0) rfl) h50 (fun a w A51 c52 cs53 hq54 h => ?_)
          replace HS := h.m.pick [1, 4] [.box g13 89 ([.int .i64 a1.1, .int .i64 a1.2.1, .int .i64 a1.2.2]), .sn S0] (by decide) rfl
          refine hK _ _ (fun _ _ => HS) ?_
          clear hK
          refine d_takeP h (fun _ => HS) HN 8 rfl (by kernel_rfl) (by kernel_rfl) (by kernel_rfl) (by decide) rfl rfl (by decide) (fun w' => x_nil h.k rfl rfl) (fun a h => ?_)
          refine d_takeP h (fun _ => HS) HN 9 rfl (by kernel_rfl) (by kernel_rfl) (by kernel_rfl) (by decide) rfl rfl (by decide) (fun w' => x_faddr h.k rfl Try.underlying101 rfl sz_Sapi_Term rfl) (fun a h => ?_)
          refine d_alone 10 rfl (by kernel_rfl) (fun K hK => ?_)
          refine s_stb h rfl rfl rfl sz_Sapi_Term rfl rfl rfl 2 rfl (by first | decide | simp) (fun a w h => ?_)
          replace HS := h.m.pick [1, 4] [.box g13 89 ([.int .i64 a1.1, .int .i64 a1.2.1, .int .i64 a1.2.2]), .sn S0] (by decide) rfl
          refine hK _ _ (fun _ _ => HS) ?_
          clear hK
          refine d_done (by kernel_rfl) (HE _ _ ?_) _
          refine e_thenN ?_
          have h := h.pick [2, 3, 4] (by decide) rfl
          exact ⟨A51, c52, cs53, hq54, h.has (by exact ⟨rfl, trivial⟩)⟩
      obtain ⟨A55, c56, cs57, hq58, h⟩ := h
      refine e_thenN ?_
      refine c_rs ?_ -- region 10
      refine s_move h rfl _ rfl rfl (by decide) rfl (fun a h => ?_)
      refine s_assign h rfl _ rfl rfl (by decide) rfl (fun a h => ?_)
      refine s_assign h rfl _ rfl rfl (by decide) rfl (fun a h => ?_)
      refine l_end ?_
      refine wp_ret ?_
      obtain rfl := Option.some.inj hf
      exact r_ret2 h rfl (rv_tmp h rfl) (rv_tmp h rfl) ⟨_, [.box g1 101 ([.slice A55 x49.length c56]), .row (.slice A55 x49.length c56) 89 3 x49.length cs57], _, rfl, ⟨A55, c56, cs57, rfl, rfl, hr14, (show r64 0 from ⟨by decide, by decide⟩), hq58, trivial⟩, rfl, (Up.refl _ _ _), h.m⟩
def chatelaineref36_Store_Fresh_l0 (Fu : Nat) (a0 : (List (Int × Int × Int))) (a1 : Int) : Nat → Int → Int → Option Int
  | 0, _, _ => none
  | k + 1, x10, x12 => if x12 < (a0.length : Int) then (((ix a0.length x12).bind fun m23 => (a0[m23]?).bind fun x29 => (if x29.1 = 1 then (ix a0.length x12).bind fun m44 => (a0[m44]?).bind fun x50 => some (decide (x50.2.1 = a1)) else some false).bind fun z42 => if z42 = true then (some (w64 (x10 + 1))) else (some x10)).bind fun x21 => chatelaineref36_Store_Fresh_l0 Fu a0 a1 k x21 (w64 (x12 + 1))) else (some x10)
def chatelaineref36_Store_Fresh_l1 (Fu : Nat) (a0 : (List (Int × Int × Int))) (a1 : Int) : Nat → Int → Option Int
  | 0, _ => none
  | k + 1, x64 => (chatelaineref36_Store_Find Fu a0 (1, a1, x64)).bind fun x70 => if 0 ≤ x70 then (chatelaineref36_Store_Fresh_l1 Fu a0 a1 k (w64 (x64 + 1))) else (some x64)
def chatelaineref36_Store_Fresh (Fu : Nat) (a0 : (List (Int × Int × Int))) (a1 : Int) : Option (Int × Int × ((List (Int × Int × Int)))) :=
  if ((decide (a1 < 1)) || (decide (4 < a1))) = true then (some (0, 2, a0)) else ((chatelaineref36_Store_Fresh_l0 Fu a0 a1 Fu 0 0).bind fun x14 => (chatelaineref36_Store_Fresh_l1 Fu a0 a1 Fu x14).bind fun x66 => (chatelaineref36_Store_Put Fu a0 (1, a1, x66)).bind fun x74 => some (x74.1, x74.2.1, x74.2.2))
set_option maxRecDepth 100000 in
set_option maxHeartbeats 2000000 in
theorem chatelaineref36_Store_Fresh_ok (Fu : Nat) {S0 : Snap} (a0 : (List (Int × Int × Int))) (g1 : Nat) (A2 : Option Addr) (c3 : Nat) (cs4 : List Value) (hq5 : reps (tyP tyI (tyP tyI tyI)) S0 cs4 a0) (a1 : Int) (hra1 : r64 a1) (r : Int × Int × ((List (Int × Int × Int)))) (hf : chatelaineref36_Store_Fresh Fu a0 a1 = some r) (w0 : World) (hm : Mem w0 (ownL ([.box g1 101 ([.slice A2 a0.length c3]), .row (.slice A2 a0.length c3) 89 3 a0.length cs4] ++ [.sn S0])) ([.box g1 101 ([.slice A2 a0.length c3]), .row (.slice A2 a0.length c3) 89 3 a0.length cs4] ++ [.sn S0]) w0) :
    Calls Try.prog 65 #[.pointer (some ⟨g1, 0, none⟩), .int .i64 a1] w0 (Ret w0 S0 [.box g1 101 ([.slice A2 a0.length c3]), .row (.slice A2 a0.length c3) 89 3 a0.length cs4] (fun v L1 S1 => ∃ (A88 : Option Addr), ∃ (c89 : Nat), ∃ (cs90 : List Value), v = .tuple #[.int .i64 r.1, .int .i64 r.2.1] ∧ L1 = [.box g1 101 ([.slice A88 r.2.2.length c89]), .row (.slice A88 r.2.2.length c89) 89 3 r.2.2.length cs90] ∧ r64 r.1 ∧ r64 r.2.1 ∧ reps (tyP tyI (tyP tyI tyI)) S1 cs90 r.2.2 ∧ True)) := by
  unfold chatelaineref36_Store_Fresh at hf
  refine c_enterM Try.func65 rfl 61 rfl (by simp) _ hm _ rfl (fun a h => ?_)
  refine c_rs ?_ -- region 0
  refine s_assign h rfl _ rfl rfl (by decide) rfl (fun a h => ?_)
  refine s_assign h rfl _ rfl rfl (by decide) rfl (fun a h => ?_)
  refine l_end ?_
  refine wp_seq ?_
  refine c_rs ?_ -- region 1
  refine s_move h rfl _ rfl rfl (by decide) rfl (fun a h => ?_)
  refine s_x h rfl rfl (by decide) (x_bin h.k rfl rfl rfl ib_lss) (fun a h => ?_)
  refine s_move h rfl _ rfl rfl (by decide) rfl (fun a h => ?_)
  refine q_grp h 3 (t := 10) 13 ((decide (a1 < 1)) || (decide (4 < a1))) rfl (fun hB2 => ?_) (fun hB2 => ?_) (fun a w h => ?_)
  · refine g_no h rfl rfl rfl rfl hB2 rfl (by decide) (fun a h => ?_)
    refine g_no h rfl rfl rfl rfl hB2 rfl (by decide) (fun a h => ?_)
    refine s_x h rfl rfl (by decide) (x_pick (u' := undef) h.k rfl rfl (fun _ => rfl) (fun hh => absurd (hB2.symm.trans hh) (by decide))) (fun a h => ?_)
    exact (h.mid 2 rfl).val (by first | rfl | (rw [hB2]; first | rfl | simp))
  · refine g_yes h rfl rfl rfl rfl hB2 ?_
    refine s_move h rfl _ rfl rfl (by decide) rfl (fun a h => ?_)
    refine g_yes h rfl rfl rfl rfl hB2 ?_
    refine s_x h rfl rfl (by decide) (x_bin h.k rfl rfl rfl ib_gtr) (fun a h => ?_)
    refine s_x h rfl rfl (by decide) (x_pick (u' := undef) h.k rfl rfl (fun hh => absurd (hB2.symm.trans hh) (by decide)) (fun _ => rfl)) (fun a h => ?_)
    exact (h.mid 2 rfl).val (by first | rfl | (rw [hB2]; first | rfl | simp))
  refine l_end ?_
  refine c_cond h rfl (fun hb => ?_) (fun hb => ?_)
  · rw [if_pos hb] at hf
    refine c_rs ?_ -- region 2
    refine s_assign h rfl _ rfl rfl (by decide) rfl (fun a h => ?_)
    refine s_assign h rfl _ rfl rfl (by decide) rfl (fun a h => ?_)
    refine l_end ?_
    refine wp_ret ?_
    refine e_thenR ?_
    obtain rfl := Option.some.inj hf
    exact r_ret2 h rfl (rv_tmp h rfl) (rv_tmp h rfl) ⟨_, [.box g1 101 ([.slice A2 a0.length c3]), .row (.slice A2 a0.length c3) 89 3 a0.length cs4], _, rfl, ⟨A2, c3, cs4, rfl, rfl, (show r64 0 from ⟨by decide, by decide⟩), (show r64 2 from ⟨by decide, by decide⟩), hq5, trivial⟩, rfl, (Up.refl _ _ _), h.m⟩
  · rw [if_neg (by rw [hb]; decide)] at hf
    refine wp_skip ?_
    refine e_thenN ?_
    refine c_rs ?_ -- region 3
    refine s_assign h rfl _ rfl rfl (by decide) rfl (fun a h => ?_)
    refine l_end ?_
    refine wp_seq ?_
    refine c_rs ?_ -- region 4
    refine s_assign h rfl _ rfl rfl (by decide) rfl (fun a h => ?_)
    refine l_end ?_
    obtain ⟨o8, hl9, hf⟩ := bsome hf
    refine c_fin (fun a w => ∃ (x14 : Int), x14 = o8 ∧ r64 x14 ∧ St 61 w0 (ownL ([.box g1 101 ([.slice A2 a0.length c3]), .row (.slice A2 a0.length c3) 89 3 a0.length cs4] ++ [.sn S0])) [(0, .pointer (some ⟨g1, 0, none⟩)), (1, .int .i64 a1), (6, .int .i64 x14)] [.box g1 101 ([.slice A2 a0.length c3]), .row (.slice A2 a0.length c3) 89 3 a0.length cs4, .sn S0] a w) ?_ ?_
    · refine wp_block ?_
      refine c_loop (fun m17 a w => ∃ (x10 : Int), ∃ (x12 : Int), chatelaineref36_Store_Fresh_l0 Fu a0 a1 m17 x10 x12 = some o8 ∧ r64 x10 ∧ r64 x12 ∧ St 61 w0 (ownL ([.box g1 101 ([.slice A2 a0.length c3]), .row (.slice A2 a0.length c3) 89 3 a0.length cs4] ++ [.sn S0])) [(0, .pointer (some ⟨g1, 0, none⟩)), (1, .int .i64 a1), (6, .int .i64 x10), (7, .int .i64 x12)] [.box g1 101 ([.slice A2 a0.length c3]), .row (.slice A2 a0.length c3) 89 3 a0.length cs4, .sn S0] a w) Fu ⟨0, 0, hl9, (show r64 0 from ⟨by decide, by decide⟩), (show r64 0 from ⟨by decide, by decide⟩), h.has (by exact ⟨rfl, rfl, rfl, rfl, trivial⟩)⟩ (fun m17 a w hI => ?_)
      obtain ⟨x10, x12, hl16, hr11, hr13, h⟩ := hI
      obtain _ | m17 := m17
      · rw [chatelaineref36_Store_Fresh_l0] at hl16; cases hl16
      rw [chatelaineref36_Store_Fresh_l0] at hl16
      refine wp_seq ?_
      refine c_rs ?_ -- region 5
      refine s_move h rfl _ rfl rfl (by decide) rfl (fun a h => ?_)
      refine s_move h rfl _ rfl rfl (by decide) rfl (fun a h => ?_)
      refine s_x h rfl rfl (by decide) (x_nil h.k rfl rfl) (fun a h => ?_)
      refine s_x h rfl rfl (by decide) (x_faddr h.k rfl Try.underlying101 rfl sz_Sapi_Term rfl) (fun a h => ?_)
      refine s_x h rfl rfl (by decide) (x_ld h.k rfl Try.underlying81 rfl rfl ((h.m.cell (i := 0) rfl 0).trans rfl)) (fun a h => ?_)
      have hr18 : r64 (a0.length : Int) := len_r (h.m.rowLen (i := 1) rfl)
      refine s_x h rfl rfl (by decide) (x_len h.k rfl Try.underlying81 rfl) (fun a h => ?_)
      refine s_x h rfl rfl (by decide) (x_bin h.k rfl rfl rfl ib_lss) (fun a h => ?_)
      refine l_end ?_
      refine c_cond h rfl (fun hb => ?_) (fun hb => ?_)
      · rw [if_pos (of_decide_eq_true hb)] at hl16
        refine wp_skip ?_
        refine e_thenN ?_
        obtain ⟨o19, hc20, hl16⟩ := bsome hl16
        refine c_cut (fun a w => ∃ (x21 : Int), x21 = o19 ∧ r64 x21 ∧ St 61 w0 (ownL ([.box g1 101 ([.slice A2 a0.length c3]), .row (.slice A2 a0.length c3) 89 3 a0.length cs4] ++ [.sn S0])) [(0, .pointer (some ⟨g1, 0, none⟩)), (1, .int .i64 a1), (6, .int .i64 x21), (7, .int .i64 x12)] [.box g1 101 ([.slice A2 a0.length c3]), .row (.slice A2 a0.length c3) 89 3 a0.length cs4, .sn S0] a w) ?_ ?_
        · refine wp_block ?_
          refine c_rs ?_ -- region 7
          refine s_move h rfl _ rfl rfl (by decide) rfl (fun a h => ?_)
          refine s_x h rfl rfl (by decide) (x_nil h.k rfl rfl) (fun a h => ?_)
          refine s_x h rfl rfl (by decide) (x_faddr h.k rfl Try.underlying101 rfl sz_Sapi_Term rfl) (fun a h => ?_)
          refine s_x h rfl rfl (by decide) (x_ld h.k rfl Try.underlying81 rfl rfl ((h.m.cell (i := 0) rfl 0).trans rfl)) (fun a h => ?_)
          refine s_move h rfl _ rfl rfl (by decide) rfl (fun a h => ?_)
          obtain ⟨m23, h24, hc20⟩ := bsome hc20
          obtain ⟨hi25, hm26⟩ := ix_some h24
          obtain ⟨g28, hA27⟩ := h.m.rowHead (i := 1) rfl (Nat.lt_of_le_of_lt (Nat.zero_le _) hm26)
          refine s_x h rfl rfl (by decide) (x_iaddrE h.k rfl Try.underlying81 sz_api_Term hA27 rfl rfl hi25 hm26) (fun a h => ?_)
          refine s_x h rfl rfl (by decide) (x_faddr h.k rfl Try.underlying89 rfl sz_int rfl) (fun a h => ?_)
          obtain ⟨x29, h30, hc20⟩ := bsome hc20
          obtain ⟨k31, hk32, hu33⟩ : ∃ k, k = (cs4.drop (m23 * 3)).take 3 ∧ (tyP tyI (tyP tyI tyI)).rep S0 k x29 := ⟨_, rfl, reps.at hq5 h30⟩
          obtain ⟨k34, k35, rfl, ⟨rfl, hr36⟩, ⟨k37, k38, rfl, ⟨rfl, hr39⟩, ⟨rfl, hr40⟩⟩⟩ := hu33
          refine s_x h rfl rfl (by decide) (x_ld h.k rfl Try.underlying3 rfl rfl ((show World.rangeAt _ _ (0 + m23 * 3) ([.int .i64 x29.1, .int .i64 x29.2.1, .int .i64 x29.2.2]) from (by have hz := h.m.rangeRowE (i := 1) rfl hA27 (m23 * 3) 3; rw [← hk32] at hz; exact hz)) 0 _ rfl)) (fun a h => ?_)
          refine s_x h rfl rfl (by decide) (x_bin h.k rfl rfl rfl ib_eql) (fun a h => ?_)
          refine s_move h rfl _ rfl rfl (by decide) rfl (fun a h => ?_)
          obtain ⟨z42, hz41, hc20⟩ := bsome hc20
          refine q_grp h 11 (t := 32) 43 z42 rfl (fun hB9 => ?_) (fun hB9 => ?_) (fun a w h => ?_)
          · rw [if_pos (of_decide_eq_true hB9)] at hz41
            refine g_yes h rfl rfl rfl rfl hB9 ?_
            refine s_move h rfl _ rfl rfl (by decide) rfl (fun a h => ?_)
            refine g_yes h rfl rfl rfl rfl hB9 ?_
            refine s_x h rfl rfl (by decide) (x_nil h.k rfl rfl) (fun a h => ?_)
            refine g_yes h rfl rfl rfl rfl hB9 ?_
            refine s_x h rfl rfl (by decide) (x_faddr h.k rfl Try.underlying101 rfl sz_Sapi_Term rfl) (fun a h => ?_)
            refine g_yes h rfl rfl rfl rfl hB9 ?_
            refine s_x h rfl rfl (by decide) (x_ld h.k rfl Try.underlying81 rfl rfl ((h.m.cell (i := 0) rfl 0).trans rfl)) (fun a h => ?_)
            refine g_yes h rfl rfl rfl rfl hB9 ?_
            refine s_move h rfl _ rfl rfl (by decide) rfl (fun a h => ?_)
            refine g_yes h rfl rfl rfl rfl hB9 ?_
            obtain ⟨m44, h45, hz41⟩ := bsome hz41
            obtain ⟨hi46, hm47⟩ := ix_some h45
            obtain ⟨g49, hA48⟩ := h.m.rowHead (i := 1) rfl (Nat.lt_of_le_of_lt (Nat.zero_le _) hm47)
            refine s_x h rfl rfl (by decide) (x_iaddrE h.k rfl Try.underlying81 sz_api_Term hA48 rfl rfl hi46 hm47) (fun a h => ?_)
            refine g_yes h rfl rfl rfl rfl hB9 ?_
            refine s_x h rfl rfl (by decide) (x_faddr h.k rfl Try.underlying89 rfl sz_int rfl) (fun a h => ?_)
            refine g_yes h rfl rfl rfl rfl hB9 ?_
            obtain ⟨x50, h51, hz41⟩ := bsome hz41
            obtain ⟨k52, hk53, hu54⟩ : ∃ k, k = (cs4.drop (m44 * 3)).take 3 ∧ (tyP tyI (tyP tyI tyI)).rep S0 k x50 := ⟨_, rfl, reps.at hq5 h51⟩
            obtain ⟨k55, k56, rfl, ⟨rfl, hr57⟩, ⟨k58, k59, rfl, ⟨rfl, hr60⟩, ⟨rfl, hr61⟩⟩⟩ := hu54
            refine s_x h rfl rfl (by decide) (x_ld h.k rfl Try.underlying3 rfl rfl ((show World.rangeAt _ _ (0 + m44 * 3) ([.int .i64 x50.1, .int .i64 x50.2.1, .int .i64 x50.2.2]) from (by have hz := h.m.rangeRowE (i := 1) rfl hA48 (m44 * 3) 3; rw [← hk53] at hz; exact hz)) 1 _ rfl)) (fun a h => ?_)
            refine g_yes h rfl rfl rfl rfl hB9 ?_
            refine s_move h rfl _ rfl rfl (by decide) rfl (fun a h => ?_)
            refine g_yes h rfl rfl rfl rfl hB9 ?_
            refine s_x h rfl rfl (by decide) (x_bin h.k rfl rfl rfl ib_eql) (fun a h => ?_)
            refine s_x h rfl rfl (by decide) (x_pick (u' := undef) h.k rfl rfl (fun _ => rfl) (fun hh => absurd (hB9.symm.trans hh) (by decide))) (fun a h => ?_)
            exact (h.mid 10 rfl).val (by rw [Option.some.inj hz41])
          · refine g_no h rfl rfl rfl rfl hB9 rfl (by decide) (fun a h => ?_)
            refine g_no h rfl rfl rfl rfl hB9 rfl (by decide) (fun a h => ?_)
            refine g_no h rfl rfl rfl rfl hB9 rfl (by decide) (fun a h => ?_)
            refine g_no h rfl rfl rfl rfl hB9 rfl (by decide) (fun a h => ?_)
            refine g_no h rfl rfl rfl rfl hB9 rfl (by decide) (fun a h => ?_)
            refine g_no h rfl rfl rfl rfl hB9 rfl (by decide) (fun a h => ?_)
            refine g_no h rfl rfl rfl rfl hB9 rfl (by decide) (fun a h => ?_)
            refine g_no h rfl rfl rfl rfl hB9 rfl (by decide) (fun a h => ?_)
            refine g_no h rfl rfl rfl rfl hB9 rfl (by decide) (fun a h => ?_)
            refine g_no h rfl rfl rfl rfl hB9 rfl (by decide) (fun a h => ?_)
            rw [if_neg (of_decide_eq_false hB9)] at hz41
            refine s_x h rfl rfl (by decide) (x_pick (u' := undef) h.k rfl rfl (fun hh => absurd (hB9.symm.trans hh) (by decide)) (fun _ => rfl)) (fun a h => ?_)
            exact (h.mid 10 rfl).val (by rw [Option.some.inj hz41])
          refine l_end ?_
          refine c_cond h rfl (fun hb => ?_) (fun hb => ?_)
          · rw [if_pos hb] at hc20
            refine c_r ?_ -- region 8
            refine s_move h rfl _ rfl rfl (by decide) rfl (fun a h => ?_)
            refine s_x h rfl rfl (by decide) (x_bin h.k rfl rfl rfl (ib_add rfl)) (fun a h => ?_)
            refine s_assign h rfl _ rfl rfl (by decide) rfl (fun a h => ?_)
            refine l_nil ?_
            refine e_blkN ?_
            refine e_thenN ?_
            exact ⟨w64 (x10 + 1), (Option.some.inj hc20), (w64_r _), h.has (by exact ⟨rfl, rfl, rfl, rfl, trivial⟩)⟩
          · rw [if_neg (by rw [hb]; decide)] at hc20
            refine wp_skip ?_
            refine e_blkN ?_
            refine e_thenN ?_
            exact ⟨x10, (Option.some.inj hc20), hr11, h.has (by exact ⟨rfl, rfl, rfl, rfl, trivial⟩)⟩
        · rintro a w ⟨x21, rfl, hr22, h⟩
          refine c_r ?_ -- region 6
          refine s_move h rfl _ rfl rfl (by decide) rfl (fun a h => ?_)
          refine s_x h rfl rfl (by decide) (x_bin h.k rfl rfl rfl (ib_add rfl)) (fun a h => ?_)
          refine s_assign h rfl _ rfl rfl (by decide) rfl (fun a h => ?_)
          refine l_nil ?_
          exact e_thenN ⟨m17, Nat.lt_succ_self _, x21, w64 (x12 + 1), hl16, hr22, (w64_r _), h.has (by exact ⟨rfl, rfl, rfl, rfl, trivial⟩)⟩
      · rw [if_neg (of_decide_eq_false hb)] at hl16
        refine wp_exit ?_
        refine e_thenX ?_
        refine e_thenX ?_
        refine e_blkX ?_
        refine e_thenN ?_
        exact ⟨x10, (Option.some.inj hl16), hr11, h.has (by exact ⟨rfl, rfl, rfl, trivial⟩)⟩
    · rintro a w ⟨x14, rfl, hr15, h⟩
      refine e_thenN ?_
      obtain ⟨o62, hl63, hf⟩ := bsome hf
      refine c_cut (fun a w => ∃ (x66 : Int), x66 = o62 ∧ r64 x66 ∧ St 61 w0 (ownL ([.box g1 101 ([.slice A2 a0.length c3]), .row (.slice A2 a0.length c3) 89 3 a0.length cs4] ++ [.sn S0])) [(0, .pointer (some ⟨g1, 0, none⟩)), (1, .int .i64 a1), (6, .int .i64 x66)] [.box g1 101 ([.slice A2 a0.length c3]), .row (.slice A2 a0.length c3) 89 3 a0.length cs4, .sn S0] a w) ?_ ?_
      · refine wp_block ?_
        refine c_loop (fun m69 a w => ∃ (x64 : Int), chatelaineref36_Store_Fresh_l1 Fu a0 a1 m69 x64 = some o62 ∧ r64 x64 ∧ St 61 w0 (ownL ([.box g1 101 ([.slice A2 a0.length c3]), .row (.slice A2 a0.length c3) 89 3 a0.length cs4] ++ [.sn S0])) [(0, .pointer (some ⟨g1, 0, none⟩)), (1, .int .i64 a1), (6, .int .i64 x64)] [.box g1 101 ([.slice A2 a0.length c3]), .row (.slice A2 a0.length c3) 89 3 a0.length cs4, .sn S0] a w) Fu ⟨x14, hl63, hr15, h.has (by exact ⟨rfl, rfl, rfl, trivial⟩)⟩ (fun m69 a w hI => ?_)
        obtain ⟨x64, hl68, hr65, h⟩ := hI
        obtain _ | m69 := m69
        · rw [chatelaineref36_Store_Fresh_l1] at hl68; cases hl68
        rw [chatelaineref36_Store_Fresh_l1] at hl68
        refine wp_seq ?_
        refine c_rs ?_ -- region 9
        refine s_move h rfl _ rfl rfl (by decide) rfl (fun a h => ?_)
        refine s_move h rfl _ rfl rfl (by decide) rfl (fun a h => ?_)
        refine s_move h rfl _ rfl rfl (by decide) rfl (fun a h => ?_)
        refine s_x h rfl rfl (by decide) (x_build h.k rfl [(0, .int .i64 1), (1, .int .i64 a1), (2, .int .i64 x64)] rfl ([.int .i64 1, .int .i64 a1, .int .i64 x64]) (by kernel_rfl)) (fun a h => ?_)
        obtain ⟨x70, h71, hl68⟩ := bsome hl68
        have hX := chatelaineref36_Store_Find_ok Fu (S0 := snapAll _) g1 a0 ⟨[.slice A2 a0.length c3], h.m.boxAll (i := 0) rfl, ⟨_, _, rfl, h.m.rowAll (i := 1) rfl (j := 2) rfl hq5⟩⟩ ([.int .i64 1, .int .i64 a1, .int .i64 x64]) (1, a1, x64) ((tyP tyI (tyP tyI tyI)).mono (h.m.leAll (i := 2) rfl) (show (tyP tyI (tyP tyI tyI)).rep S0 ([.int .i64 1, .int .i64 a1, .int .i64 x64]) (1, a1, x64) from ⟨[.int .i64 1], [.int .i64 a1, .int .i64 x64], rfl, ⟨rfl, (show r64 1 from ⟨by decide, by decide⟩)⟩, ⟨[.int .i64 a1], [.int .i64 x64], rfl, ⟨rfl, hra1⟩, ⟨rfl, hr65⟩⟩⟩)) _ h71 _ h.startAll
        refine q_callX hX h rfl rfl rfl (by decide) Try.func92 rfl rfl rfl (fun a w v L1 S1 hR hb1 h => ?_)
        obtain ⟨rfl, rfl, hr73, _⟩ := hR
        refine s_x h rfl rfl (by decide) (x_bin h.k rfl rfl rfl ib_geq) (fun a h => ?_)
        refine l_end ?_
        refine c_cond h rfl (fun hb => ?_) (fun hb => ?_)
        · rw [if_pos (of_decide_eq_true hb)] at hl68
          refine wp_skip ?_
          refine e_thenN ?_
          refine wp_block ?_
          refine c_r ?_ -- region 10
          refine s_move h rfl _ rfl rfl (by decide) rfl (fun a h => ?_)
          refine s_x h rfl rfl (by decide) (x_bin h.k rfl rfl rfl (ib_add rfl)) (fun a h => ?_)
          refine s_assign h rfl _ rfl rfl (by decide) rfl (fun a h => ?_)
          refine l_nil ?_
          refine e_blkN ?_
          exact e_thenN ⟨m69, Nat.lt_succ_self _, w64 (x64 + 1), hl68, (w64_r _), h.has (by exact ⟨rfl, rfl, rfl, trivial⟩)⟩
        · rw [if_neg (of_decide_eq_false hb)] at hl68
          refine wp_exit ?_
          refine e_thenX ?_
          refine e_thenX ?_
          refine e_blkX ?_
          refine e_thenN ?_
          exact ⟨x64, (Option.some.inj hl68), hr65, h.has (by exact ⟨rfl, rfl, rfl, trivial⟩)⟩
      · rintro a w ⟨x66, rfl, hr67, h⟩
        refine c_rs ?_ -- region 11
        refine s_move h rfl _ rfl rfl (by decide) rfl (fun a h => ?_)
        refine s_move h rfl _ rfl rfl (by decide) rfl (fun a h => ?_)
        refine s_move h rfl _ rfl rfl (by decide) rfl (fun a h => ?_)
        refine s_x h rfl rfl (by decide) (x_build h.k rfl [(0, .int .i64 1), (1, .int .i64 a1), (2, .int .i64 x66)] rfl ([.int .i64 1, .int .i64 a1, .int .i64 x66]) (by kernel_rfl)) (fun a h => ?_)
        obtain ⟨x74, h75, hf⟩ := bsome hf
        have hX := chatelaineref36_Store_Put_ok Fu (S0 := S0) a0 g1 A2 c3 cs4 hq5 ([.int .i64 1, .int .i64 a1, .int .i64 x66]) (1, a1, x66) (⟨[.int .i64 1], [.int .i64 a1, .int .i64 x66], rfl, ⟨rfl, (show r64 1 from ⟨by decide, by decide⟩)⟩, ⟨[.int .i64 a1], [.int .i64 x66], rfl, ⟨rfl, hra1⟩, ⟨rfl, hr67⟩⟩⟩) _ h75 _ (h.sub (Ls := [.box g1 101 ([.slice A2 a0.length c3]), .row (.slice A2 a0.length c3) 89 3 a0.length cs4]))
        refine q_callY (Ls := [.box g1 101 ([.slice A2 a0.length c3]), .row (.slice A2 a0.length c3) 89 3 a0.length cs4]) hX h (Up.refl _ _ _) rfl rfl rfl (by decide) Try.func67 rfl rfl rfl (fun a w v L1 S77 hR le79 up78 h => ?_)
        obtain ⟨A82, c83, cs84, rfl, rfl, hr80, hr81, hq85, _⟩ := hR
        refine s_x h rfl rfl (by decide) (x_ext h.k rfl rfl rfl) (fun a h => ?_)
        refine s_x h rfl rfl (by decide) (x_ext h.k rfl rfl rfl) (fun a h => ?_)
        refine s_assign h rfl _ rfl rfl (by decide) rfl (fun a h => ?_)
        refine s_assign h rfl _ rfl rfl (by decide) rfl (fun a h => ?_)
        refine l_end ?_
        refine wp_ret ?_
        obtain rfl := Option.some.inj hf
        exact r_ret2 h rfl (rv_tmp h rfl) (rv_tmp h rfl) ⟨_, [.box g1 101 ([.slice A82 x74.2.2.length c83]), .row (.slice A82 x74.2.2.length c83) 89 3 x74.2.2.length cs84], _, rfl, ⟨A82, c83, cs84, rfl, rfl, hr80, hr81, hq85, trivial⟩, rfl, up78, h.m⟩
def chatelaineref36_Store_Depth : Nat → ((List (Int × Int × Int))) → Int → Option Int
  | 0, _, _ => none
  | Fu + 1, a0, a1 => (idx a0 a1).bind fun x6 => if x6.1 = 1 then (some 0) else ((chatelaineref36_Store_Depth Fu a0 x6.2.1).bind fun x26 => ((if x6.1 = 3 then (chatelaineref36_Store_Depth Fu a0 x6.2.2).bind fun x37 => some (decide (x26 < x37)) else some false).bind fun z35 => if z35 = true then ((chatelaineref36_Store_Depth Fu a0 x6.2.2).bind fun x41 => some x41) else (some x26)).bind fun x32 => some (w64 (x32 + 1)))
set_option maxRecDepth 100000 in
set_option maxHeartbeats 2000000 in
theorem chatelaineref36_Store_Depth_ok (Fu : Nat) : ∀ {S0 : Snap} (ga0 : Nat) (a0 : (List (Int × Int × Int))) (hpa0 : ptS (tyL (tyP tyI (tyP tyI tyI))) S0 ga0 a0) (a1 : Int) (hra1 : r64 a1) (r : Int) (hf : chatelaineref36_Store_Depth Fu a0 a1 = some r) (w0 : World) (hm : Mem w0 (ownL ([] ++ [.sn S0])) ([] ++ [.sn S0]) w0),
    Calls Try.prog 72 #[.pointer (some ⟨ga0, 0, none⟩), .int .i64 a1] w0 (Ret w0 S0 [] (fun v L1 S1 => v = .int .i64 r ∧ L1 = [] ∧ r64 r ∧ True)) := by
  induction Fu with
  | zero => intro S0 ga0 a0 hpa0 a1 hra1 r hf w0 hm; rw [chatelaineref36_Store_Depth] at hf; cases hf
  | succ Fu ih =>
    intro S0 ga0 a0 hpa0 a1 hra1 r hf w0 hm
    rw [chatelaineref36_Store_Depth] at hf
    refine c_enterM Try.func72 rfl 38 rfl (by simp) _ hm _ rfl (fun a h => ?_)
    refine c_rs ?_ -- region 0
    refine s_assign h rfl _ rfl rfl (by decide) rfl (fun a h => ?_)
    refine l_end ?_
    refine c_rs ?_ -- region 1
    refine s_move h rfl _ rfl rfl (by decide) rfl (fun a h => ?_)
    obtain ⟨k1, hc2, ⟨A3, c4, rfl, hs5⟩⟩ := id hpa0
    refine s_x h rfl rfl (by decide) (x_nil h.k rfl rfl) (fun a h => ?_)
    refine s_x h rfl rfl (by decide) (x_faddr h.k rfl Try.underlying101 rfl sz_Sapi_Term rfl) (fun a h => ?_)
    refine s_x h rfl rfl (by decide) (x_ld h.k rfl Try.underlying81 rfl rfl (hc2 _ (h.m.snOK (i := 0) rfl) 0 _ rfl)) (fun a h => ?_)
    refine s_move h rfl _ rfl rfl (by decide) rfl (fun a h => ?_)
    obtain ⟨x6, h10, hf⟩ := bsome hf
    obtain ⟨m7, hi11, hm12, hx13⟩ := idx_some h10
    obtain ⟨b8, off9, k14, hA15, hu16, hc17⟩ := (hs5).at (by decide) hx13 (h.m.snOK (i := 0) rfl)
    obtain ⟨k18, k19, rfl, ⟨rfl, hr20⟩, ⟨k21, k22, rfl, ⟨rfl, hr23⟩, ⟨rfl, hr24⟩⟩⟩ := hu16
    refine s_x h rfl rfl (by decide) (x_iaddrE h.k rfl Try.underlying81 sz_api_Term hA15 rfl rfl hi11 hm12) (fun a h => ?_)
    refine s_x h rfl rfl (by decide) (x_ldR h.k rfl ag_api_Term rfl ([.int .i64 x6.1, .int .i64 x6.2.1, .int .i64 x6.2.2]) rfl (hc17 _ (h.m.snOK (i := 0) rfl))) (fun a h => ?_)
    refine s_alloc h rfl rfl rfl (by decide) zi_api_Term rfl (fun a w g25 h => ?_)
    refine s_stW h rfl rfl rfl ag_api_Term rfl (es := [.int .i64 x6.1, .int .i64 x6.2.1, .int .i64 x6.2.2]) rfl rfl (by simp [Value.oneCell']) 0 rfl rfl (fun a w h => ?_)
    refine l_end ?_
    refine wp_seq ?_
    refine c_rs ?_ -- region 2
    refine s_x h rfl rfl (by decide) (x_faddr h.k rfl Try.underlying89 rfl sz_int rfl) (fun a h => ?_)
    refine s_x h rfl rfl (by decide) (x_ld h.k rfl Try.underlying3 rfl rfl ((h.m.cell (i := 0) rfl 0).trans rfl)) (fun a h => ?_)
    refine s_x h rfl rfl (by decide) (x_bin h.k rfl rfl rfl ib_eql) (fun a h => ?_)
    refine l_end ?_
    refine c_cond h rfl (fun hb => ?_) (fun hb => ?_)
    · rw [if_pos (of_decide_eq_true hb)] at hf
      refine c_rs ?_ -- region 3
      refine s_assign h rfl _ rfl rfl (by decide) rfl (fun a h => ?_)
      refine l_end ?_
      refine wp_ret ?_
      refine e_thenR ?_
      obtain rfl := Option.some.inj hf
      exact r_ret1 h rfl (rv_tmp h rfl) ⟨_, [], _, rfl, ⟨rfl, rfl, (show r64 0 from ⟨by decide, by decide⟩), trivial⟩, rfl, (Up.refl _ _ _), (h.m.pick [1] _ (by decide) rfl)⟩
    · rw [if_neg (of_decide_eq_false hb)] at hf
      refine wp_skip ?_
      refine e_thenN ?_
      refine c_rs ?_ -- region 4
      refine s_move h rfl _ rfl rfl (by decide) rfl (fun a h => ?_)
      refine s_x h rfl rfl (by decide) (x_faddr h.k rfl Try.underlying89 rfl sz_int rfl) (fun a h => ?_)
      refine s_x h rfl rfl (by decide) (x_ld h.k rfl Try.underlying3 rfl rfl ((h.m.cell (i := 0) rfl 1).trans rfl)) (fun a h => ?_)
      obtain ⟨x26, h27, hf⟩ := bsome hf
      have hX := ih (S0 := snapAll _) ga0 a0 (hpa0.mono (h.m.leAll (i := 1) rfl)) x6.2.1 hr23 _ h27 _ h.startAll
      refine q_callX hX h rfl rfl rfl (by decide) Try.func72 rfl rfl rfl (fun a w v L1 S1 hR hb1 h => ?_)
      obtain ⟨rfl, rfl, hr29, _⟩ := hR
      refine s_assign h rfl _ rfl rfl (by decide) rfl (fun a h => ?_)
      refine l_end ?_
      obtain ⟨o30, hc31, hf⟩ := bsome hf
      refine c_cut (fun a w => ∃ (x32 : Int), x32 = o30 ∧ r64 x32 ∧ St 38 w0 (ownL ([] ++ [.sn S0])) [(6, .int .i64 x32)] [.sn S0] a w) ?_ ?_
      · refine c_rs ?_ -- region 5
        refine s_x h rfl rfl (by decide) (x_faddr h.k rfl Try.underlying89 rfl sz_int rfl) (fun a h => ?_)
        refine s_x h rfl rfl (by decide) (x_ld h.k rfl Try.underlying3 rfl rfl ((h.m.cell (i := 0) rfl 0).trans rfl)) (fun a h => ?_)
        refine s_x h rfl rfl (by decide) (x_bin h.k rfl rfl rfl ib_eql) (fun a h => ?_)
        refine s_move h rfl _ rfl rfl (by decide) rfl (fun a h => ?_)
        obtain ⟨z35, hz34, hc31⟩ := bsome hc31
        refine q_grp h 7 (t := 24) 31 z35 rfl (fun hB3 => ?_) (fun hB3 => ?_) (fun a w h => ?_)
        · rw [if_pos (of_decide_eq_true hB3)] at hz34
          refine g_yes h rfl rfl rfl rfl hB3 ?_
          refine s_move h rfl _ rfl rfl (by decide) rfl (fun a h => ?_)
          refine g_yes h rfl rfl rfl rfl hB3 ?_
          refine s_x h rfl rfl (by decide) (x_faddr h.k rfl Try.underlying89 rfl sz_int rfl) (fun a h => ?_)
          refine g_yes h rfl rfl rfl rfl hB3 ?_
          refine s_x h rfl rfl (by decide) (x_ld h.k rfl Try.underlying3 rfl rfl ((h.m.cell (i := 0) rfl 2).trans rfl)) (fun a h => ?_)
          refine g_yes h rfl rfl rfl rfl hB3 ?_
          obtain ⟨x37, h38, hz34⟩ := bsome hz34
          have hX := ih (S0 := snapAll _) ga0 a0 (hpa0.mono (h.m.leAll (i := 1) rfl)) x6.2.2 hr24 _ h38 _ h.startAll
          refine q_callX hX h rfl rfl rfl (by decide) Try.func72 rfl rfl rfl (fun a w v L1 S1 hR hb1 h => ?_)
          obtain ⟨rfl, rfl, hr40, _⟩ := hR
          refine g_yes h rfl rfl rfl rfl hB3 ?_
          refine s_move h rfl _ rfl rfl (by decide) rfl (fun a h => ?_)
          refine g_yes h rfl rfl rfl rfl hB3 ?_
          refine s_x h rfl rfl (by decide) (x_bin h.k rfl rfl rfl ib_gtr) (fun a h => ?_)
          refine s_x h rfl rfl (by decide) (x_pick (u' := undef) h.k rfl rfl (fun _ => rfl) (fun hh => absurd (hB3.symm.trans hh) (by decide))) (fun a h => ?_)
          exact (h.mid 6 rfl).val (by rw [Option.some.inj hz34])
        · refine g_no h rfl rfl rfl rfl hB3 rfl (by decide) (fun a h => ?_)
          refine g_no h rfl rfl rfl rfl hB3 rfl (by decide) (fun a h => ?_)
          refine g_no h rfl rfl rfl rfl hB3 rfl (by decide) (fun a h => ?_)
          refine g_no h rfl rfl rfl rfl hB3 rfl (by decide) (fun a h => ?_)
          refine g_no h rfl rfl rfl rfl hB3 rfl (by decide) (fun a h => ?_)
          refine g_no h rfl rfl rfl rfl hB3 rfl (by decide) (fun a h => ?_)
          rw [if_neg (of_decide_eq_false hB3)] at hz34
          refine s_x h rfl rfl (by decide) (x_pick (u' := undef) h.k rfl rfl (fun hh => absurd (hB3.symm.trans hh) (by decide)) (fun _ => rfl)) (fun a h => ?_)
          exact (h.mid 6 rfl).val (by rw [Option.some.inj hz34])
        refine l_end ?_
        refine c_cond h rfl (fun hb => ?_) (fun hb => ?_)
        · rw [if_pos hb] at hc31
          refine c_r ?_ -- region 6
          refine s_move h rfl _ rfl rfl (by decide) rfl (fun a h => ?_)
          refine s_x h rfl rfl (by decide) (x_faddr h.k rfl Try.underlying89 rfl sz_int rfl) (fun a h => ?_)
          refine s_x h rfl rfl (by decide) (x_ld h.k rfl Try.underlying3 rfl rfl ((h.m.cell (i := 0) rfl 2).trans rfl)) (fun a h => ?_)
          obtain ⟨x41, h42, hc31⟩ := bsome hc31
          have hX := ih (S0 := snapAll _) ga0 a0 (hpa0.mono (h.m.leAll (i := 1) rfl)) x6.2.2 hr24 _ h42 _ h.startAll
          refine q_callX hX h rfl rfl rfl (by decide) Try.func72 rfl rfl rfl (fun a w v L1 S1 hR hb1 h => ?_)
          obtain ⟨rfl, rfl, hr44, _⟩ := hR
          refine s_assign h rfl _ rfl rfl (by decide) rfl (fun a h => ?_)
          refine l_nil ?_
          refine e_thenN ?_
          have h := h.pick [1] (by decide) rfl
          exact ⟨x41, (Option.some.inj hc31), hr44, h.has (by exact ⟨rfl, trivial⟩)⟩
        · rw [if_neg (by rw [hb]; decide)] at hc31
          refine wp_skip ?_
          refine e_thenN ?_
          have h := h.pick [1] (by decide) rfl
          exact ⟨x26, (Option.some.inj hc31), hr29, h.has (by exact ⟨rfl, trivial⟩)⟩
      · rintro a w ⟨x32, rfl, hr33, h⟩
        refine c_rs ?_ -- region 7
        refine s_move h rfl _ rfl rfl (by decide) rfl (fun a h => ?_)
        refine s_x h rfl rfl (by decide) (x_bin h.k rfl rfl rfl (ib_add rfl)) (fun a h => ?_)
        refine s_assign h rfl _ rfl rfl (by decide) rfl (fun a h => ?_)
        refine l_end ?_
        refine wp_ret ?_
        obtain rfl := Option.some.inj hf
        exact r_ret1 h rfl (rv_tmp h rfl) ⟨_, [], _, rfl, ⟨rfl, rfl, (w64_r _), trivial⟩, rfl, (Up.refl _ _ _), h.m⟩
def chatelainelaw36_awake (Fu : Nat) : Option Bool :=
  (term_New Fu).bind fun x1 => (term_Store_Put Fu (x1.1, x1.2.1, x1.2.2) (1, 1, 0)).bind fun x20 => (term_Store_Put Fu (x20.2.2.1, x20.2.2.2.1, x20.2.2.2.2) (1, 1, 0)).bind fun x40 => (if ((((decide (x20.2.1 = 0)) && (decide (x40.2.1 = 0))) && (decide (x20.1 = 0))) && (decide (x40.1 = 0))) = true then (term_Store_Len Fu (x40.2.2.1, x40.2.2.2.1, x40.2.2.2.2)).bind fun x69 => some (decide (x69 = 1)) else some false).bind fun z67 => some z67
set_option maxRecDepth 100000 in
set_option maxHeartbeats 2000000 in
theorem chatelainelaw36_awake_ok (Fu : Nat) {S0 : Snap}  (r : Bool) (hf : chatelainelaw36_awake Fu = some r) (w0 : World) (hm : Mem w0 (ownL ([] ++ [.sn S0])) ([] ++ [.sn S0]) w0) :
    Calls Try.prog 62 #[] w0 (Ret w0 S0 [] (fun v L1 S1 => v = .bool r ∧ L1 = [] ∧ True)) := by
  unfold chatelainelaw36_awake at hf
  refine c_enterM Try.func62 rfl 38 rfl (by simp) _ hm _ rfl (fun a h => ?_)
  refine c_rs ?_ -- region 0
  refine s_assign h rfl _ rfl rfl (by decide) rfl (fun a h => ?_)
  refine l_end ?_
  refine c_rs ?_ -- region 1
  obtain ⟨x1, h2, hf⟩ := bsome hf
  have hX := term_New_ok Fu (S0 := S0)  _ h2 _ (h.sub (Ls := []))
  refine q_callY (Ls := []) hX h (Up.refl _ _ _) rfl rfl rfl (by decide) Try.func63 rfl rfl rfl (fun a w v L1 S4 hR le6 up5 h => ?_)
  obtain ⟨g7, A8, c9, cs10, g12, es13, cl14, g16, es17, cl18, rfl, rfl, hq11, hm15, hm19, _⟩ := hR
  refine s_assign h rfl _ rfl rfl (by decide) rfl (fun a h => ?_)
  refine l_end ?_
  refine c_rs ?_ -- region 2
  refine s_move h rfl _ rfl rfl (by decide) rfl (fun a h => ?_)
  refine s_x h rfl rfl (by decide) (x_build h.k rfl [(0, .int .i64 1), (1, .int .i64 1)] rfl ([.int .i64 1, .int .i64 1, .int .i64 0]) (by kernel_rfl)) (fun a h => ?_)
  obtain ⟨x20, h21, hf⟩ := bsome hf
  have hX := term_Store_Put_ok Fu (S0 := S4) (x1.1, x1.2.1, x1.2.2) g7 A8 c9 cs10 g12 es13 cl14 g16 es17 cl18 hq11 hm15 hm19 ([.int .i64 1, .int .i64 1, .int .i64 0]) (1, 1, 0) (⟨[.int .i64 1], [.int .i64 1, .int .i64 0], rfl, ⟨rfl, (show r64 1 from ⟨by decide, by decide⟩)⟩, ⟨[.int .i64 1], [.int .i64 0], rfl, ⟨rfl, (show r64 1 from ⟨by decide, by decide⟩)⟩, ⟨rfl, (show r64 0 from ⟨by decide, by decide⟩)⟩⟩⟩) _ h21 _ (h.sub (Ls := [.box g7 138 ([.slice A8 x1.1.length c9, .map (some g12), .map (some g16)]), .row (.slice A8 x1.1.length c9) 89 3 x1.1.length cs10, .obj g12 (.map es13 cl14), .obj g16 (.map es17 cl18)]))
  refine q_callY (Ls := [.box g7 138 ([.slice A8 x1.1.length c9, .map (some g12), .map (some g16)]), .row (.slice A8 x1.1.length c9) 89 3 x1.1.length cs10, .obj g12 (.map es13 cl14), .obj g16 (.map es17 cl18)]) hX h up5 rfl rfl rfl (by decide) Try.func66 rfl rfl rfl (fun a w v L1 S23 hR le25 up24 h => ?_)
  obtain ⟨A28, c29, cs30, g32, es33, cl34, g36, es37, cl38, rfl, rfl, hr26, hr27, hq31, hm35, hm39, _⟩ := hR
  refine s_move h rfl _ rfl rfl (by decide) rfl (fun a h => ?_)
  refine s_x h rfl rfl (by decide) (x_ext h.k rfl rfl rfl) (fun a h => ?_)
  refine s_x h rfl rfl (by decide) (x_ext h.k rfl rfl rfl) (fun a h => ?_)
  refine s_assign h rfl _ rfl rfl (by decide) rfl (fun a h => ?_)
  refine s_assign h rfl _ rfl rfl (by decide) rfl (fun a h => ?_)
  refine l_end ?_
  refine c_rs ?_ -- region 3
  refine s_move h rfl _ rfl rfl (by decide) rfl (fun a h => ?_)
  refine s_x h rfl rfl (by decide) (x_build h.k rfl [(0, .int .i64 1), (1, .int .i64 1)] rfl ([.int .i64 1, .int .i64 1, .int .i64 0]) (by kernel_rfl)) (fun a h => ?_)
  obtain ⟨x40, h41, hf⟩ := bsome hf
  have hX := term_Store_Put_ok Fu (S0 := S23) (x20.2.2.1, x20.2.2.2.1, x20.2.2.2.2) g7 A28 c29 cs30 g32 es33 cl34 g36 es37 cl38 hq31 hm35 hm39 ([.int .i64 1, .int .i64 1, .int .i64 0]) (1, 1, 0) (⟨[.int .i64 1], [.int .i64 1, .int .i64 0], rfl, ⟨rfl, (show r64 1 from ⟨by decide, by decide⟩)⟩, ⟨[.int .i64 1], [.int .i64 0], rfl, ⟨rfl, (show r64 1 from ⟨by decide, by decide⟩)⟩, ⟨rfl, (show r64 0 from ⟨by decide, by decide⟩)⟩⟩⟩) _ h41 _ (h.sub (Ls := [.box g7 138 ([.slice A28 x20.2.2.1.length c29, .map (some g32), .map (some g36)]), .row (.slice A28 x20.2.2.1.length c29) 89 3 x20.2.2.1.length cs30, .obj g32 (.map es33 cl34), .obj g36 (.map es37 cl38)]))
  refine q_callY (Ls := [.box g7 138 ([.slice A28 x20.2.2.1.length c29, .map (some g32), .map (some g36)]), .row (.slice A28 x20.2.2.1.length c29) 89 3 x20.2.2.1.length cs30, .obj g32 (.map es33 cl34), .obj g36 (.map es37 cl38)]) hX h up24 rfl rfl rfl (by decide) Try.func66 rfl rfl rfl (fun a w v L1 S43 hR le45 up44 h => ?_)
  obtain ⟨A48, c49, cs50, g52, es53, cl54, g56, es57, cl58, rfl, rfl, hr46, hr47, hq51, hm55, hm59, _⟩ := hR
  refine s_move h rfl _ rfl rfl (by decide) rfl (fun a h => ?_)
  refine s_x h rfl rfl (by decide) (x_ext h.k rfl rfl rfl) (fun a h => ?_)
  refine s_x h rfl rfl (by decide) (x_ext h.k rfl rfl rfl) (fun a h => ?_)
  refine s_assign h rfl _ rfl rfl (by decide) rfl (fun a h => ?_)
  refine s_assign h rfl _ rfl rfl (by decide) rfl (fun a h => ?_)
  refine l_end ?_
  refine c_rs ?_ -- region 4
  refine s_move h rfl _ rfl rfl (by decide) rfl (fun a h => ?_)
  refine s_x h rfl rfl (by decide) (x_bin h.k rfl rfl rfl ib_eql) (fun a h => ?_)
  refine s_move h rfl _ rfl rfl (by decide) rfl (fun a h => ?_)
  refine q_grp h 3 (t := 21) 24 ((decide (x20.2.1 = 0)) && (decide (x40.2.1 = 0))) rfl (fun hB2 => ?_) (fun hB2 => ?_) (fun a w h => ?_)
  · refine g_yes h rfl rfl rfl rfl hB2 ?_
    refine s_move h rfl _ rfl rfl (by decide) rfl (fun a h => ?_)
    refine g_yes h rfl rfl rfl rfl hB2 ?_
    refine s_x h rfl rfl (by decide) (x_bin h.k rfl rfl rfl ib_eql) (fun a h => ?_)
    refine s_x h rfl rfl (by decide) (x_pick (u' := undef) h.k rfl rfl (fun _ => rfl) (fun hh => absurd (hB2.symm.trans hh) (by decide))) (fun a h => ?_)
    exact (h.mid 2 rfl).val (by first | rfl | (rw [hB2]; first | rfl | simp))
  · refine g_no h rfl rfl rfl rfl hB2 rfl (by decide) (fun a h => ?_)
    refine g_no h rfl rfl rfl rfl hB2 rfl (by decide) (fun a h => ?_)
    refine s_x h rfl rfl (by decide) (x_pick (u' := undef) h.k rfl rfl (fun hh => absurd (hB2.symm.trans hh) (by decide)) (fun _ => rfl)) (fun a h => ?_)
    exact (h.mid 2 rfl).val (by first | rfl | (rw [hB2]; first | rfl | simp))
  refine s_move h rfl _ rfl rfl (by decide) rfl (fun a h => ?_)
  refine q_grp h 3 (t := 25) 28 (((decide (x20.2.1 = 0)) && (decide (x40.2.1 = 0))) && (decide (x20.1 = 0))) rfl (fun hB6 => ?_) (fun hB6 => ?_) (fun a w h => ?_)
  · refine g_yes h rfl rfl rfl rfl hB6 ?_
    refine s_move h rfl _ rfl rfl (by decide) rfl (fun a h => ?_)
    refine g_yes h rfl rfl rfl rfl hB6 ?_
    refine s_x h rfl rfl (by decide) (x_bin h.k rfl rfl rfl ib_eql) (fun a h => ?_)
    refine s_x h rfl rfl (by decide) (x_pick (u' := undef) h.k rfl rfl (fun _ => rfl) (fun hh => absurd (hB6.symm.trans hh) (by decide))) (fun a h => ?_)
    exact (h.mid 2 rfl).val (by first | rfl | (rw [hB6]; first | rfl | simp))
  · refine g_no h rfl rfl rfl rfl hB6 rfl (by decide) (fun a h => ?_)
    refine g_no h rfl rfl rfl rfl hB6 rfl (by decide) (fun a h => ?_)
    refine s_x h rfl rfl (by decide) (x_pick (u' := undef) h.k rfl rfl (fun hh => absurd (hB6.symm.trans hh) (by decide)) (fun _ => rfl)) (fun a h => ?_)
    exact (h.mid 2 rfl).val (by first | rfl | (rw [hB6]; first | rfl | simp))
  refine s_move h rfl _ rfl rfl (by decide) rfl (fun a h => ?_)
  refine q_grp h 3 (t := 29) 32 ((((decide (x20.2.1 = 0)) && (decide (x40.2.1 = 0))) && (decide (x20.1 = 0))) && (decide (x40.1 = 0))) rfl (fun hB10 => ?_) (fun hB10 => ?_) (fun a w h => ?_)
  · refine g_yes h rfl rfl rfl rfl hB10 ?_
    refine s_move h rfl _ rfl rfl (by decide) rfl (fun a h => ?_)
    refine g_yes h rfl rfl rfl rfl hB10 ?_
    refine s_x h rfl rfl (by decide) (x_bin h.k rfl rfl rfl ib_eql) (fun a h => ?_)
    refine s_x h rfl rfl (by decide) (x_pick (u' := undef) h.k rfl rfl (fun _ => rfl) (fun hh => absurd (hB10.symm.trans hh) (by decide))) (fun a h => ?_)
    exact (h.mid 2 rfl).val (by first | rfl | (rw [hB10]; first | rfl | simp))
  · refine g_no h rfl rfl rfl rfl hB10 rfl (by decide) (fun a h => ?_)
    refine g_no h rfl rfl rfl rfl hB10 rfl (by decide) (fun a h => ?_)
    refine s_x h rfl rfl (by decide) (x_pick (u' := undef) h.k rfl rfl (fun hh => absurd (hB10.symm.trans hh) (by decide)) (fun _ => rfl)) (fun a h => ?_)
    exact (h.mid 2 rfl).val (by first | rfl | (rw [hB10]; first | rfl | simp))
  refine s_move h rfl _ rfl rfl (by decide) rfl (fun a h => ?_)
  obtain ⟨z67, hz66, hf⟩ := bsome hf
  refine q_grp h 4 (t := 33) 37 z67 rfl (fun hB14 => ?_) (fun hB14 => ?_) (fun a w h => ?_)
  · rw [if_pos hB14] at hz66
    refine g_yes h rfl rfl rfl rfl hB14 ?_
    refine s_move h rfl _ rfl rfl (by decide) rfl (fun a h => ?_)
    refine g_yes h rfl rfl rfl rfl hB14 ?_
    obtain ⟨x69, h70, hz66⟩ := bsome hz66
    have hX := term_Store_Len_ok Fu (S0 := snapAll _) g7 (x40.2.2.1, x40.2.2.2.1, x40.2.2.2.2) ⟨[.slice A48 x40.2.2.1.length c49, .map (some g52), .map (some g56)], h.m.boxAll (i := 0) rfl, ⟨[.slice A48 x40.2.2.1.length c49], [.map (some g52), .map (some g56)], rfl, ⟨_, _, rfl, h.m.rowAll (i := 1) rfl (j := 4) rfl hq51⟩, ⟨[.map (some g52)], [.map (some g56)], rfl, ⟨_, rfl, h.m.mapAll (i := 2) rfl (j := 4) rfl hm55⟩, ⟨_, rfl, h.m.mapAll (i := 3) rfl (j := 4) rfl hm59⟩⟩⟩⟩ _ h70 _ h.startAll
    refine q_callX hX h rfl rfl rfl (by decide) Try.func68 rfl rfl rfl (fun a w v L1 S1 hR hb1 h => ?_)
    obtain ⟨rfl, rfl, hr72, _⟩ := hR
    refine g_yes h rfl rfl rfl rfl hB14 ?_
    refine s_x h rfl rfl (by decide) (x_bin h.k rfl rfl rfl ib_eql) (fun a h => ?_)
    refine s_x h rfl rfl (by decide) (x_pick (u' := undef) h.k rfl rfl (fun _ => rfl) (fun hh => absurd (hB14.symm.trans hh) (by decide))) (fun a h => ?_)
    exact (h.mid 3 rfl).val (by rw [Option.some.inj hz66])
  · refine g_no h rfl rfl rfl rfl hB14 rfl (by decide) (fun a h => ?_)
    refine g_no h rfl rfl rfl rfl hB14 rfl (by decide) (fun a h => ?_)
    refine g_no h rfl rfl rfl rfl hB14 rfl (by decide) (fun a h => ?_)
    rw [if_neg (by rw [hB14]; decide)] at hz66
    refine s_x h rfl rfl (by decide) (x_pick (u' := undef) h.k rfl rfl (fun hh => absurd (hB14.symm.trans hh) (by decide)) (fun _ => rfl)) (fun a h => ?_)
    exact (h.mid 3 rfl).val (by rw [Option.some.inj hz66])
  refine s_assign h rfl _ rfl rfl (by decide) rfl (fun a h => ?_)
  refine l_end ?_
  refine wp_ret ?_
  obtain rfl := Option.some.inj hf
  exact r_ret1 h rfl (rv_tmp h rfl) ⟨_, [], _, rfl, ⟨rfl, rfl, trivial⟩, rfl, up44, (h.m.pick [4] _ (by decide) rfl)⟩
def chatelainelaw36_TermPuts_l0 (Fu : Nat) (a0 : List (Bool × Int × (Int × Int × Int))) : Nat → Int → ((List (Int × Int × Int)) × (List ((Int × Int × Int) × Int)) × (List (Int × Int))) → ((List (Int × Int × Int))) → Option (Sum Bool (((List (Int × Int × Int)) × (List ((Int × Int × Int) × Int)) × (List (Int × Int))) × ((List (Int × Int × Int)))))
  | 0, _, _, _ => none
  | k + 1, x29, x31, x44 => if x29 < (a0.length : Int) then ((idx a0 x29).bind fun x73 => (if x73.1 = true then ((term_Store_Fresh Fu (x31.1, x31.2.1, x31.2.2) x73.2.1).bind fun x129 => (chatelaineref36_Store_Fresh Fu x44 x73.2.1).bind fun x149 => some (x129.1, x129.2.1, x149.1, x149.2.1, (x129.2.2.1, x129.2.2.2.1, x129.2.2.2.2), x149.2.2)) else ((term_Store_Put Fu (x31.1, x31.2.1, x31.2.2) x73.2.2).bind fun x161 => (chatelaineref36_Store_Put Fu x44 x73.2.2).bind fun x181 => some (x161.1, x161.2.1, x181.1, x181.2.1, (x161.2.2.1, x161.2.2.2.1, x161.2.2.2.2), x181.2.2))).bind fun (x103, x105, x107, x109, x111, x124) => (if ((decide (x103 ≠ x107)) || (decide (x105 ≠ x109))) = true then some true else (term_Store_Len Fu (x111.1, x111.2.1, x111.2.2)).bind fun x197 => some (decide (x197 ≠ (x124.length : Int)))).bind fun z195 => if z195 = true then (some (.inl false)) else (chatelainelaw36_TermPuts_l0 Fu a0 k (w64 (x29 + 1)) (x111.1, x111.2.1, x111.2.2) x124)) else (some (.inr ((x31.1, x31.2.1, x31.2.2), x44)))
def chatelainelaw36_TermPuts_l1 (Fu : Nat) (x52 : (List (Int × Int × Int)) × (List ((Int × Int × Int) × Int)) × (List (Int × Int))) (x65 : (List (Int × Int × Int))) : Nat → Int → Option (Sum Bool Unit)
  | 0, _ => none
  | k + 1, x205 => if x205 < (x65.length : Int) then ((ix x65.length x205).bind fun m209 => (x65[m209]?).bind fun x215 => (term_Store_Get Fu (x52.1, x52.2.1, x52.2.2) x205).bind fun x228 => (if x215.1 = 2 then (some ([x215.2.1])) else (some ([]))).bind fun x243 => (if x215.1 = 3 then (some ([x215.2.1, x215.2.2])) else (some x243)).bind fun x253 => if 14 < x205 then (some (.inr ())) else ((if ((!x228.2) || (!(decide (x228.1 = x215)))) = true then some true else (term_Store_Parts Fu (x52.1, x52.2.1, x52.2.2) x205).bind fun x265 => (chatelaineref01_Ints Fu x265 x253).bind fun x273 => some (!x273)).bind fun z263 => (if z263 = true then some true else (term_Store_Depth Fu (x52.1, x52.2.1, x52.2.2) x205).bind fun x279 => (chatelaineref36_Store_Depth Fu x65 x205).bind fun x283 => some (decide (x279 ≠ x283))).bind fun z277 => if z277 = true then (some (.inl false)) else (chatelainelaw36_TermPuts_l1 Fu x52 x65 k (w64 (x205 + 1))))) else (some (.inr ()))
def chatelainelaw36_TermPuts (Fu : Nat) (a0 : List (Bool × Int × (Int × Int × Int))) : Option Bool :=
  (chatelainelaw36_awake Fu).bind fun x1 => if (!x1) = true then (some false) else (if 40 < (a0.length : Int) then (some true) else ((term_New Fu).bind fun x4 => (chatelainelaw36_TermPuts_l0 Fu a0 Fu 0 (x4.1, x4.2.1, x4.2.2) ([])).bind fun o => match o with | .inl r322 => some r322 | .inr (x52, x65) => (chatelainelaw36_TermPuts_l1 Fu x52 x65 Fu 0).bind fun o => match o with | .inl r321 => some r321 | .inr _ => (term_Store_Get Fu (x52.1, x52.2.1, x52.2.2) (x65.length : Int)).bind fun x288 => (if (!x288.2) = true then (term_Store_Parts Fu (x52.1, x52.2.1, x52.2.2) (x65.length : Int)).bind fun x305 => some (decide ((x305.length : Int) = 0)) else some false).bind fun z302 => (if z302 = true then (term_Store_Depth Fu (x52.1, x52.2.1, x52.2.2) (-1)).bind fun x317 => some (decide (x317 = 0)) else some false).bind fun z315 => some z315))
set_option maxRecDepth 100000 in
set_option maxHeartbeats 2000000 in
theorem chatelainelaw36_TermPuts_ok (Fu : Nat) {S0 : Snap} (Aa0 : Option Addr) (ca0 : Nat) (a0 : List (Bool × Int × (Int × Int × Int))) (hsa0 : slS (tyP tyB (tyP tyI (tyP tyI (tyP tyI tyI)))) S0 Aa0 ca0 a0) (r : Bool) (hf : chatelainelaw36_TermPuts Fu a0 = some r) (w0 : World) (hm : Mem w0 (ownL ([] ++ [.sn S0])) ([] ++ [.sn S0]) w0) :
    Calls Try.prog 13 #[.slice Aa0 a0.length ca0] w0 (Ret w0 S0 [] (fun v L1 S1 => v = .bool r ∧ L1 = [] ∧ True)) := by
  unfold chatelainelaw36_TermPuts at hf
  refine c_enterM Try.func13 rfl 166 rfl (by simp) _ hm _ rfl (fun a h => ?_)
  refine c_rs ?_ -- region 0
  refine s_assign h rfl _ rfl rfl (by decide) rfl (fun a h => ?_)
  refine l_end ?_
  refine wp_seq ?_
  refine c_rs ?_ -- region 1
  obtain ⟨x1, h2, hf⟩ := bsome hf
  have hX := chatelainelaw36_awake_ok Fu (S0 := snapAll _)  _ h2 _ h.startAll
  refine q_callX hX h rfl rfl rfl (by decide) Try.func62 rfl rfl rfl (fun a w v L1 S1 hR hb1 h => ?_)
  obtain ⟨rfl, rfl, _⟩ := hR
  refine s_x h rfl rfl (by decide) (x_not h.k rfl rfl) (fun a h => ?_)
  refine l_end ?_
  refine c_cond h rfl (fun hb => ?_) (fun hb => ?_)
  · rw [if_pos hb] at hf
    refine c_rs ?_ -- region 2
    refine s_assign h rfl _ rfl rfl (by decide) rfl (fun a h => ?_)
    refine l_end ?_
    refine wp_ret ?_
    refine e_thenR ?_
    obtain rfl := Option.some.inj hf
    exact r_ret1 h rfl (rv_tmp h rfl) ⟨_, [], _, rfl, ⟨rfl, rfl, trivial⟩, rfl, (Up.refl _ _ _), h.m⟩
  · rw [if_neg (by rw [hb]; decide)] at hf
    refine wp_skip ?_
    refine e_thenN ?_
    refine wp_seq ?_
    refine c_rs ?_ -- region 3
    refine s_move h rfl _ rfl rfl (by decide) rfl (fun a h => ?_)
    refine s_x h rfl rfl (by decide) (x_len h.k rfl Try.underlying96 rfl) (fun a h => ?_)
    refine s_x h rfl rfl (by decide) (x_bin h.k rfl rfl rfl ib_gtr) (fun a h => ?_)
    refine l_end ?_
    refine c_cond h rfl (fun hb => ?_) (fun hb => ?_)
    · rw [if_pos (of_decide_eq_true hb)] at hf
      refine c_rs ?_ -- region 4
      refine s_assign h rfl _ rfl rfl (by decide) rfl (fun a h => ?_)
      refine l_end ?_
      refine wp_ret ?_
      refine e_thenR ?_
      obtain rfl := Option.some.inj hf
      exact r_ret1 h rfl (rv_tmp h rfl) ⟨_, [], _, rfl, ⟨rfl, rfl, trivial⟩, rfl, (Up.refl _ _ _), h.m⟩
    · rw [if_neg (of_decide_eq_false hb)] at hf
      refine wp_skip ?_
      refine e_thenN ?_
      refine c_rs ?_ -- region 5
      obtain ⟨x4, h5, hf⟩ := bsome hf
      have hX := term_New_ok Fu (S0 := S0)  _ h5 _ (h.sub (Ls := []))
      refine q_callY (Ls := []) hX h (Up.refl _ _ _) rfl rfl rfl (by decide) Try.func63 rfl rfl rfl (fun a w v L1 S7 hR le9 up8 h => ?_)
      obtain ⟨g10, A11, c12, cs13, g15, es16, cl17, g19, es20, cl21, rfl, rfl, hq14, hm18, hm22, _⟩ := hR
      refine s_x h rfl rfl (by decide) (x_build h.k rfl [] rfl ([.slice none 0 0]) (by kernel_rfl)) (fun a h => ?_)
      refine s_box h rfl rfl rfl (by decide) rfl (cs := [.slice none 0 0]) (by rfl) (fun a w g23 h => ?_)
      refine s_assign h rfl _ rfl rfl (by decide) rfl (fun a h => ?_)
      refine s_assign h rfl _ rfl rfl (by decide) rfl (fun a h => ?_)
      refine l_end ?_
      refine wp_seq ?_
      refine c_rs ?_ -- region 6
      refine s_move h rfl _ rfl rfl (by decide) rfl (fun a h => ?_)
      refine s_x h rfl rfl (by decide) (x_len h.k rfl Try.underlying96 rfl) (fun a h => ?_)
      refine s_move h rfl _ rfl rfl (by decide) rfl (fun a h => ?_)
      refine l_end ?_
      obtain ⟨o24, hl25, hf⟩ := bsome hf
      refine c_fin (fun a w => ∃ (S49 : Snap), ∃ (x52 : (List (Int × Int × Int)) × (List ((Int × Int × Int) × Int)) × (List (Int × Int))), ∃ (A53 : Option Addr), ∃ (c54 : Nat), ∃ (cs55 : List Value), ∃ (g57 : Nat), ∃ (es58 : Array MapEntry), ∃ (cl59 : Nat), ∃ (g61 : Nat), ∃ (es62 : Array MapEntry), ∃ (cl63 : Nat), ∃ (x65 : (List (Int × Int × Int))), ∃ (A66 : Option Addr), ∃ (c67 : Nat), ∃ (cs68 : List Value), (.inr (x52, x65)) = o24 ∧ Snap.le S7 S49 ∧ Up (ownL ([] ++ [.sn S0])) w0 S0 S49 ∧ reps (tyP tyI (tyP tyI tyI)) S49 cs55 x52.1 ∧ mpS keyT tyI false S49 es58 cl59 x52.2.1 ∧ mpS keyI tyI false S49 es62 cl63 x52.2.2 ∧ reps (tyP tyI (tyP tyI tyI)) S49 cs68 x65 ∧ St 166 w0 (ownL ([] ++ [.sn S0])) [(3, .pointer (some ⟨g10, 0, none⟩)), (4, .pointer (some ⟨g23, 0, none⟩))] [.box g10 138 ([.slice A53 x52.1.length c54, .map (some g57), .map (some g61)]), .row (.slice A53 x52.1.length c54) 89 3 x52.1.length cs55, .obj g57 (.map es58 cl59), .obj g61 (.map es62 cl63), .box g23 101 ([.slice A66 x65.length c67]), .row (.slice A66 x65.length c67) 89 3 x65.length cs68, .sn S49] a w) ?_ ?_
      · refine wp_block ?_
        have h := h.mem (h.m.nilrow 89 3)
        have h := h.pick [2, 3, 4, 5, 1, 0, 6] (by decide) rfl
        refine c_loop (fun m71 a w => ∃ (S26 : Snap), ∃ (x29 : Int), ∃ (x31 : (List (Int × Int × Int)) × (List ((Int × Int × Int) × Int)) × (List (Int × Int))), ∃ (A32 : Option Addr), ∃ (c33 : Nat), ∃ (cs34 : List Value), ∃ (g36 : Nat), ∃ (es37 : Array MapEntry), ∃ (cl38 : Nat), ∃ (g40 : Nat), ∃ (es41 : Array MapEntry), ∃ (cl42 : Nat), ∃ (x44 : (List (Int × Int × Int))), ∃ (A45 : Option Addr), ∃ (c46 : Nat), ∃ (cs47 : List Value), chatelainelaw36_TermPuts_l0 Fu a0 m71 x29 x31 x44 = some o24 ∧ Snap.le S7 S26 ∧ Up (ownL ([] ++ [.sn S0])) w0 S0 S26 ∧ r64 x29 ∧ reps (tyP tyI (tyP tyI tyI)) S26 cs34 x31.1 ∧ mpS keyT tyI false S26 es37 cl38 x31.2.1 ∧ mpS keyI tyI false S26 es41 cl42 x31.2.2 ∧ reps (tyP tyI (tyP tyI tyI)) S26 cs47 x44 ∧ St 166 w0 (ownL ([] ++ [.sn S0])) [(3, .pointer (some ⟨g10, 0, none⟩)), (4, .pointer (some ⟨g23, 0, none⟩)), (26, .slice Aa0 a0.length ca0), (27, .int .i64 (a0.length : Int)), (28, .int .i64 x29)] [.box g10 138 ([.slice A32 x31.1.length c33, .map (some g36), .map (some g40)]), .row (.slice A32 x31.1.length c33) 89 3 x31.1.length cs34, .obj g36 (.map es37 cl38), .obj g40 (.map es41 cl42), .box g23 101 ([.slice A45 x44.length c46]), .row (.slice A45 x44.length c46) 89 3 x44.length cs47, .sn S26] a w) Fu ⟨S7, 0, (x4.1, x4.2.1, x4.2.2), A11, c12, cs13, g15, es16, cl17, g19, es20, cl21, [], none, 0, [], hl25, (Snap.le.refl _), up8, (show r64 0 from ⟨by decide, by decide⟩), hq14, hm18, hm22, (show reps (tyP tyI (tyP tyI tyI)) S7 [] [] from rfl), h.has (by exact ⟨rfl, rfl, rfl, rfl, rfl, trivial⟩)⟩ (fun m71 a w hI => ?_)
        obtain ⟨S26, x29, x31, A32, c33, cs34, g36, es37, cl38, g40, es41, cl42, x44, A45, c46, cs47, hl70, le27, up28, hr30, hq35, hm39, hm43, hq48, h⟩ := hI
        obtain _ | m71 := m71
        · rw [chatelainelaw36_TermPuts_l0] at hl70; cases hl70
        rw [chatelainelaw36_TermPuts_l0] at hl70
        refine c_rs ?_ -- region 7
        refine s_x h rfl rfl (by decide) (x_bin h.k rfl rfl rfl ib_lss) (fun a h => ?_)
        refine l_end ?_
        refine c_cs h rfl (fun hb => ?_) (fun hb => ?_)
        · rw [if_pos (of_decide_eq_true hb)] at hl70
          refine wp_skip ?_
          refine e_thenN ?_
          refine wp_seq ?_
          refine wp_block ?_
          refine c_rs ?_ -- region 8
          obtain ⟨x73, h77, hl70⟩ := bsome hl70
          obtain ⟨m74, hi78, hm79, hx80⟩ := idx_some h77
          obtain ⟨b75, off76, k81, hA82, hu83, hc84⟩ := ((hsa0.mono (le9.trans le27))).at (by decide) hx80 (h.m.snOK (i := 6) rfl)
          obtain ⟨k85, k86, rfl, rfl, ⟨k87, k88, rfl, ⟨rfl, hr89⟩, ⟨k90, k91, rfl, ⟨rfl, hr92⟩, ⟨k93, k94, rfl, ⟨rfl, hr95⟩, ⟨rfl, hr96⟩⟩⟩⟩⟩ := hu83
          refine s_x h rfl rfl (by decide) (x_iaddrE h.k rfl Try.underlying96 sz_chatelainelaw36_Do hA82 rfl rfl hi78 hm79) (fun a h => ?_)
          refine s_x h rfl rfl (by decide) (x_ldR h.k rfl ag_chatelainelaw36_Do rfl ([.bool x73.1, .int .i64 x73.2.1, .int .i64 x73.2.2.1, .int .i64 x73.2.2.2.1, .int .i64 x73.2.2.2.2]) rfl (hc84 _ (h.m.snOK (i := 6) rfl))) (fun a h => ?_)
          refine s_alloc h rfl rfl rfl (by decide) zi_chatelainelaw36_Do rfl (fun a w g97 h => ?_)
          refine s_stW h rfl rfl rfl ag_chatelainelaw36_Do rfl (es := [.bool x73.1, .int .i64 x73.2.1, .int .i64 x73.2.2.1, .int .i64 x73.2.2.2.1, .int .i64 x73.2.2.2.2]) rfl rfl (by simp [Value.oneCell']) 0 rfl rfl (fun a w h => ?_)
          refine l_end ?_
          refine c_rs ?_ -- region 9
          refine s_assign h rfl _ rfl rfl (by decide) rfl (fun a h => ?_)
          refine s_assign h rfl _ rfl rfl (by decide) rfl (fun a h => ?_)
          refine l_end ?_
          refine c_rs ?_ -- region 10
          refine s_assign h rfl _ rfl rfl (by decide) rfl (fun a h => ?_)
          refine s_assign h rfl _ rfl rfl (by decide) rfl (fun a h => ?_)
          refine l_end ?_
          obtain ⟨o98, hc99, hl70⟩ := bsome hl70
          refine c_cut (fun a w => ∃ (S100 : Snap), ∃ (x103 : Int), ∃ (x105 : Int), ∃ (x107 : Int), ∃ (x109 : Int), ∃ (x111 : (List (Int × Int × Int)) × (List ((Int × Int × Int) × Int)) × (List (Int × Int))), ∃ (A112 : Option Addr), ∃ (c113 : Nat), ∃ (cs114 : List Value), ∃ (g116 : Nat), ∃ (es117 : Array MapEntry), ∃ (cl118 : Nat), ∃ (g120 : Nat), ∃ (es121 : Array MapEntry), ∃ (cl122 : Nat), ∃ (x124 : (List (Int × Int × Int))), ∃ (A125 : Option Addr), ∃ (c126 : Nat), ∃ (cs127 : List Value), (x103, x105, x107, x109, x111, x124) = o98 ∧ Snap.le S26 S100 ∧ Up (ownL ([] ++ [.sn S0])) w0 S0 S100 ∧ r64 x103 ∧ r64 x105 ∧ r64 x107 ∧ r64 x109 ∧ reps (tyP tyI (tyP tyI tyI)) S100 cs114 x111.1 ∧ mpS keyT tyI false S100 es117 cl118 x111.2.1 ∧ mpS keyI tyI false S100 es121 cl122 x111.2.2 ∧ reps (tyP tyI (tyP tyI tyI)) S100 cs127 x124 ∧ St 166 w0 (ownL ([] ++ [.sn S0])) [(3, .pointer (some ⟨g10, 0, none⟩)), (4, .pointer (some ⟨g23, 0, none⟩)), (7, .int .i64 x103), (8, .int .i64 x105), (9, .int .i64 x107), (10, .int .i64 x109), (26, .slice Aa0 a0.length ca0), (27, .int .i64 (a0.length : Int)), (28, .int .i64 x29)] [.box g10 138 ([.slice A112 x111.1.length c113, .map (some g116), .map (some g120)]), .row (.slice A112 x111.1.length c113) 89 3 x111.1.length cs114, .obj g116 (.map es117 cl118), .obj g120 (.map es121 cl122), .box g23 101 ([.slice A125 x124.length c126]), .row (.slice A125 x124.length c126) 89 3 x124.length cs127, .sn S100] a w) ?_ ?_
          · refine c_rs ?_ -- region 11
            refine s_x h rfl rfl (by decide) (x_faddr h.k rfl Try.underlying103 rfl sz_bool rfl) (fun a h => ?_)
            refine s_x h rfl rfl (by decide) (x_ld h.k rfl Try.underlying4 rfl rfl ((h.m.cell (i := 0) rfl 0).trans rfl)) (fun a h => ?_)
            refine l_end ?_
            refine c_cond h rfl (fun hb => ?_) (fun hb => ?_)
            · rw [if_pos hb] at hc99
              refine c_rs ?_ -- region 12
              refine s_move h rfl _ rfl rfl (by decide) rfl (fun a h => ?_)
              refine s_x h rfl rfl (by decide) (x_faddr h.k rfl Try.underlying103 rfl sz_int rfl) (fun a h => ?_)
              refine s_x h rfl rfl (by decide) (x_ld h.k rfl Try.underlying3 rfl rfl ((h.m.cell (i := 0) rfl 1).trans rfl)) (fun a h => ?_)
              obtain ⟨x129, h130, hc99⟩ := bsome hc99
              have h := h.pick [1, 2, 3, 4, 7, 0, 5, 6] (by decide) rfl
              have hX := term_Store_Fresh_ok Fu (S0 := S26) (x31.1, x31.2.1, x31.2.2) g10 A32 c33 cs34 g36 es37 cl38 g40 es41 cl42 hq35 hm39 hm43 x73.2.1 hr89 _ h130 _ (h.sub (Ls := [.box g10 138 ([.slice A32 x31.1.length c33, .map (some g36), .map (some g40)]), .row (.slice A32 x31.1.length c33) 89 3 x31.1.length cs34, .obj g36 (.map es37 cl38), .obj g40 (.map es41 cl42)]))
              refine q_callY (Ls := [.box g10 138 ([.slice A32 x31.1.length c33, .map (some g36), .map (some g40)]), .row (.slice A32 x31.1.length c33) 89 3 x31.1.length cs34, .obj g36 (.map es37 cl38), .obj g40 (.map es41 cl42)]) hX h up28 rfl rfl rfl (by decide) Try.func64 rfl rfl rfl (fun a w v L1 S132 hR le134 up133 h => ?_)
              obtain ⟨A137, c138, cs139, g141, es142, cl143, g145, es146, cl147, rfl, rfl, hr135, hr136, hq140, hm144, hm148, _⟩ := hR
              refine s_move h rfl _ rfl rfl (by decide) rfl (fun a h => ?_)
              refine s_x h rfl rfl (by decide) (x_ext h.k rfl rfl rfl) (fun a h => ?_)
              refine s_x h rfl rfl (by decide) (x_ext h.k rfl rfl rfl) (fun a h => ?_)
              refine s_assign h rfl _ rfl rfl (by decide) rfl (fun a h => ?_)
              refine s_assign h rfl _ rfl rfl (by decide) rfl (fun a h => ?_)
              refine l_end ?_
              refine c_r ?_ -- region 13
              refine s_move h rfl _ rfl rfl (by decide) rfl (fun a h => ?_)
              refine s_x h rfl rfl (by decide) (x_faddr h.k rfl Try.underlying103 rfl sz_int rfl) (fun a h => ?_)
              refine s_x h rfl rfl (by decide) (x_ld h.k rfl Try.underlying3 rfl rfl ((h.m.cell (i := 5) rfl 1).trans rfl)) (fun a h => ?_)
              obtain ⟨x149, h150, hc99⟩ := bsome hc99
              have h := h.pick [6, 7, 4, 0, 1, 2, 3, 5] (by decide) rfl
              have hX := chatelaineref36_Store_Fresh_ok Fu (S0 := S132) x44 g23 A45 c46 cs47 (hq48.mono le134) x73.2.1 hr89 _ h150 _ (h.sub (Ls := [.box g23 101 ([.slice A45 x44.length c46]), .row (.slice A45 x44.length c46) 89 3 x44.length cs47]))
              refine q_callY (Ls := [.box g23 101 ([.slice A45 x44.length c46]), .row (.slice A45 x44.length c46) 89 3 x44.length cs47]) hX h up133 rfl rfl rfl (by decide) Try.func65 rfl rfl rfl (fun a w v L1 S152 hR le154 up153 h => ?_)
              obtain ⟨A157, c158, cs159, rfl, rfl, hr155, hr156, hq160, _⟩ := hR
              refine s_move h rfl _ rfl rfl (by decide) rfl (fun a h => ?_)
              refine s_x h rfl rfl (by decide) (x_ext h.k rfl rfl rfl) (fun a h => ?_)
              refine s_x h rfl rfl (by decide) (x_ext h.k rfl rfl rfl) (fun a h => ?_)
              refine s_assign h rfl _ rfl rfl (by decide) rfl (fun a h => ?_)
              refine s_assign h rfl _ rfl rfl (by decide) rfl (fun a h => ?_)
              refine l_nil ?_
              refine e_thenN ?_
              have h := h.pick [3, 4, 5, 6, 0, 1, 2] (by decide) rfl
              exact ⟨S152, x129.1, x129.2.1, x149.1, x149.2.1, (x129.2.2.1, x129.2.2.2.1, x129.2.2.2.2), A137, c138, cs139, g141, es142, cl143, g145, es146, cl147, x149.2.2, A157, c158, cs159, (Option.some.inj hc99), (le134.trans le154), up153, hr135, hr136, hr155, hr156, (hq140.mono le154), (hm144.mono le154), (hm148.mono le154), hq160, h.has (by exact ⟨rfl, rfl, rfl, rfl, rfl, rfl, rfl, rfl, rfl, trivial⟩)⟩
            · rw [if_neg (by rw [hb]; decide)] at hc99
              refine c_rs ?_ -- region 14
              refine s_move h rfl _ rfl rfl (by decide) rfl (fun a h => ?_)
              refine s_x h rfl rfl (by decide) (x_faddr h.k rfl Try.underlying103 rfl sz_api_Term rfl) (fun a h => ?_)
              refine s_x h rfl rfl (by decide) (x_ldR h.k rfl ag_api_Term rfl ([.int .i64 x73.2.2.1, .int .i64 x73.2.2.2.1, .int .i64 x73.2.2.2.2]) rfl (h.m.range (i := 0) rfl 2 3)) (fun a h => ?_)
              obtain ⟨x161, h162, hc99⟩ := bsome hc99
              have h := h.pick [1, 2, 3, 4, 7, 0, 5, 6] (by decide) rfl
              have hX := term_Store_Put_ok Fu (S0 := S26) (x31.1, x31.2.1, x31.2.2) g10 A32 c33 cs34 g36 es37 cl38 g40 es41 cl42 hq35 hm39 hm43 ([.int .i64 x73.2.2.1, .int .i64 x73.2.2.2.1, .int .i64 x73.2.2.2.2]) x73.2.2 (⟨[.int .i64 x73.2.2.1], [.int .i64 x73.2.2.2.1, .int .i64 x73.2.2.2.2], rfl, ⟨rfl, hr92⟩, ⟨[.int .i64 x73.2.2.2.1], [.int .i64 x73.2.2.2.2], rfl, ⟨rfl, hr95⟩, ⟨rfl, hr96⟩⟩⟩) _ h162 _ (h.sub (Ls := [.box g10 138 ([.slice A32 x31.1.length c33, .map (some g36), .map (some g40)]), .row (.slice A32 x31.1.length c33) 89 3 x31.1.length cs34, .obj g36 (.map es37 cl38), .obj g40 (.map es41 cl42)]))
              refine q_callY (Ls := [.box g10 138 ([.slice A32 x31.1.length c33, .map (some g36), .map (some g40)]), .row (.slice A32 x31.1.length c33) 89 3 x31.1.length cs34, .obj g36 (.map es37 cl38), .obj g40 (.map es41 cl42)]) hX h up28 rfl rfl rfl (by decide) Try.func66 rfl rfl rfl (fun a w v L1 S164 hR le166 up165 h => ?_)
              obtain ⟨A169, c170, cs171, g173, es174, cl175, g177, es178, cl179, rfl, rfl, hr167, hr168, hq172, hm176, hm180, _⟩ := hR
              refine s_move h rfl _ rfl rfl (by decide) rfl (fun a h => ?_)
              refine s_x h rfl rfl (by decide) (x_ext h.k rfl rfl rfl) (fun a h => ?_)
              refine s_x h rfl rfl (by decide) (x_ext h.k rfl rfl rfl) (fun a h => ?_)
              refine s_assign h rfl _ rfl rfl (by decide) rfl (fun a h => ?_)
              refine s_assign h rfl _ rfl rfl (by decide) rfl (fun a h => ?_)
              refine l_end ?_
              refine c_r ?_ -- region 15
              refine s_move h rfl _ rfl rfl (by decide) rfl (fun a h => ?_)
              refine s_x h rfl rfl (by decide) (x_faddr h.k rfl Try.underlying103 rfl sz_api_Term rfl) (fun a h => ?_)
              refine s_x h rfl rfl (by decide) (x_ldR h.k rfl ag_api_Term rfl ([.int .i64 x73.2.2.1, .int .i64 x73.2.2.2.1, .int .i64 x73.2.2.2.2]) rfl (h.m.range (i := 5) rfl 2 3)) (fun a h => ?_)
              obtain ⟨x181, h182, hc99⟩ := bsome hc99
              have h := h.pick [6, 7, 4, 0, 1, 2, 3, 5] (by decide) rfl
              have hX := chatelaineref36_Store_Put_ok Fu (S0 := S164) x44 g23 A45 c46 cs47 (hq48.mono le166) ([.int .i64 x73.2.2.1, .int .i64 x73.2.2.2.1, .int .i64 x73.2.2.2.2]) x73.2.2 (⟨[.int .i64 x73.2.2.1], [.int .i64 x73.2.2.2.1, .int .i64 x73.2.2.2.2], rfl, ⟨rfl, hr92⟩, ⟨[.int .i64 x73.2.2.2.1], [.int .i64 x73.2.2.2.2], rfl, ⟨rfl, hr95⟩, ⟨rfl, hr96⟩⟩⟩) _ h182 _ (h.sub (Ls := [.box g23 101 ([.slice A45 x44.length c46]), .row (.slice A45 x44.length c46) 89 3 x44.length cs47]))
              refine q_callY (Ls := [.box g23 101 ([.slice A45 x44.length c46]), .row (.slice A45 x44.length c46) 89 3 x44.length cs47]) hX h up165 rfl rfl rfl (by decide) Try.func67 rfl rfl rfl (fun a w v L1 S184 hR le186 up185 h => ?_)
              obtain ⟨A189, c190, cs191, rfl, rfl, hr187, hr188, hq192, _⟩ := hR
              refine s_move h rfl _ rfl rfl (by decide) rfl (fun a h => ?_)
              refine s_x h rfl rfl (by decide) (x_ext h.k rfl rfl rfl) (fun a h => ?_)
              refine s_x h rfl rfl (by decide) (x_ext h.k rfl rfl rfl) (fun a h => ?_)
              refine s_assign h rfl _ rfl rfl (by decide) rfl (fun a h => ?_)
              refine s_assign h rfl _ rfl rfl (by decide) rfl (fun a h => ?_)
              refine l_nil ?_
              refine e_thenN ?_
              have h := h.pick [3, 4, 5, 6, 0, 1, 2] (by decide) rfl
              exact ⟨S184, x161.1, x161.2.1, x181.1, x181.2.1, (x161.2.2.1, x161.2.2.2.1, x161.2.2.2.2), A169, c170, cs171, g173, es174, cl175, g177, es178, cl179, x181.2.2, A189, c190, cs191, (Option.some.inj hc99), (le166.trans le186), up185, hr167, hr168, hr187, hr188, (hq172.mono le186), (hm176.mono le186), (hm180.mono le186), hq192, h.has (by exact ⟨rfl, rfl, rfl, rfl, rfl, rfl, rfl, rfl, rfl, trivial⟩)⟩
          · rintro a w ⟨S100, x103, x105, x107, x109, x111, A112, c113, cs114, g116, es117, cl118, g120, es121, cl122, x124, A125, c126, cs127, rfl, le101, up102, hr104, hr106, hr108, hr110, hq115, hm119, hm123, hq128, h⟩
            try dsimp only at hl70
            refine wp_seq ?_
            -- region 16 draws
            obtain ⟨z195, hz196, hl70⟩ := bsome hl70
            refine c_fin (fun a w => St 166 w0 (ownL ([] ++ [.sn S0])) [(3, .pointer (some ⟨g10, 0, none⟩)), (4, .pointer (some ⟨g23, 0, none⟩)), (26, .slice Aa0 a0.length ca0), (27, .int .i64 (a0.length : Int)), (28, .int .i64 x29), (79, .bool z195)] [.box g10 138 ([.slice A112 x111.1.length c113, .map (some g116), .map (some g120)]), .row (.slice A112 x111.1.length c113) 89 3 x111.1.length cs114, .obj g116 (.map es117 cl118), .obj g120 (.map es121 cl122), .box g23 101 ([.slice A125 x124.length c126]), .row (.slice A125 x124.length c126) 89 3 x124.length cs127, .sn S100] a w) ?_ (fun a w h => ?_)
            · refine d_start h (Mem _ _ _) 18 18 rfl (by kernel_rfl) (fun _ _ _ _ _ h => h) (fun _ h => h) (fun Q a w HE HN h HS => ?_)
              refine d_takeP h (fun _ => HS) HN 0 rfl (by kernel_rfl) (by kernel_rfl) (by kernel_rfl) (by decide) rfl rfl (by decide) (fun w' => x_move h.k _ rfl rfl) (fun a h => ?_)
              refine d_takeP h (fun _ => HS) HN 1 rfl (by kernel_rfl) (by kernel_rfl) (by kernel_rfl) (by decide) rfl rfl (by decide) (fun w' => x_move h.k _ rfl rfl) (fun a h => ?_)
              refine d_takeP h (fun _ => HS) HN 2 rfl (by kernel_rfl) (by kernel_rfl) (by kernel_rfl) (by decide) rfl rfl (by decide) (fun w' => x_bin h.k rfl rfl rfl ib_neq) (fun a h => ?_)
              refine d_takeP h (fun _ => HS) HN 3 rfl (by kernel_rfl) (by kernel_rfl) (by kernel_rfl) (by decide) rfl rfl (by decide) (fun w' => x_move h.k _ rfl rfl) (fun a h => ?_)
              refine d_split (t := 65) h rfl (fun hB3 => ?_) (fun hB3 => ?_)
              · refine d_takeNP h (fun _ => HS) HN 4 rfl (by kernel_rfl) (by kernel_rfl) (by kernel_rfl) (by decide) (by rw [g_want h rfl rfl rfl rfl hB3]; rfl) rfl (by decide) (fun a h => ?_)
                refine d_takeNP h (fun _ => HS) HN 5 rfl (by kernel_rfl) (by kernel_rfl) (by kernel_rfl) (by decide) (by rw [g_want h rfl rfl rfl rfl hB3]; rfl) rfl (by decide) (fun a h => ?_)
                refine d_takeNP h (fun _ => HS) HN 6 rfl (by kernel_rfl) (by kernel_rfl) (by kernel_rfl) (by decide) (by rw [g_want h rfl rfl rfl rfl hB3]; rfl) rfl (by decide) (fun a h => ?_)
                refine d_takeP h (fun _ => HS) HN 7 rfl (by kernel_rfl) (by kernel_rfl) (by kernel_rfl) (by decide) rfl rfl (by decide) (fun w' => x_pick (v := .bool ((decide (x103 ≠ x107)) || (decide (x105 ≠ x109)))) (u' := undef) h.k rfl rfl (fun _ => by rw [hB3]; first | rfl | simp [ev, List.lookup]) (fun hh => absurd (hB3.symm.trans hh) (by decide))) (fun a h => ?_)
                refine d_takeP h (fun _ => HS) HN 8 rfl (by kernel_rfl) (by kernel_rfl) (by kernel_rfl) (by decide) rfl rfl (by decide) (fun w' => x_move h.k _ rfl rfl) (fun a h => ?_)
                refine d_split (t := 70) h rfl (fun hB8 => ?_) (fun hB8 => ?_)
                · rw [if_pos hB8] at hz196
                  refine d_takeNP h (fun _ => HS) HN 9 rfl (by kernel_rfl) (by kernel_rfl) (by kernel_rfl) (by decide) (by rw [g_want h rfl rfl rfl rfl hB8]; rfl) rfl (by decide) (fun a h => ?_)
                  refine d_takeNP h (fun _ => HS) HN 10 rfl (by kernel_rfl) (by kernel_rfl) (by kernel_rfl) (by decide) (by rw [g_want h rfl rfl rfl rfl hB8]; rfl) rfl (by decide) (fun a h => ?_)
                  refine d_takeNP h (fun _ => HS) HN 11 rfl (by kernel_rfl) (by kernel_rfl) (by kernel_rfl) (by decide) (by rw [g_want h rfl rfl rfl rfl hB8]; rfl) rfl (by decide) (fun a h => ?_)
                  refine d_takeNP h (fun _ => HS) HN 12 rfl (by kernel_rfl) (by kernel_rfl) (by kernel_rfl) (by decide) (by rw [g_want h rfl rfl rfl rfl hB8]; rfl) rfl (by decide) (fun a h => ?_)
                  refine d_takeNP h (fun _ => HS) HN 13 rfl (by kernel_rfl) (by kernel_rfl) (by kernel_rfl) (by decide) (by rw [g_want h rfl rfl rfl rfl hB8]; rfl) rfl (by decide) (fun a h => ?_)
                  refine d_takeNP h (fun _ => HS) HN 14 rfl (by kernel_rfl) (by kernel_rfl) (by kernel_rfl) (by decide) (by rw [g_want h rfl rfl rfl rfl hB8]; rfl) rfl (by decide) (fun a h => ?_)
                  refine d_takeNP h (fun _ => HS) HN 15 rfl (by kernel_rfl) (by kernel_rfl) (by kernel_rfl) (by decide) (by rw [g_want h rfl rfl rfl rfl hB8]; rfl) rfl (by decide) (fun a h => ?_)
                  refine d_takeNP h (fun _ => HS) HN 16 rfl (by kernel_rfl) (by kernel_rfl) (by kernel_rfl) (by decide) (by rw [g_want h rfl rfl rfl rfl hB8]; rfl) rfl (by decide) (fun a h => ?_)
                  refine d_takeP h (fun _ => HS) HN 17 rfl (by kernel_rfl) (by kernel_rfl) (by kernel_rfl) (by decide) rfl rfl (by decide) (fun w' => x_pick (v := .bool z195) (u' := undef) h.k rfl rfl (fun _ => by rw [← Option.some.inj hz196]; rfl) (fun hh => absurd (hB8.symm.trans hh) (by decide))) (fun a h => ?_)
                  refine d_done (by kernel_rfl) (HE _ _ ?_) _
                  refine e_thenN ?_
                  exact h.has (by exact ⟨rfl, rfl, rfl, rfl, rfl, rfl, trivial⟩)
                · rw [if_neg (by rw [hB8]; decide)] at hz196
                  obtain ⟨x197, h198, hz196⟩ := bsome hz196
                  refine d_takeP h (fun _ => HS) HN 9 rfl (by kernel_rfl) (by kernel_rfl) (by kernel_rfl) (by decide) (by rw [g_want h rfl rfl rfl rfl hB8]; rfl) rfl (by decide) (fun w' => x_move h.k _ rfl rfl) (fun a h => ?_)
                  refine d_takeP h (fun _ => HS) HN 11 rfl (by kernel_rfl) (by kernel_rfl) (by kernel_rfl) (by decide) (by rw [g_want h rfl rfl rfl rfl hB8]; rfl) rfl (by decide) (fun w' => x_move h.k _ rfl rfl) (fun a h => ?_)
                  refine d_takeP h (fun _ => HS) HN 12 rfl (by kernel_rfl) (by kernel_rfl) (by kernel_rfl) (by decide) (by rw [g_want h rfl rfl rfl rfl hB8]; rfl) rfl (by decide) (fun w' => x_nil h.k rfl rfl) (fun a h => ?_)
                  refine d_takeP h (fun _ => HS) HN 13 rfl (by kernel_rfl) (by kernel_rfl) (by kernel_rfl) (by decide) (by rw [g_want h rfl rfl rfl rfl hB8]; rfl) rfl (by decide) (fun w' => x_faddr h.k rfl Try.underlying101 rfl sz_Sapi_Term rfl) (fun a h => ?_)
                  refine d_takeY h HS HN 14 rfl (by kernel_rfl) (by kernel_rfl) (by kernel_rfl) (by kernel_rfl) (by kernel_rfl) (by rw [g_want h rfl rfl rfl rfl hB8]; rfl) rfl (by decide) (fun w' hw => x_ld h.k rfl Try.underlying81 rfl rfl ((hw.cell (i := 4) rfl 0).trans rfl)) (fun a h => ?_)
                  have hr201 : r64 (x124.length : Int) := len_r (h.m.rowLen (i := 5) rfl)
                  refine d_takeP h (fun _ => HS) HN 15 rfl (by kernel_rfl) (by kernel_rfl) (by kernel_rfl) (by decide) (by rw [g_want h rfl rfl rfl rfl hB8]; rfl) rfl (by decide) (fun w' => x_len h.k rfl Try.underlying81 rfl) (fun a h => ?_)
                  refine d_alone 10 rfl (by kernel_rfl) (fun K hK => ?_)
                  refine g_yes (j := 8) (t := 70) h rfl rfl rfl rfl hB8 ?_
                  have hX := term_Store_Len_ok Fu (S0 := snapAll _) g10 (x111.1, x111.2.1, x111.2.2) ⟨[.slice A112 x111.1.length c113, .map (some g116), .map (some g120)], h.m.boxAll (i := 0) rfl, ⟨[.slice A112 x111.1.length c113], [.map (some g116), .map (some g120)], rfl, ⟨_, _, rfl, h.m.rowAll (i := 1) rfl (j := 6) rfl hq115⟩, ⟨[.map (some g116)], [.map (some g120)], rfl, ⟨_, rfl, h.m.mapAll (i := 2) rfl (j := 6) rfl hm119⟩, ⟨_, rfl, h.m.mapAll (i := 3) rfl (j := 6) rfl hm123⟩⟩⟩⟩ _ h198 _ h.startAll
                  refine q_callX hX h rfl rfl rfl (by decide) Try.func68 rfl rfl rfl (fun a w v L1 S1 hR hb1 h => ?_)
                  obtain ⟨rfl, rfl, hr200, _⟩ := hR
                  refine hK _ _ (fun _ _ => HS.ext hb1) ?_
                  replace HS := HS.ext hb1
                  clear hK
                  refine d_takeP h (fun _ => HS) HN 16 rfl (by kernel_rfl) (by kernel_rfl) (by kernel_rfl) (by decide) (by rw [g_want h rfl rfl rfl rfl hB8]; rfl) rfl (by decide) (fun w' => x_bin h.k rfl rfl rfl ib_neq) (fun a h => ?_)
                  refine d_takeP h (fun _ => HS) HN 17 rfl (by kernel_rfl) (by kernel_rfl) (by kernel_rfl) (by decide) rfl rfl (by decide) (fun w' => x_pick (v := .bool z195) (u' := undef) h.k rfl rfl (fun hh => absurd (hB8.symm.trans hh) (by decide)) (fun _ => by rw [← Option.some.inj hz196]; rfl)) (fun a h => ?_)
                  refine d_done (by kernel_rfl) (HE _ _ ?_) _
                  refine e_thenN ?_
                  exact h.has (by exact ⟨rfl, rfl, rfl, rfl, rfl, rfl, trivial⟩)
              · refine d_takeP h (fun _ => HS) HN 4 rfl (by kernel_rfl) (by kernel_rfl) (by kernel_rfl) (by decide) (by rw [g_want h rfl rfl rfl rfl hB3]; rfl) rfl (by decide) (fun w' => x_move h.k _ rfl rfl) (fun a h => ?_)
                refine d_takeP h (fun _ => HS) HN 5 rfl (by kernel_rfl) (by kernel_rfl) (by kernel_rfl) (by decide) (by rw [g_want h rfl rfl rfl rfl hB3]; rfl) rfl (by decide) (fun w' => x_move h.k _ rfl rfl) (fun a h => ?_)
                refine d_takeP h (fun _ => HS) HN 6 rfl (by kernel_rfl) (by kernel_rfl) (by kernel_rfl) (by decide) (by rw [g_want h rfl rfl rfl rfl hB3]; rfl) rfl (by decide) (fun w' => x_bin h.k rfl rfl rfl ib_neq) (fun a h => ?_)
                refine d_takeP h (fun _ => HS) HN 7 rfl (by kernel_rfl) (by kernel_rfl) (by kernel_rfl) (by decide) rfl rfl (by decide) (fun w' => x_pick (v := .bool ((decide (x103 ≠ x107)) || (decide (x105 ≠ x109)))) (u' := undef) h.k rfl rfl (fun hh => absurd (hB3.symm.trans hh) (by decide)) (fun _ => by rw [hB3]; first | rfl | simp [ev, List.lookup])) (fun a h => ?_)
                refine d_takeP h (fun _ => HS) HN 8 rfl (by kernel_rfl) (by kernel_rfl) (by kernel_rfl) (by decide) rfl rfl (by decide) (fun w' => x_move h.k _ rfl rfl) (fun a h => ?_)
                refine d_split (t := 70) h rfl (fun hB8 => ?_) (fun hB8 => ?_)
                · rw [if_pos hB8] at hz196
                  refine d_takeNP h (fun _ => HS) HN 9 rfl (by kernel_rfl) (by kernel_rfl) (by kernel_rfl) (by decide) (by rw [g_want h rfl rfl rfl rfl hB8]; rfl) rfl (by decide) (fun a h => ?_)
                  refine d_takeNP h (fun _ => HS) HN 10 rfl (by kernel_rfl) (by kernel_rfl) (by kernel_rfl) (by decide) (by rw [g_want h rfl rfl rfl rfl hB8]; rfl) rfl (by decide) (fun a h => ?_)
                  refine d_takeNP h (fun _ => HS) HN 11 rfl (by kernel_rfl) (by kernel_rfl) (by kernel_rfl) (by decide) (by rw [g_want h rfl rfl rfl rfl hB8]; rfl) rfl (by decide) (fun a h => ?_)
                  refine d_takeNP h (fun _ => HS) HN 12 rfl (by kernel_rfl) (by kernel_rfl) (by kernel_rfl) (by decide) (by rw [g_want h rfl rfl rfl rfl hB8]; rfl) rfl (by decide) (fun a h => ?_)
                  refine d_takeNP h (fun _ => HS) HN 13 rfl (by kernel_rfl) (by kernel_rfl) (by kernel_rfl) (by decide) (by rw [g_want h rfl rfl rfl rfl hB8]; rfl) rfl (by decide) (fun a h => ?_)
                  refine d_takeNP h (fun _ => HS) HN 14 rfl (by kernel_rfl) (by kernel_rfl) (by kernel_rfl) (by decide) (by rw [g_want h rfl rfl rfl rfl hB8]; rfl) rfl (by decide) (fun a h => ?_)
                  refine d_takeNP h (fun _ => HS) HN 15 rfl (by kernel_rfl) (by kernel_rfl) (by kernel_rfl) (by decide) (by rw [g_want h rfl rfl rfl rfl hB8]; rfl) rfl (by decide) (fun a h => ?_)
                  refine d_takeNP h (fun _ => HS) HN 16 rfl (by kernel_rfl) (by kernel_rfl) (by kernel_rfl) (by decide) (by rw [g_want h rfl rfl rfl rfl hB8]; rfl) rfl (by decide) (fun a h => ?_)
                  refine d_takeP h (fun _ => HS) HN 17 rfl (by kernel_rfl) (by kernel_rfl) (by kernel_rfl) (by decide) rfl rfl (by decide) (fun w' => x_pick (v := .bool z195) (u' := undef) h.k rfl rfl (fun _ => by rw [← Option.some.inj hz196]; rfl) (fun hh => absurd (hB8.symm.trans hh) (by decide))) (fun a h => ?_)
                  refine d_done (by kernel_rfl) (HE _ _ ?_) _
                  refine e_thenN ?_
                  exact h.has (by exact ⟨rfl, rfl, rfl, rfl, rfl, rfl, trivial⟩)
                · rw [if_neg (by rw [hB8]; decide)] at hz196
                  obtain ⟨x197, h198, hz196⟩ := bsome hz196
                  refine d_takeP h (fun _ => HS) HN 9 rfl (by kernel_rfl) (by kernel_rfl) (by kernel_rfl) (by decide) (by rw [g_want h rfl rfl rfl rfl hB8]; rfl) rfl (by decide) (fun w' => x_move h.k _ rfl rfl) (fun a h => ?_)
                  refine d_takeP h (fun _ => HS) HN 11 rfl (by kernel_rfl) (by kernel_rfl) (by kernel_rfl) (by decide) (by rw [g_want h rfl rfl rfl rfl hB8]; rfl) rfl (by decide) (fun w' => x_move h.k _ rfl rfl) (fun a h => ?_)
                  refine d_takeP h (fun _ => HS) HN 12 rfl (by kernel_rfl) (by kernel_rfl) (by kernel_rfl) (by decide) (by rw [g_want h rfl rfl rfl rfl hB8]; rfl) rfl (by decide) (fun w' => x_nil h.k rfl rfl) (fun a h => ?_)
                  refine d_takeP h (fun _ => HS) HN 13 rfl (by kernel_rfl) (by kernel_rfl) (by kernel_rfl) (by decide) (by rw [g_want h rfl rfl rfl rfl hB8]; rfl) rfl (by decide) (fun w' => x_faddr h.k rfl Try.underlying101 rfl sz_Sapi_Term rfl) (fun a h => ?_)
                  refine d_takeY h HS HN 14 rfl (by kernel_rfl) (by kernel_rfl) (by kernel_rfl) (by kernel_rfl) (by kernel_rfl) (by rw [g_want h rfl rfl rfl rfl hB8]; rfl) rfl (by decide) (fun w' hw => x_ld h.k rfl Try.underlying81 rfl rfl ((hw.cell (i := 4) rfl 0).trans rfl)) (fun a h => ?_)
                  have hr201 : r64 (x124.length : Int) := len_r (h.m.rowLen (i := 5) rfl)
                  refine d_takeP h (fun _ => HS) HN 15 rfl (by kernel_rfl) (by kernel_rfl) (by kernel_rfl) (by decide) (by rw [g_want h rfl rfl rfl rfl hB8]; rfl) rfl (by decide) (fun w' => x_len h.k rfl Try.underlying81 rfl) (fun a h => ?_)
                  refine d_alone 10 rfl (by kernel_rfl) (fun K hK => ?_)
                  refine g_yes (j := 8) (t := 70) h rfl rfl rfl rfl hB8 ?_
                  have hX := term_Store_Len_ok Fu (S0 := snapAll _) g10 (x111.1, x111.2.1, x111.2.2) ⟨[.slice A112 x111.1.length c113, .map (some g116), .map (some g120)], h.m.boxAll (i := 0) rfl, ⟨[.slice A112 x111.1.length c113], [.map (some g116), .map (some g120)], rfl, ⟨_, _, rfl, h.m.rowAll (i := 1) rfl (j := 6) rfl hq115⟩, ⟨[.map (some g116)], [.map (some g120)], rfl, ⟨_, rfl, h.m.mapAll (i := 2) rfl (j := 6) rfl hm119⟩, ⟨_, rfl, h.m.mapAll (i := 3) rfl (j := 6) rfl hm123⟩⟩⟩⟩ _ h198 _ h.startAll
                  refine q_callX hX h rfl rfl rfl (by decide) Try.func68 rfl rfl rfl (fun a w v L1 S1 hR hb1 h => ?_)
                  obtain ⟨rfl, rfl, hr200, _⟩ := hR
                  refine hK _ _ (fun _ _ => HS.ext hb1) ?_
                  replace HS := HS.ext hb1
                  clear hK
                  refine d_takeP h (fun _ => HS) HN 16 rfl (by kernel_rfl) (by kernel_rfl) (by kernel_rfl) (by decide) (by rw [g_want h rfl rfl rfl rfl hB8]; rfl) rfl (by decide) (fun w' => x_bin h.k rfl rfl rfl ib_neq) (fun a h => ?_)
                  refine d_takeP h (fun _ => HS) HN 17 rfl (by kernel_rfl) (by kernel_rfl) (by kernel_rfl) (by decide) rfl rfl (by decide) (fun w' => x_pick (v := .bool z195) (u' := undef) h.k rfl rfl (fun hh => absurd (hB8.symm.trans hh) (by decide)) (fun _ => by rw [← Option.some.inj hz196]; rfl)) (fun a h => ?_)
                  refine d_done (by kernel_rfl) (HE _ _ ?_) _
                  refine e_thenN ?_
                  exact h.has (by exact ⟨rfl, rfl, rfl, rfl, rfl, rfl, trivial⟩)
            refine e_thenN ?_
            refine c_cond h rfl (fun hb => ?_) (fun hb => ?_)
            · rw [if_pos hb] at hl70
              refine c_rs ?_ -- region 17
              refine s_assign h rfl _ rfl rfl (by decide) rfl (fun a h => ?_)
              refine l_end ?_
              refine wp_ret ?_
              refine e_blkR ?_
              refine e_thenR ?_
              refine e_thenR ?_
              refine e_blkR ?_
              refine e_thenR ?_
              cases hl70
              try dsimp only at hf
              refine e_thenR ?_
              obtain rfl := Option.some.inj hf
              exact r_ret1 h rfl (rv_tmp h rfl) ⟨_, [], _, rfl, ⟨rfl, rfl, trivial⟩, rfl, up102, (h.m.pick [6] _ (by decide) rfl)⟩
            · rw [if_neg (by rw [hb]; decide)] at hl70
              refine wp_skip ?_
              refine e_blkN ?_
              refine e_thenN ?_
              refine c_r ?_ -- region 18
              refine s_x h rfl rfl (by decide) (x_bin h.k rfl rfl rfl (ib_add rfl)) (fun a h => ?_)
              refine s_move h rfl _ rfl rfl (by decide) rfl (fun a h => ?_)
              refine l_nil ?_
              exact e_thenN ⟨m71, Nat.lt_succ_self _, S100, w64 (x29 + 1), (x111.1, x111.2.1, x111.2.2), A112, c113, cs114, g116, es117, cl118, g120, es121, cl122, x124, A125, c126, cs127, hl70, (le27.trans le101), up102, (w64_r _), hq115, hm119, hm123, hq128, h.has (by exact ⟨rfl, rfl, rfl, rfl, rfl, trivial⟩)⟩
        · rw [if_neg (of_decide_eq_false hb)] at hl70
          refine wp_exit ?_
          refine e_thenX ?_
          refine e_thenX ?_
          refine e_blkX ?_
          refine e_thenN ?_
          exact ⟨S26, (x31.1, x31.2.1, x31.2.2), A32, c33, cs34, g36, es37, cl38, g40, es41, cl42, x44, A45, c46, cs47, (Option.some.inj hl70), le27, up28, hq35, hm39, hm43, hq48, h.has (by exact ⟨rfl, rfl, trivial⟩)⟩
      · rintro a w ⟨S49, x52, A53, c54, cs55, g57, es58, cl59, g61, es62, cl63, x65, A66, c67, cs68, rfl, le50, up51, hq56, hm60, hm64, hq69, h⟩
        try dsimp only at hf
        refine e_thenN ?_
        refine wp_seq ?_
        refine c_rs ?_ -- region 19
        refine s_move h rfl _ rfl rfl (by decide) rfl (fun a h => ?_)
        refine s_x h rfl rfl (by decide) (x_nil h.k rfl rfl) (fun a h => ?_)
        refine s_x h rfl rfl (by decide) (x_faddr h.k rfl Try.underlying101 rfl sz_Sapi_Term rfl) (fun a h => ?_)
        refine s_x h rfl rfl (by decide) (x_ld h.k rfl Try.underlying81 rfl rfl ((h.m.cell (i := 4) rfl 0).trans rfl)) (fun a h => ?_)
        have hr202 : r64 (x65.length : Int) := len_r (h.m.rowLen (i := 5) rfl)
        refine s_x h rfl rfl (by decide) (x_len h.k rfl Try.underlying81 rfl) (fun a h => ?_)
        refine s_move h rfl _ rfl rfl (by decide) rfl (fun a h => ?_)
        refine l_end ?_
        obtain ⟨o203, hl204, hf⟩ := bsome hf
        refine c_fin (fun a w => (.inr ()) = o203 ∧ St 166 w0 (ownL ([] ++ [.sn S0])) [(3, .pointer (some ⟨g10, 0, none⟩)), (4, .pointer (some ⟨g23, 0, none⟩))] [.box g10 138 ([.slice A53 x52.1.length c54, .map (some g57), .map (some g61)]), .row (.slice A53 x52.1.length c54) 89 3 x52.1.length cs55, .obj g57 (.map es58 cl59), .obj g61 (.map es62 cl63), .box g23 101 ([.slice A66 x65.length c67]), .row (.slice A66 x65.length c67) 89 3 x65.length cs68, .sn S49] a w) ?_ ?_
        · refine wp_block ?_
          refine c_loop (fun m208 a w => ∃ (x205 : Int), chatelainelaw36_TermPuts_l1 Fu x52 x65 m208 x205 = some o203 ∧ r64 x205 ∧ St 166 w0 (ownL ([] ++ [.sn S0])) [(3, .pointer (some ⟨g10, 0, none⟩)), (4, .pointer (some ⟨g23, 0, none⟩)), (84, .slice A66 x65.length c67), (85, .int .i64 (x65.length : Int)), (86, .int .i64 x205)] [.box g10 138 ([.slice A53 x52.1.length c54, .map (some g57), .map (some g61)]), .row (.slice A53 x52.1.length c54) 89 3 x52.1.length cs55, .obj g57 (.map es58 cl59), .obj g61 (.map es62 cl63), .box g23 101 ([.slice A66 x65.length c67]), .row (.slice A66 x65.length c67) 89 3 x65.length cs68, .sn S49] a w) Fu ⟨0, hl204, (show r64 0 from ⟨by decide, by decide⟩), h.has (by exact ⟨rfl, rfl, rfl, rfl, rfl, trivial⟩)⟩ (fun m208 a w hI => ?_)
          obtain ⟨x205, hl207, hr206, h⟩ := hI
          obtain _ | m208 := m208
          · rw [chatelainelaw36_TermPuts_l1] at hl207; cases hl207
          rw [chatelainelaw36_TermPuts_l1] at hl207
          refine c_rs ?_ -- region 20
          refine s_x h rfl rfl (by decide) (x_bin h.k rfl rfl rfl ib_lss) (fun a h => ?_)
          refine l_end ?_
          refine c_cs h rfl (fun hb => ?_) (fun hb => ?_)
          · rw [if_pos (of_decide_eq_true hb)] at hl207
            refine wp_skip ?_
            refine e_thenN ?_
            refine wp_seq ?_
            refine wp_block ?_
            refine c_rs ?_ -- region 21
            refine s_move h rfl _ rfl rfl (by decide) rfl (fun a h => ?_)
            obtain ⟨m209, h210, hl207⟩ := bsome hl207
            obtain ⟨hi211, hm212⟩ := ix_some h210
            obtain ⟨g214, hA213⟩ := h.m.rowHead (i := 5) rfl (Nat.lt_of_le_of_lt (Nat.zero_le _) hm212)
            refine s_x h rfl rfl (by decide) (x_iaddrE h.k rfl Try.underlying81 sz_api_Term hA213 rfl rfl hi211 hm212) (fun a h => ?_)
            obtain ⟨x215, h216, hl207⟩ := bsome hl207
            obtain ⟨k217, hk218, hu219⟩ : ∃ k, k = (cs68.drop (m209 * 3)).take 3 ∧ (tyP tyI (tyP tyI tyI)).rep S49 k x215 := ⟨_, rfl, reps.at hq69 h216⟩
            obtain ⟨k220, k221, rfl, ⟨rfl, hr222⟩, ⟨k223, k224, rfl, ⟨rfl, hr225⟩, ⟨rfl, hr226⟩⟩⟩ := hu219
            refine s_x h rfl rfl (by decide) (x_ldR h.k rfl ag_api_Term rfl ([.int .i64 x215.1, .int .i64 x215.2.1, .int .i64 x215.2.2]) rfl (by have hz := h.m.rangeRowE (i := 5) rfl hA213 (m209 * 3) 3; rw [← hk218] at hz; exact hz)) (fun a h => ?_)
            refine s_alloc h rfl rfl rfl (by decide) zi_api_Term rfl (fun a w g227 h => ?_)
            refine s_assign h rfl _ rfl rfl (by decide) rfl (fun a h => ?_)
            refine s_stW h rfl rfl rfl ag_api_Term rfl (es := [.int .i64 x215.1, .int .i64 x215.2.1, .int .i64 x215.2.2]) rfl rfl (by simp [Value.oneCell']) 0 rfl rfl (fun a w h => ?_)
            refine l_end ?_
            refine c_rs ?_ -- region 22
            refine s_move h rfl _ rfl rfl (by decide) rfl (fun a h => ?_)
            refine s_move h rfl _ rfl rfl (by decide) rfl (fun a h => ?_)
            obtain ⟨x228, h229, hl207⟩ := bsome hl207
            have hX := term_Store_Get_ok Fu (S0 := snapAll _) g10 (x52.1, x52.2.1, x52.2.2) ⟨[.slice A53 x52.1.length c54, .map (some g57), .map (some g61)], h.m.boxAll (i := 1) rfl, ⟨[.slice A53 x52.1.length c54], [.map (some g57), .map (some g61)], rfl, ⟨_, _, rfl, h.m.rowAll (i := 2) rfl (j := 7) rfl hq56⟩, ⟨[.map (some g57)], [.map (some g61)], rfl, ⟨_, rfl, h.m.mapAll (i := 3) rfl (j := 7) rfl hm60⟩, ⟨_, rfl, h.m.mapAll (i := 4) rfl (j := 7) rfl hm64⟩⟩⟩⟩ x205 hr206 _ h229 _ h.startAll
            refine q_callX hX h rfl rfl rfl (by decide) Try.func69 rfl rfl rfl (fun a w v L1 S1 hR hb1 h => ?_)
            obtain ⟨k231, rfl, rfl, hv232, _⟩ := hR
            obtain ⟨k233, k234, rfl, ⟨rfl, hr235⟩, ⟨k236, k237, rfl, ⟨rfl, hr238⟩, ⟨rfl, hr239⟩⟩⟩ := hv232
            refine s_move h rfl _ rfl rfl (by decide) rfl (fun a h => ?_)
            refine s_x h rfl rfl (by decide) (x_ext h.k rfl rfl rfl) (fun a h => ?_)
            refine s_x h rfl rfl (by decide) (x_ext h.k rfl rfl rfl) (fun a h => ?_)
            refine s_alloc h rfl rfl rfl (by decide) zi_api_Term rfl (fun a w g240 h => ?_)
            refine s_stW h rfl rfl rfl ag_api_Term rfl (es := [.int .i64 x228.1.1, .int .i64 x228.1.2.1, .int .i64 x228.1.2.2]) rfl rfl (by simp [Value.oneCell']) 0 rfl rfl (fun a w h => ?_)
            refine s_assign h rfl _ rfl rfl (by decide) rfl (fun a h => ?_)
            refine l_end ?_
            refine c_rs ?_ -- region 23
            refine s_assign h rfl _ rfl rfl (by decide) rfl (fun a h => ?_)
            refine l_end ?_
            obtain ⟨o241, hc242, hl207⟩ := bsome hl207
            refine c_cut (fun a w => ∃ (x243 : List Int), ∃ (A244 : Option Addr), ∃ (c245 : Nat), ∃ (cs246 : List Value), x243 = o241 ∧ reps tyI S49 cs246 x243 ∧ St 166 w0 (ownL ([] ++ [.sn S0])) [(3, .pointer (some ⟨g10, 0, none⟩)), (4, .pointer (some ⟨g23, 0, none⟩)), (11, .int .i64 x205), (12, .pointer (some ⟨g227, 0, none⟩)), (13, .pointer (some ⟨g240, 0, none⟩)), (14, .bool x228.2), (15, .slice A244 x243.length c245), (84, .slice A66 x65.length c67), (85, .int .i64 (x65.length : Int)), (86, .int .i64 x205)] [.box g10 138 ([.slice A53 x52.1.length c54, .map (some g57), .map (some g61)]), .row (.slice A53 x52.1.length c54) 89 3 x52.1.length cs55, .obj g57 (.map es58 cl59), .obj g61 (.map es62 cl63), .box g23 101 ([.slice A66 x65.length c67]), .row (.slice A66 x65.length c67) 89 3 x65.length cs68, .box g227 89 ([.int .i64 x215.1, .int .i64 x215.2.1, .int .i64 x215.2.2]), .box g240 89 ([.int .i64 x228.1.1, .int .i64 x228.1.2.1, .int .i64 x228.1.2.2]), .row (.slice A244 x243.length c245) 3 1 x243.length cs246, .sn S49] a w) ?_ ?_
            · refine c_rs ?_ -- region 24
              refine s_x h rfl rfl (by decide) (x_faddr h.k rfl Try.underlying89 rfl sz_int rfl) (fun a h => ?_)
              refine s_x h rfl rfl (by decide) (x_ld h.k rfl Try.underlying3 rfl rfl ((h.m.cell (i := 1) rfl 0).trans rfl)) (fun a h => ?_)
              refine s_x h rfl rfl (by decide) (x_bin h.k rfl rfl rfl ib_eql) (fun a h => ?_)
              refine l_end ?_
              refine c_cond h rfl (fun hb => ?_) (fun hb => ?_)
              · rw [if_pos (of_decide_eq_true hb)] at hc242
                refine c_r ?_ -- region 25
                refine s_x h rfl rfl (by decide) (x_faddr h.k rfl Try.underlying89 rfl sz_int rfl) (fun a h => ?_)
                refine s_x h rfl rfl (by decide) (x_ld h.k rfl Try.underlying3 rfl rfl ((h.m.cell (i := 1) rfl 1).trans rfl)) (fun a h => ?_)
                refine q_bslice (T := tyI) (S := S49) h rfl rfl rfl (by decide) Try.underlying78 zi_int (by decide) (by decide) (by decide) (by decide) [.int .i64 x215.2.1] rfl rfl (C := [[.int .i64 x215.2.1]]) rfl (xs := [x215.2.1]) ⟨[.int .i64 x215.2.1], _, rfl, ⟨rfl, hr225⟩, rfl⟩ (by intro c hc; simp only [List.mem_cons, List.not_mem_nil, or_false] at hc; subst hc; rfl) (fun a w A248 h => ?_)
                have hb249 : reps tyI S49 ([[.int .i64 x215.2.1]]).flatten [x215.2.1] := ⟨[.int .i64 x215.2.1], _, rfl, ⟨rfl, hr225⟩, rfl⟩
                refine s_assign h rfl _ rfl rfl (by decide) rfl (fun a h => ?_)
                refine l_nil ?_
                refine e_thenN ?_
                have h := h.pick [3, 4, 5, 6, 7, 8, 2, 1, 0, 9] (by decide) rfl
                exact ⟨[x215.2.1], A248, 1, ([[.int .i64 x215.2.1]]).flatten, (Option.some.inj hc242), hb249, h.has (by exact ⟨rfl, rfl, rfl, rfl, rfl, rfl, rfl, rfl, rfl, rfl, trivial⟩)⟩
              · rw [if_neg (of_decide_eq_false hb)] at hc242
                refine wp_skip ?_
                refine e_thenN ?_
                have h := h.mem (h.m.nilrow 3 1)
                have h := h.pick [3, 4, 5, 6, 7, 8, 2, 1, 0, 9] (by decide) rfl
                exact ⟨[], none, 0, [], (Option.some.inj hc242), (show reps tyI S49 [] [] from rfl), h.has (by exact ⟨rfl, rfl, rfl, rfl, rfl, rfl, rfl, rfl, rfl, rfl, trivial⟩)⟩
            · rintro a w ⟨x243, A244, c245, cs246, rfl, hq247, h⟩
              obtain ⟨o251, hc252, hl207⟩ := bsome hl207
              refine c_cut (fun a w => ∃ (x253 : List Int), ∃ (A254 : Option Addr), ∃ (c255 : Nat), ∃ (cs256 : List Value), x253 = o251 ∧ reps tyI S49 cs256 x253 ∧ St 166 w0 (ownL ([] ++ [.sn S0])) [(3, .pointer (some ⟨g10, 0, none⟩)), (4, .pointer (some ⟨g23, 0, none⟩)), (11, .int .i64 x205), (12, .pointer (some ⟨g227, 0, none⟩)), (13, .pointer (some ⟨g240, 0, none⟩)), (14, .bool x228.2), (15, .slice A254 x253.length c255), (84, .slice A66 x65.length c67), (85, .int .i64 (x65.length : Int)), (86, .int .i64 x205)] [.box g10 138 ([.slice A53 x52.1.length c54, .map (some g57), .map (some g61)]), .row (.slice A53 x52.1.length c54) 89 3 x52.1.length cs55, .obj g57 (.map es58 cl59), .obj g61 (.map es62 cl63), .box g23 101 ([.slice A66 x65.length c67]), .row (.slice A66 x65.length c67) 89 3 x65.length cs68, .box g227 89 ([.int .i64 x215.1, .int .i64 x215.2.1, .int .i64 x215.2.2]), .box g240 89 ([.int .i64 x228.1.1, .int .i64 x228.1.2.1, .int .i64 x228.1.2.2]), .row (.slice A254 x253.length c255) 3 1 x253.length cs256, .sn S49] a w) ?_ ?_
              · refine c_rs ?_ -- region 26
                refine s_x h rfl rfl (by decide) (x_faddr h.k rfl Try.underlying89 rfl sz_int rfl) (fun a h => ?_)
                refine s_x h rfl rfl (by decide) (x_ld h.k rfl Try.underlying3 rfl rfl ((h.m.cell (i := 6) rfl 0).trans rfl)) (fun a h => ?_)
                refine s_x h rfl rfl (by decide) (x_bin h.k rfl rfl rfl ib_eql) (fun a h => ?_)
                refine l_end ?_
                refine c_cond h rfl (fun hb => ?_) (fun hb => ?_)
                · rw [if_pos (of_decide_eq_true hb)] at hc252
                  refine c_r ?_ -- region 27
                  refine s_x h rfl rfl (by decide) (x_faddr h.k rfl Try.underlying89 rfl sz_int rfl) (fun a h => ?_)
                  refine s_x h rfl rfl (by decide) (x_ld h.k rfl Try.underlying3 rfl rfl ((h.m.cell (i := 6) rfl 1).trans rfl)) (fun a h => ?_)
                  refine s_x h rfl rfl (by decide) (x_faddr h.k rfl Try.underlying89 rfl sz_int rfl) (fun a h => ?_)
                  refine s_x h rfl rfl (by decide) (x_ld h.k rfl Try.underlying3 rfl rfl ((h.m.cell (i := 6) rfl 2).trans rfl)) (fun a h => ?_)
                  refine q_bslice (T := tyI) (S := S49) h rfl rfl rfl (by decide) Try.underlying78 zi_int (by decide) (by decide) (by decide) (by decide) [.int .i64 x215.2.1, .int .i64 x215.2.2] rfl rfl (C := [[.int .i64 x215.2.1], [.int .i64 x215.2.2]]) rfl (xs := [x215.2.1, x215.2.2]) ⟨[.int .i64 x215.2.1], _, rfl, ⟨rfl, hr225⟩, ⟨[.int .i64 x215.2.2], _, rfl, ⟨rfl, hr226⟩, rfl⟩⟩ (by simp only [List.mem_cons, List.not_mem_nil, or_false]; rintro c (rfl | rfl) <;> rfl) (fun a w A258 h => ?_)
                  have hb259 : reps tyI S49 ([[.int .i64 x215.2.1], [.int .i64 x215.2.2]]).flatten [x215.2.1, x215.2.2] := ⟨[.int .i64 x215.2.1], _, rfl, ⟨rfl, hr225⟩, ⟨[.int .i64 x215.2.2], _, rfl, ⟨rfl, hr226⟩, rfl⟩⟩
                  refine s_assign h rfl _ rfl rfl (by decide) rfl (fun a h => ?_)
                  refine l_nil ?_
                  refine e_thenN ?_
                  have h := h.pick [1, 2, 3, 4, 5, 6, 7, 8, 0, 10] (by decide) rfl
                  exact ⟨[x215.2.1, x215.2.2], A258, 2, ([[.int .i64 x215.2.1], [.int .i64 x215.2.2]]).flatten, (Option.some.inj hc252), hb259, h.has (by exact ⟨rfl, rfl, rfl, rfl, rfl, rfl, rfl, rfl, rfl, rfl, trivial⟩)⟩
                · rw [if_neg (of_decide_eq_false hb)] at hc252
                  refine wp_skip ?_
                  refine e_thenN ?_
                  exact ⟨x243, A244, c245, cs246, (Option.some.inj hc252), hq247, h.has (by exact ⟨rfl, rfl, rfl, rfl, rfl, rfl, rfl, rfl, rfl, rfl, trivial⟩)⟩
              · rintro a w ⟨x253, A254, c255, cs256, rfl, hq257, h⟩
                refine wp_seq ?_
                refine c_rs ?_ -- region 28
                refine s_move h rfl _ rfl rfl (by decide) rfl (fun a h => ?_)
                refine s_x h rfl rfl (by decide) (x_bin h.k rfl rfl rfl ib_gtr) (fun a h => ?_)
                refine l_end ?_
                refine c_cond h rfl (fun hb => ?_) (fun hb => ?_)
                · rw [if_pos (of_decide_eq_true hb)] at hl207
                  refine wp_exit ?_
                  refine e_thenX ?_
                  refine e_blkY (by decide) ?_
                  refine e_thenX ?_
                  refine e_thenX ?_
                  refine e_blkX ?_
                  refine e_thenN ?_
                  have h := h.pick [0, 1, 2, 3, 4, 5, 9] (by decide) rfl
                  exact ⟨(Option.some.inj hl207), h.has (by exact ⟨rfl, rfl, trivial⟩)⟩
                · rw [if_neg (of_decide_eq_false hb)] at hl207
                  refine wp_skip ?_
                  refine e_thenN ?_
                  refine c_rs ?_ -- region 29
                  refine s_move h rfl _ rfl rfl (by decide) rfl (fun a h => ?_)
                  refine s_x h rfl rfl (by decide) (x_not h.k rfl rfl) (fun a h => ?_)
                  refine s_move h rfl _ rfl rfl (by decide) rfl (fun a h => ?_)
                  refine q_grp h 4 (t := 115) 119 ((!x228.2) || (!(decide (x228.1 = x215)))) rfl (fun hB2 => ?_) (fun hB2 => ?_) (fun a w h => ?_)
                  · refine g_no h rfl rfl rfl rfl hB2 rfl (by decide) (fun a h => ?_)
                    refine g_no h rfl rfl rfl rfl hB2 rfl (by decide) (fun a h => ?_)
                    refine g_no h rfl rfl rfl rfl hB2 rfl (by decide) (fun a h => ?_)
                    refine s_x h rfl rfl (by decide) (x_pick (u' := undef) h.k rfl rfl (fun _ => rfl) (fun hh => absurd (hB2.symm.trans hh) (by decide))) (fun a h => ?_)
                    exact (h.mid 3 rfl).val (by first | rfl | (rw [hB2]; first | rfl | simp))
                  · refine g_yes h rfl rfl rfl rfl hB2 ?_
                    refine s_x h rfl rfl (by decide) (x_ldR h.k rfl ag_api_Term rfl ([.int .i64 x228.1.1, .int .i64 x228.1.2.1, .int .i64 x228.1.2.2]) rfl (h.m.range0 (i := 7) rfl)) (fun a h => ?_)
                    refine g_yes h rfl rfl rfl rfl hB2 ?_
                    refine s_x h rfl rfl (by decide) (x_ldR h.k rfl ag_api_Term rfl ([.int .i64 x215.1, .int .i64 x215.2.1, .int .i64 x215.2.2]) rfl (h.m.range0 (i := 6) rfl)) (fun a h => ?_)
                    refine g_yes h rfl rfl rfl rfl hB2 ?_
                    refine s_x h rfl rfl (by decide) (x_neqS h.k rfl rfl rfl gd_api_Term (eqs_api_Term _ x228.1 x215)) (fun a h => ?_)
                    refine s_x h rfl rfl (by decide) (x_pick (u' := undef) h.k rfl rfl (fun hh => absurd (hB2.symm.trans hh) (by decide)) (fun _ => rfl)) (fun a h => ?_)
                    exact (h.mid 3 rfl).val (by first | rfl | (rw [hB2]; first | rfl | simp))
                  refine s_move h rfl _ rfl rfl (by decide) rfl (fun a h => ?_)
                  obtain ⟨z263, hz262, hl207⟩ := bsome hl207
                  refine q_grp h 7 (t := 120) 127 z263 rfl (fun hB7 => ?_) (fun hB7 => ?_) (fun a w h => ?_)
                  · refine g_no h rfl rfl rfl rfl hB7 rfl (by decide) (fun a h => ?_)
                    refine g_no h rfl rfl rfl rfl hB7 rfl (by decide) (fun a h => ?_)
                    refine g_no h rfl rfl rfl rfl hB7 rfl (by decide) (fun a h => ?_)
                    refine g_no h rfl rfl rfl rfl hB7 rfl (by decide) (fun a h => ?_)
                    refine g_no h rfl rfl rfl rfl hB7 rfl (by decide) (fun a h => ?_)
                    refine g_no h rfl rfl rfl rfl hB7 rfl (by decide) (fun a h => ?_)
                    rw [if_pos hB7] at hz262
                    refine s_x h rfl rfl (by decide) (x_pick (u' := undef) h.k rfl rfl (fun _ => rfl) (fun hh => absurd (hB7.symm.trans hh) (by decide))) (fun a h => ?_)
                    exact (h.mid 6 rfl).val (by rw [Option.some.inj hz262])
                  · rw [if_neg (by rw [hB7]; decide)] at hz262
                    refine g_yes h rfl rfl rfl rfl hB7 ?_
                    refine s_move h rfl _ rfl rfl (by decide) rfl (fun a h => ?_)
                    refine g_yes h rfl rfl rfl rfl hB7 ?_
                    refine s_move h rfl _ rfl rfl (by decide) rfl (fun a h => ?_)
                    refine g_yes h rfl rfl rfl rfl hB7 ?_
                    obtain ⟨x265, h266, hz262⟩ := bsome hz262
                    have hX := term_Store_Parts_ok Fu (S0 := snapAll _) g10 (x52.1, x52.2.1, x52.2.2) ⟨[.slice A53 x52.1.length c54, .map (some g57), .map (some g61)], h.m.boxAll (i := 0) rfl, ⟨[.slice A53 x52.1.length c54], [.map (some g57), .map (some g61)], rfl, ⟨_, _, rfl, h.m.rowAll (i := 1) rfl (j := 9) rfl hq56⟩, ⟨[.map (some g57)], [.map (some g61)], rfl, ⟨_, rfl, h.m.mapAll (i := 2) rfl (j := 9) rfl hm60⟩, ⟨_, rfl, h.m.mapAll (i := 3) rfl (j := 9) rfl hm64⟩⟩⟩⟩ x205 hr206 _ h266 _ h.startAll
                    refine q_callX hX h rfl rfl rfl (by decide) Try.func70 rfl rfl rfl (fun a w v L1 S1 hR hb1 h => ?_)
                    obtain ⟨A268, c269, cs270, rfl, rfl, hq271, _⟩ := hR
                    have hq272 := hq271.fl (S' := S49) fl_I
                    refine g_yes h rfl rfl rfl rfl hB7 ?_
                    refine s_move h rfl _ rfl rfl (by decide) rfl (fun a h => ?_)
                    refine g_yes h rfl rfl rfl rfl hB7 ?_
                    obtain ⟨x273, h274, hz262⟩ := bsome hz262
                    have hX := chatelaineref01_Ints_ok Fu (S0 := snapAll _) A268 c269 x265 (h.m.rowAll (i := 0) rfl (j := 10) rfl hq272) A254 c255 x253 (h.m.rowAll (i := 9) rfl (j := 10) rfl hq257) _ h274 _ h.startAll
                    refine q_callX hX h rfl rfl rfl (by decide) Try.func61 rfl rfl rfl (fun a w v L1 S1 hR hb1 h => ?_)
                    obtain ⟨rfl, rfl, _⟩ := hR
                    refine g_yes h rfl rfl rfl rfl hB7 ?_
                    refine s_x h rfl rfl (by decide) (x_not h.k rfl rfl) (fun a h => ?_)
                    refine s_x h rfl rfl (by decide) (x_pick (u' := undef) h.k rfl rfl (fun hh => absurd (hB7.symm.trans hh) (by decide)) (fun _ => rfl)) (fun a h => ?_)
                    have h := h.pick [1, 2, 3, 4, 5, 6, 7, 8, 9, 10] (by decide) rfl
                    exact (h.mid 6 rfl).val (by rw [Option.some.inj hz262])
                  refine s_move h rfl _ rfl rfl (by decide) rfl (fun a h => ?_)
                  obtain ⟨z277, hz276, hl207⟩ := bsome hl207
                  refine q_grp h 8 (t := 128) 136 z277 rfl (fun hB15 => ?_) (fun hB15 => ?_) (fun a w h => ?_)
                  · refine g_no h rfl rfl rfl rfl hB15 rfl (by decide) (fun a h => ?_)
                    refine g_no h rfl rfl rfl rfl hB15 rfl (by decide) (fun a h => ?_)
                    refine g_no h rfl rfl rfl rfl hB15 rfl (by decide) (fun a h => ?_)
                    refine g_no h rfl rfl rfl rfl hB15 rfl (by decide) (fun a h => ?_)
                    refine g_no h rfl rfl rfl rfl hB15 rfl (by decide) (fun a h => ?_)
                    refine g_no h rfl rfl rfl rfl hB15 rfl (by decide) (fun a h => ?_)
                    refine g_no h rfl rfl rfl rfl hB15 rfl (by decide) (fun a h => ?_)
                    rw [if_pos hB15] at hz276
                    refine s_x h rfl rfl (by decide) (x_pick (u' := undef) h.k rfl rfl (fun _ => rfl) (fun hh => absurd (hB15.symm.trans hh) (by decide))) (fun a h => ?_)
                    exact (h.mid 7 rfl).val (by rw [Option.some.inj hz276])
                  · rw [if_neg (by rw [hB15]; decide)] at hz276
                    refine g_yes h rfl rfl rfl rfl hB15 ?_
                    refine s_move h rfl _ rfl rfl (by decide) rfl (fun a h => ?_)
                    refine g_yes h rfl rfl rfl rfl hB15 ?_
                    refine s_move h rfl _ rfl rfl (by decide) rfl (fun a h => ?_)
                    refine g_yes h rfl rfl rfl rfl hB15 ?_
                    obtain ⟨x279, h280, hz276⟩ := bsome hz276
                    have hX := term_Store_Depth_ok Fu (S0 := snapAll _) g10 (x52.1, x52.2.1, x52.2.2) ⟨[.slice A53 x52.1.length c54, .map (some g57), .map (some g61)], h.m.boxAll (i := 0) rfl, ⟨[.slice A53 x52.1.length c54], [.map (some g57), .map (some g61)], rfl, ⟨_, _, rfl, h.m.rowAll (i := 1) rfl (j := 9) rfl hq56⟩, ⟨[.map (some g57)], [.map (some g61)], rfl, ⟨_, rfl, h.m.mapAll (i := 2) rfl (j := 9) rfl hm60⟩, ⟨_, rfl, h.m.mapAll (i := 3) rfl (j := 9) rfl hm64⟩⟩⟩⟩ x205 hr206 _ h280 _ h.startAll
                    refine q_callX hX h rfl rfl rfl (by decide) Try.func71 rfl rfl rfl (fun a w v L1 S1 hR hb1 h => ?_)
                    obtain ⟨rfl, rfl, hr282, _⟩ := hR
                    refine g_yes h rfl rfl rfl rfl hB15 ?_
                    refine s_move h rfl _ rfl rfl (by decide) rfl (fun a h => ?_)
                    refine g_yes h rfl rfl rfl rfl hB15 ?_
                    refine s_move h rfl _ rfl rfl (by decide) rfl (fun a h => ?_)
                    refine g_yes h rfl rfl rfl rfl hB15 ?_
                    obtain ⟨x283, h284, hz276⟩ := bsome hz276
                    have hX := chatelaineref36_Store_Depth_ok Fu (S0 := snapAll _) g23 x65 ⟨[.slice A66 x65.length c67], h.m.boxAll (i := 4) rfl, ⟨_, _, rfl, h.m.rowAll (i := 5) rfl (j := 9) rfl hq69⟩⟩ x205 hr206 _ h284 _ h.startAll
                    refine q_callX hX h rfl rfl rfl (by decide) Try.func72 rfl rfl rfl (fun a w v L1 S1 hR hb1 h => ?_)
                    obtain ⟨rfl, rfl, hr286, _⟩ := hR
                    refine g_yes h rfl rfl rfl rfl hB15 ?_
                    refine s_x h rfl rfl (by decide) (x_bin h.k rfl rfl rfl ib_neq) (fun a h => ?_)
                    refine s_x h rfl rfl (by decide) (x_pick (u' := undef) h.k rfl rfl (fun hh => absurd (hB15.symm.trans hh) (by decide)) (fun _ => rfl)) (fun a h => ?_)
                    exact (h.mid 7 rfl).val (by rw [Option.some.inj hz276])
                  refine l_end ?_
                  refine c_cond h rfl (fun hb => ?_) (fun hb => ?_)
                  · rw [if_pos hb] at hl207
                    refine c_rs ?_ -- region 30
                    refine s_assign h rfl _ rfl rfl (by decide) rfl (fun a h => ?_)
                    refine l_end ?_
                    refine wp_ret ?_
                    refine e_blkR ?_
                    refine e_thenR ?_
                    refine e_thenR ?_
                    refine e_blkR ?_
                    refine e_thenR ?_
                    cases hl207
                    try dsimp only at hf
                    refine e_thenR ?_
                    obtain rfl := Option.some.inj hf
                    exact r_ret1 h rfl (rv_tmp h rfl) ⟨_, [], _, rfl, ⟨rfl, rfl, trivial⟩, rfl, up51, (h.m.pick [9] _ (by decide) rfl)⟩
                  · rw [if_neg (by rw [hb]; decide)] at hl207
                    refine wp_skip ?_
                    refine e_blkN ?_
                    refine e_thenN ?_
                    refine c_r ?_ -- region 31
                    refine s_x h rfl rfl (by decide) (x_bin h.k rfl rfl rfl (ib_add rfl)) (fun a h => ?_)
                    refine s_move h rfl _ rfl rfl (by decide) rfl (fun a h => ?_)
                    refine l_nil ?_
                    have h := h.pick [0, 1, 2, 3, 4, 5, 9] (by decide) rfl
                    exact e_thenN ⟨m208, Nat.lt_succ_self _, w64 (x205 + 1), hl207, (w64_r _), h.has (by exact ⟨rfl, rfl, rfl, rfl, rfl, trivial⟩)⟩
          · rw [if_neg (of_decide_eq_false hb)] at hl207
            refine wp_exit ?_
            refine e_thenX ?_
            refine e_thenX ?_
            refine e_blkX ?_
            refine e_thenN ?_
            exact ⟨(Option.some.inj hl207), h.has (by exact ⟨rfl, rfl, trivial⟩)⟩
        · rintro a w ⟨rfl, h⟩
          try dsimp only at hf
          refine e_thenN ?_
          refine c_rs ?_ -- region 32
          refine s_move h rfl _ rfl rfl (by decide) rfl (fun a h => ?_)
          refine s_move h rfl _ rfl rfl (by decide) rfl (fun a h => ?_)
          refine s_x h rfl rfl (by decide) (x_nil h.k rfl rfl) (fun a h => ?_)
          refine s_x h rfl rfl (by decide) (x_faddr h.k rfl Try.underlying101 rfl sz_Sapi_Term rfl) (fun a h => ?_)
          refine s_x h rfl rfl (by decide) (x_ld h.k rfl Try.underlying81 rfl rfl ((h.m.cell (i := 4) rfl 0).trans rfl)) (fun a h => ?_)
          have hr287 : r64 (x65.length : Int) := len_r (h.m.rowLen (i := 5) rfl)
          refine s_x h rfl rfl (by decide) (x_len h.k rfl Try.underlying81 rfl) (fun a h => ?_)
          obtain ⟨x288, h289, hf⟩ := bsome hf
          have hX := term_Store_Get_ok Fu (S0 := snapAll _) g10 (x52.1, x52.2.1, x52.2.2) ⟨[.slice A53 x52.1.length c54, .map (some g57), .map (some g61)], h.m.boxAll (i := 0) rfl, ⟨[.slice A53 x52.1.length c54], [.map (some g57), .map (some g61)], rfl, ⟨_, _, rfl, h.m.rowAll (i := 1) rfl (j := 6) rfl hq56⟩, ⟨[.map (some g57)], [.map (some g61)], rfl, ⟨_, rfl, h.m.mapAll (i := 2) rfl (j := 6) rfl hm60⟩, ⟨_, rfl, h.m.mapAll (i := 3) rfl (j := 6) rfl hm64⟩⟩⟩⟩ (x65.length : Int) hr287 _ h289 _ h.startAll
          refine q_callX hX h rfl rfl rfl (by decide) Try.func69 rfl rfl rfl (fun a w v L1 S1 hR hb1 h => ?_)
          obtain ⟨k291, rfl, rfl, hv292, _⟩ := hR
          obtain ⟨k293, k294, rfl, ⟨rfl, hr295⟩, ⟨k296, k297, rfl, ⟨rfl, hr298⟩, ⟨rfl, hr299⟩⟩⟩ := hv292
          refine s_move h rfl _ rfl rfl (by decide) rfl (fun a h => ?_)
          refine s_x h rfl rfl (by decide) (x_ext h.k rfl rfl rfl) (fun a h => ?_)
          refine s_x h rfl rfl (by decide) (x_ext h.k rfl rfl rfl) (fun a h => ?_)
          refine s_alloc h rfl rfl rfl (by decide) zi_api_Term rfl (fun a w g300 h => ?_)
          refine s_stW h rfl rfl rfl ag_api_Term rfl (es := [.int .i64 x288.1.1, .int .i64 x288.1.2.1, .int .i64 x288.1.2.2]) rfl rfl (by simp [Value.oneCell']) 0 rfl rfl (fun a w h => ?_)
          refine s_assign h rfl _ rfl rfl (by decide) rfl (fun a h => ?_)
          refine l_end ?_
          refine c_rs ?_ -- region 33
          refine s_move h rfl _ rfl rfl (by decide) rfl (fun a h => ?_)
          refine s_x h rfl rfl (by decide) (x_not h.k rfl rfl) (fun a h => ?_)
          refine s_move h rfl _ rfl rfl (by decide) rfl (fun a h => ?_)
          obtain ⟨z302, hz301, hf⟩ := bsome hf
          refine q_grp h 10 (t := 150) 160 z302 rfl (fun hB2 => ?_) (fun hB2 => ?_) (fun a w h => ?_)
          · rw [if_pos hB2] at hz301
            refine g_yes h rfl rfl rfl rfl hB2 ?_
            refine s_move h rfl _ rfl rfl (by decide) rfl (fun a h => ?_)
            refine g_yes h rfl rfl rfl rfl hB2 ?_
            refine s_move h rfl _ rfl rfl (by decide) rfl (fun a h => ?_)
            refine g_yes h rfl rfl rfl rfl hB2 ?_
            refine s_x h rfl rfl (by decide) (x_nil h.k rfl rfl) (fun a h => ?_)
            refine g_yes h rfl rfl rfl rfl hB2 ?_
            refine s_x h rfl rfl (by decide) (x_faddr h.k rfl Try.underlying101 rfl sz_Sapi_Term rfl) (fun a h => ?_)
            refine g_yes h rfl rfl rfl rfl hB2 ?_
            refine s_x h rfl rfl (by decide) (x_ld h.k rfl Try.underlying81 rfl rfl ((h.m.cell (i := 5) rfl 0).trans rfl)) (fun a h => ?_)
            refine g_yes h rfl rfl rfl rfl hB2 ?_
            have hr304 : r64 (x65.length : Int) := len_r (h.m.rowLen (i := 6) rfl)
            refine s_x h rfl rfl (by decide) (x_len h.k rfl Try.underlying81 rfl) (fun a h => ?_)
            refine g_yes h rfl rfl rfl rfl hB2 ?_
            obtain ⟨x305, h306, hz301⟩ := bsome hz301
            have hX := term_Store_Parts_ok Fu (S0 := snapAll _) g10 (x52.1, x52.2.1, x52.2.2) ⟨[.slice A53 x52.1.length c54, .map (some g57), .map (some g61)], h.m.boxAll (i := 1) rfl, ⟨[.slice A53 x52.1.length c54], [.map (some g57), .map (some g61)], rfl, ⟨_, _, rfl, h.m.rowAll (i := 2) rfl (j := 7) rfl hq56⟩, ⟨[.map (some g57)], [.map (some g61)], rfl, ⟨_, rfl, h.m.mapAll (i := 3) rfl (j := 7) rfl hm60⟩, ⟨_, rfl, h.m.mapAll (i := 4) rfl (j := 7) rfl hm64⟩⟩⟩⟩ (x65.length : Int) hr304 _ h306 _ h.startAll
            refine q_callX hX h rfl rfl rfl (by decide) Try.func70 rfl rfl rfl (fun a w v L1 S1 hR hb1 h => ?_)
            obtain ⟨A308, c309, cs310, rfl, rfl, hq311, _⟩ := hR
            have hq312 := hq311.fl (S' := S49) fl_I
            refine g_yes h rfl rfl rfl rfl hB2 ?_
            have hr313 : r64 (x305.length : Int) := len_r (h.m.rowLen (i := 0) rfl)
            refine s_x h rfl rfl (by decide) (x_len h.k rfl Try.underlying78 rfl) (fun a h => ?_)
            refine g_yes h rfl rfl rfl rfl hB2 ?_
            refine s_x h rfl rfl (by decide) (x_bin h.k rfl rfl rfl ib_eql) (fun a h => ?_)
            refine s_x h rfl rfl (by decide) (x_pick (u' := undef) h.k rfl rfl (fun _ => rfl) (fun hh => absurd (hB2.symm.trans hh) (by decide))) (fun a h => ?_)
            have h := h.pick [1, 2, 3, 4, 5, 6, 7, 8] (by decide) rfl
            exact (h.mid 9 rfl).val (by rw [Option.some.inj hz301])
          · refine g_no h rfl rfl rfl rfl hB2 rfl (by decide) (fun a h => ?_)
            refine g_no h rfl rfl rfl rfl hB2 rfl (by decide) (fun a h => ?_)
            refine g_no h rfl rfl rfl rfl hB2 rfl (by decide) (fun a h => ?_)
            refine g_no h rfl rfl rfl rfl hB2 rfl (by decide) (fun a h => ?_)
            refine g_no h rfl rfl rfl rfl hB2 rfl (by decide) (fun a h => ?_)
            refine g_no h rfl rfl rfl rfl hB2 rfl (by decide) (fun a h => ?_)
            refine g_no h rfl rfl rfl rfl hB2 rfl (by decide) (fun a h => ?_)
            refine g_no h rfl rfl rfl rfl hB2 rfl (by decide) (fun a h => ?_)
            refine g_no h rfl rfl rfl rfl hB2 rfl (by decide) (fun a h => ?_)
            rw [if_neg (by rw [hB2]; decide)] at hz301
            refine s_x h rfl rfl (by decide) (x_pick (u' := undef) h.k rfl rfl (fun hh => absurd (hB2.symm.trans hh) (by decide)) (fun _ => rfl)) (fun a h => ?_)
            exact (h.mid 9 rfl).val (by rw [Option.some.inj hz301])
          refine s_move h rfl _ rfl rfl (by decide) rfl (fun a h => ?_)
          obtain ⟨z315, hz314, hf⟩ := bsome hf
          refine q_grp h 4 (t := 161) 165 z315 rfl (fun hB13 => ?_) (fun hB13 => ?_) (fun a w h => ?_)
          · rw [if_pos hB13] at hz314
            refine g_yes h rfl rfl rfl rfl hB13 ?_
            refine s_move h rfl _ rfl rfl (by decide) rfl (fun a h => ?_)
            refine g_yes h rfl rfl rfl rfl hB13 ?_
            obtain ⟨x317, h318, hz314⟩ := bsome hz314
            have hX := term_Store_Depth_ok Fu (S0 := snapAll _) g10 (x52.1, x52.2.1, x52.2.2) ⟨[.slice A53 x52.1.length c54, .map (some g57), .map (some g61)], h.m.boxAll (i := 1) rfl, ⟨[.slice A53 x52.1.length c54], [.map (some g57), .map (some g61)], rfl, ⟨_, _, rfl, h.m.rowAll (i := 2) rfl (j := 7) rfl hq56⟩, ⟨[.map (some g57)], [.map (some g61)], rfl, ⟨_, rfl, h.m.mapAll (i := 3) rfl (j := 7) rfl hm60⟩, ⟨_, rfl, h.m.mapAll (i := 4) rfl (j := 7) rfl hm64⟩⟩⟩⟩ (-1) (show r64 (-1) from ⟨by decide, by decide⟩) _ h318 _ h.startAll
            refine q_callX hX h rfl rfl rfl (by decide) Try.func71 rfl rfl rfl (fun a w v L1 S1 hR hb1 h => ?_)
            obtain ⟨rfl, rfl, hr320, _⟩ := hR
            refine g_yes h rfl rfl rfl rfl hB13 ?_
            refine s_x h rfl rfl (by decide) (x_bin h.k rfl rfl rfl ib_eql) (fun a h => ?_)
            refine s_x h rfl rfl (by decide) (x_pick (u' := undef) h.k rfl rfl (fun _ => rfl) (fun hh => absurd (hB13.symm.trans hh) (by decide))) (fun a h => ?_)
            exact (h.mid 3 rfl).val (by rw [Option.some.inj hz314])
          · refine g_no h rfl rfl rfl rfl hB13 rfl (by decide) (fun a h => ?_)
            refine g_no h rfl rfl rfl rfl hB13 rfl (by decide) (fun a h => ?_)
            refine g_no h rfl rfl rfl rfl hB13 rfl (by decide) (fun a h => ?_)
            rw [if_neg (by rw [hB13]; decide)] at hz314
            refine s_x h rfl rfl (by decide) (x_pick (u' := undef) h.k rfl rfl (fun hh => absurd (hB13.symm.trans hh) (by decide)) (fun _ => rfl)) (fun a h => ?_)
            exact (h.mid 3 rfl).val (by rw [Option.some.inj hz314])
          refine s_assign h rfl _ rfl rfl (by decide) rfl (fun a h => ?_)
          refine l_end ?_
          refine wp_ret ?_
          obtain rfl := Option.some.inj hf
          exact r_ret1 h rfl (rv_tmp h rfl) ⟨_, [], _, rfl, ⟨rfl, rfl, trivial⟩, rfl, up51, (h.m.pick [7] _ (by decide) rfl)⟩
def chatelainelaw36_TermOnce_l1 (Fu : Nat) (x168 : Int × Int × ((List (Int × Int × Int)) × (List ((Int × Int × Int) × Int)) × (List (Int × Int)))) (x194 : Int × Int × ((List (Int × Int × Int)) × (List ((Int × Int × Int) × Int)) × (List (Int × Int)))) (x240 : (List Int)) : Nat → Int → Option (Sum Bool Unit)
  | 0, _ => none
  | k + 1, x251 => if x251 < (x240.length : Int) then ((ix x240.length x251).bind fun m255 => (x240[m255]?).bind fun x261 => (if ((decide (x261 < 0)) || (decide (x168.1 ≤ x261))) = true then some true else (term_Store_Depth Fu (x194.2.2.1, x194.2.2.2.1, x194.2.2.2.2) x261).bind fun x273 => (term_Store_Depth Fu (x194.2.2.1, x194.2.2.2.1, x194.2.2.2.2) x168.1).bind fun x277 => some (decide (x277 ≤ x273))).bind fun z271 => if z271 = true then (some (.inl false)) else (chatelainelaw36_TermOnce_l1 Fu x168 x194 x240 k (w64 (x251 + 1)))) else (some (.inr ()))
def chatelainelaw36_TermOnce_l0 (Fu : Nat) (a0 : List (Bool × Int × (Int × Int × Int))) : Nat → Int → ((List (Int × Int × Int)) × (List ((Int × Int × Int) × Int)) × (List (Int × Int))) → Option (Sum Bool (((List (Int × Int × Int)) × (List ((Int × Int × Int) × Int)) × (List (Int × Int)))))
  | 0, _, _ => none
  | k + 1, x58, x60 => if x58 < (a0.length : Int) then (((idx a0 x58).bind fun x109 => (term_Store_Len Fu (x60.1, x60.2.1, x60.2.2)).bind fun x134 => if x109.1 = true then ((term_Store_Fresh Fu (x60.1, x60.2.1, x60.2.2) x109.2.1).bind fun x138 => (if x138.2.1 = 0 then (if x138.1 ≠ x134 then some true else (term_Store_Len Fu (x138.2.2.1, x138.2.2.2.1, x138.2.2.2.2)).bind fun x164 => some (decide (x164 ≠ w64 (x134 + 1)))).bind fun z162 => some z162 else some false).bind fun z159 => if z159 = true then (some (.inl false)) else (some (.inr (x138.2.2.1, x138.2.2.2.1, x138.2.2.2.2)))) else ((term_Store_Put Fu (x60.1, x60.2.1, x60.2.2) x109.2.2).bind fun x168 => if x168.2.1 ≠ 0 then ((term_Store_Len Fu (x168.2.2.1, x168.2.2.2.1, x168.2.2.2.2)).bind fun x188 => if ((decide (x188 ≠ x134)) || (decide (x168.1 ≠ 0))) = true then (some (.inl false)) else (some (.inr (x168.2.2.1, x168.2.2.2.1, x168.2.2.2.2)))) else ((term_Store_Put Fu (x168.2.2.1, x168.2.2.2.1, x168.2.2.2.2) x109.2.2).bind fun x194 => (term_Store_Get Fu (x194.2.2.1, x194.2.2.2.1, x194.2.2.2.2) x168.1).bind fun x214 => (if ((((decide (x194.2.1 ≠ 0)) || (decide (x168.1 ≠ x194.1))) || (!x214.2)) || (!(decide (x214.1 = x109.2.2)))) = true then some true else (term_Store_Len Fu (x194.2.2.1, x194.2.2.2.1, x194.2.2.2.2)).bind fun x236 => some (decide (w64 (x134 + 1) < x236))).bind fun z234 => if z234 = true then (some (.inl false)) else ((term_Store_Parts Fu (x194.2.2.1, x194.2.2.2.1, x194.2.2.2.2) x168.1).bind fun x240 => (chatelainelaw36_TermOnce_l1 Fu x168 x194 x240 Fu 0).bind fun o => match o with | .inl r281 => some (.inl r281) | .inr _ => some (.inr (x194.2.2.1, x194.2.2.2.1, x194.2.2.2.2))))) : Option (Sum Bool (((List (Int × Int × Int)) × (List ((Int × Int × Int) × Int)) × (List (Int × Int)))))).bind fun o => match o with | .inl r282 => some (.inl r282) | .inr x96 => chatelainelaw36_TermOnce_l0 Fu a0 k (w64 (x58 + 1)) (x96.1, x96.2.1, x96.2.2)) else (some (.inr (x60.1, x60.2.1, x60.2.2)))
def chatelainelaw36_TermOnce_l3 (Fu : Nat) (x76 : (List (Int × Int × Int)) × (List ((Int × Int × Int) × Int)) × (List (Int × Int))) (x289 : Int) : Nat → Int → Option (Sum Bool Unit)
  | 0, _ => none
  | k + 1, x295 => if x295 < x289 then ((term_Store_Get Fu (x76.1, x76.2.1, x76.2.2) x289).bind fun x299 => (term_Store_Get Fu (x76.1, x76.2.1, x76.2.2) x295).bind fun x312 => if x299.1 = x312.1 then (some (.inl false)) else (chatelainelaw36_TermOnce_l3 Fu x76 x289 k (w64 (x295 + 1)))) else (some (.inr ()))
def chatelainelaw36_TermOnce_l2 (Fu : Nat) (x76 : (List (Int × Int × Int)) × (List ((Int × Int × Int) × Int)) × (List (Int × Int))) (x283 : Int) : Nat → Int → Option (Sum Bool Unit)
  | 0, _ => none
  | k + 1, x289 => if x289 < x283 then ((chatelainelaw36_TermOnce_l3 Fu x76 x289 Fu 0).bind fun o => match o with | .inl r325 => some (.inl r325) | .inr _ => chatelainelaw36_TermOnce_l2 Fu x76 x283 k (w64 (x289 + 1))) else (some (.inr ()))
def chatelainelaw36_TermOnce (Fu : Nat) (a0 : List (Bool × Int × (Int × Int × Int))) : Option Bool :=
  (chatelainelaw36_awake Fu).bind fun x1 => if (!x1) = true then (some false) else ((term_Store_Put_nil0 Fu (0, 0, 0)).bind fun x4 => if x4.2 ≠ 1 then (some false) else ((term_Store_Fresh_nil0 Fu 1).bind fun x9 => (if x9.2 ≠ 1 then some true else (term_Store_Len_nil0 Fu).bind fun x17 => (term_Store_Depth_nil0 Fu 0).bind fun x21 => (term_Store_Parts_nil0 Fu 0).bind fun x25 => some (decide (w64 ((w64 (x17 + x21)) + (x25.length : Int)) ≠ 0))).bind fun z15 => if z15 = true then (some false) else (if 40 < (a0.length : Int) then (some true) else ((term_New Fu).bind fun x34 => (chatelainelaw36_TermOnce_l0 Fu a0 Fu 0 (x34.1, x34.2.1, x34.2.2)).bind fun o => match o with | .inl r327 => some r327 | .inr x76 => (term_Store_Len Fu (x76.1, x76.2.1, x76.2.2)).bind fun x283 => (chatelainelaw36_TermOnce_l2 Fu x76 x283 Fu 0).bind fun o => match o with | .inl r326 => some r326 | .inr _ => some true))))
set_option maxRecDepth 100000 in
set_option maxHeartbeats 2000000 in
theorem chatelainelaw36_TermOnce_ok (Fu : Nat) {S0 : Snap} (Aa0 : Option Addr) (ca0 : Nat) (a0 : List (Bool × Int × (Int × Int × Int))) (hsa0 : slS (tyP tyB (tyP tyI (tyP tyI (tyP tyI tyI)))) S0 Aa0 ca0 a0) (r : Bool) (hf : chatelainelaw36_TermOnce Fu a0 = some r) (w0 : World) (hm : Mem w0 (ownL ([] ++ [.sn S0])) ([] ++ [.sn S0]) w0) :
    Calls Try.prog 14 #[.slice Aa0 a0.length ca0] w0 (Ret w0 S0 [] (fun v L1 S1 => v = .bool r ∧ L1 = [] ∧ True)) := by
  unfold chatelainelaw36_TermOnce at hf
  refine c_enterM Try.func14 rfl 198 rfl (by simp) _ hm _ rfl (fun a h => ?_)
  refine c_rs ?_ -- region 0
  refine s_assign h rfl _ rfl rfl (by decide) rfl (fun a h => ?_)
  refine l_end ?_
  refine wp_seq ?_
  refine c_rs ?_ -- region 1
  obtain ⟨x1, h2, hf⟩ := bsome hf
  have hX := chatelainelaw36_awake_ok Fu (S0 := snapAll _)  _ h2 _ h.startAll
  refine q_callX hX h rfl rfl rfl (by decide) Try.func62 rfl rfl rfl (fun a w v L1 S1 hR hb1 h => ?_)
  obtain ⟨rfl, rfl, _⟩ := hR
  refine s_x h rfl rfl (by decide) (x_not h.k rfl rfl) (fun a h => ?_)
  refine l_end ?_
  refine c_cond h rfl (fun hb => ?_) (fun hb => ?_)
  · rw [if_pos hb] at hf
    refine c_rs ?_ -- region 2
    refine s_assign h rfl _ rfl rfl (by decide) rfl (fun a h => ?_)
    refine l_end ?_
    refine wp_ret ?_
    refine e_thenR ?_
    obtain rfl := Option.some.inj hf
    exact r_ret1 h rfl (rv_tmp h rfl) ⟨_, [], _, rfl, ⟨rfl, rfl, trivial⟩, rfl, (Up.refl _ _ _), h.m⟩
  · rw [if_neg (by rw [hb]; decide)] at hf
    refine wp_skip ?_
    refine e_thenN ?_
    refine c_rs ?_ -- region 3
    refine s_assign h rfl _ rfl rfl (by decide) rfl (fun a h => ?_)
    refine l_end ?_
    refine wp_seq ?_
    refine c_rs ?_ -- region 4
    refine s_move h rfl _ rfl rfl (by decide) rfl (fun a h => ?_)
    refine s_x h rfl rfl (by decide) (x_build h.k rfl [] rfl ([.int .i64 0, .int .i64 0, .int .i64 0]) (by kernel_rfl)) (fun a h => ?_)
    obtain ⟨x4, h5, hf⟩ := bsome hf
    have hX := term_Store_Put_nil0_ok Fu (S0 := snapAll _) ([.int .i64 0, .int .i64 0, .int .i64 0]) (0, 0, 0) ((tyP tyI (tyP tyI tyI)).mono (h.m.leAll (i := 0) rfl) (show (tyP tyI (tyP tyI tyI)).rep S0 ([.int .i64 0, .int .i64 0, .int .i64 0]) (0, 0, 0) from ⟨[.int .i64 0], [.int .i64 0, .int .i64 0], rfl, ⟨rfl, (show r64 0 from ⟨by decide, by decide⟩)⟩, ⟨[.int .i64 0], [.int .i64 0], rfl, ⟨rfl, (show r64 0 from ⟨by decide, by decide⟩)⟩, ⟨rfl, (show r64 0 from ⟨by decide, by decide⟩)⟩⟩⟩)) _ h5 _ h.startAll
    refine q_callX hX h rfl rfl rfl (by decide) Try.func66 rfl rfl rfl (fun a w v L1 S1 hR hb1 h => ?_)
    obtain ⟨rfl, rfl, hr7, hr8, _⟩ := hR
    refine s_move h rfl _ rfl rfl (by decide) rfl (fun a h => ?_)
    refine s_x h rfl rfl (by decide) (x_ext h.k rfl rfl rfl) (fun a h => ?_)
    refine s_x h rfl rfl (by decide) (x_ext h.k rfl rfl rfl) (fun a h => ?_)
    refine s_assign h rfl _ rfl rfl (by decide) rfl (fun a h => ?_)
    refine s_assign h rfl _ rfl rfl (by decide) rfl (fun a h => ?_)
    refine l_end ?_
    refine c_rs ?_ -- region 5
    refine s_move h rfl _ rfl rfl (by decide) rfl (fun a h => ?_)
    refine s_x h rfl rfl (by decide) (x_bin h.k rfl rfl rfl ib_neq) (fun a h => ?_)
    refine l_end ?_
    refine c_cond h rfl (fun hb => ?_) (fun hb => ?_)
    · rw [if_pos (of_decide_eq_true hb)] at hf
      refine c_rs ?_ -- region 6
      refine s_assign h rfl _ rfl rfl (by decide) rfl (fun a h => ?_)
      refine l_end ?_
      refine wp_ret ?_
      refine e_thenR ?_
      obtain rfl := Option.some.inj hf
      exact r_ret1 h rfl (rv_tmp h rfl) ⟨_, [], _, rfl, ⟨rfl, rfl, trivial⟩, rfl, (Up.refl _ _ _), h.m⟩
    · rw [if_neg (of_decide_eq_false hb)] at hf
      refine wp_skip ?_
      refine e_thenN ?_
      refine wp_seq ?_
      refine c_rs ?_ -- region 7
      refine s_move h rfl _ rfl rfl (by decide) rfl (fun a h => ?_)
      obtain ⟨x9, h10, hf⟩ := bsome hf
      have hX := term_Store_Fresh_nil0_ok Fu (S0 := snapAll _) 1 (show r64 1 from ⟨by decide, by decide⟩) _ h10 _ h.startAll
      refine q_callX hX h rfl rfl rfl (by decide) Try.func64 rfl rfl rfl (fun a w v L1 S1 hR hb1 h => ?_)
      obtain ⟨rfl, rfl, hr12, hr13, _⟩ := hR
      refine s_move h rfl _ rfl rfl (by decide) rfl (fun a h => ?_)
      refine s_x h rfl rfl (by decide) (x_ext h.k rfl rfl rfl) (fun a h => ?_)
      refine s_x h rfl rfl (by decide) (x_ext h.k rfl rfl rfl) (fun a h => ?_)
      refine s_assign h rfl _ rfl rfl (by decide) rfl (fun a h => ?_)
      refine s_assign h rfl _ rfl rfl (by decide) rfl (fun a h => ?_)
      refine l_end ?_
      refine c_rs ?_ -- region 8
      refine s_move h rfl _ rfl rfl (by decide) rfl (fun a h => ?_)
      refine s_x h rfl rfl (by decide) (x_bin h.k rfl rfl rfl ib_neq) (fun a h => ?_)
      refine s_move h rfl _ rfl rfl (by decide) rfl (fun a h => ?_)
      obtain ⟨z15, hz14, hf⟩ := bsome hf
      refine q_grp h 11 (t := 45) 56 z15 rfl (fun hB2 => ?_) (fun hB2 => ?_) (fun a w h => ?_)
      · refine g_no h rfl rfl rfl rfl hB2 rfl (by decide) (fun a h => ?_)
        refine g_no h rfl rfl rfl rfl hB2 rfl (by decide) (fun a h => ?_)
        refine g_no h rfl rfl rfl rfl hB2 rfl (by decide) (fun a h => ?_)
        refine g_no h rfl rfl rfl rfl hB2 rfl (by decide) (fun a h => ?_)
        refine g_no h rfl rfl rfl rfl hB2 rfl (by decide) (fun a h => ?_)
        refine g_no h rfl rfl rfl rfl hB2 rfl (by decide) (fun a h => ?_)
        refine g_no h rfl rfl rfl rfl hB2 rfl (by decide) (fun a h => ?_)
        refine g_no h rfl rfl rfl rfl hB2 rfl (by decide) (fun a h => ?_)
        refine g_no h rfl rfl rfl rfl hB2 rfl (by decide) (fun a h => ?_)
        refine g_no h rfl rfl rfl rfl hB2 rfl (by decide) (fun a h => ?_)
        rw [if_pos (of_decide_eq_true hB2)] at hz14
        refine s_x h rfl rfl (by decide) (x_pick (u' := undef) h.k rfl rfl (fun _ => rfl) (fun hh => absurd (hB2.symm.trans hh) (by decide))) (fun a h => ?_)
        exact (h.mid 10 rfl).val (by rw [Option.some.inj hz14])
      · rw [if_neg (of_decide_eq_false hB2)] at hz14
        refine g_yes h rfl rfl rfl rfl hB2 ?_
        refine s_move h rfl _ rfl rfl (by decide) rfl (fun a h => ?_)
        refine g_yes h rfl rfl rfl rfl hB2 ?_
        obtain ⟨x17, h18, hz14⟩ := bsome hz14
        have hX := term_Store_Len_nil0_ok Fu (S0 := snapAll _)  _ h18 _ h.startAll
        refine q_callX hX h rfl rfl rfl (by decide) Try.func68 rfl rfl rfl (fun a w v L1 S1 hR hb1 h => ?_)
        obtain ⟨rfl, rfl, hr20, _⟩ := hR
        refine g_yes h rfl rfl rfl rfl hB2 ?_
        refine s_move h rfl _ rfl rfl (by decide) rfl (fun a h => ?_)
        refine g_yes h rfl rfl rfl rfl hB2 ?_
        obtain ⟨x21, h22, hz14⟩ := bsome hz14
        have hX := term_Store_Depth_nil0_ok Fu (S0 := snapAll _) 0 (show r64 0 from ⟨by decide, by decide⟩) _ h22 _ h.startAll
        refine q_callX hX h rfl rfl rfl (by decide) Try.func71 rfl rfl rfl (fun a w v L1 S1 hR hb1 h => ?_)
        obtain ⟨rfl, rfl, hr24, _⟩ := hR
        refine g_yes h rfl rfl rfl rfl hB2 ?_
        refine s_x h rfl rfl (by decide) (x_bin h.k rfl rfl rfl (ib_add rfl)) (fun a h => ?_)
        refine g_yes h rfl rfl rfl rfl hB2 ?_
        refine s_move h rfl _ rfl rfl (by decide) rfl (fun a h => ?_)
        refine g_yes h rfl rfl rfl rfl hB2 ?_
        obtain ⟨x25, h26, hz14⟩ := bsome hz14
        have hX := term_Store_Parts_nil0_ok Fu (S0 := snapAll _) 0 (show r64 0 from ⟨by decide, by decide⟩) _ h26 _ h.startAll
        refine q_callX hX h rfl rfl rfl (by decide) Try.func70 rfl rfl rfl (fun a w v L1 S1 hR hb1 h => ?_)
        obtain ⟨A28, c29, cs30, rfl, rfl, hq31, _⟩ := hR
        have hq32 := hq31.fl (S' := S0) fl_I
        refine g_yes h rfl rfl rfl rfl hB2 ?_
        have hr33 : r64 (x25.length : Int) := len_r (h.m.rowLen (i := 0) rfl)
        refine s_x h rfl rfl (by decide) (x_len h.k rfl Try.underlying78 rfl) (fun a h => ?_)
        refine g_yes h rfl rfl rfl rfl hB2 ?_
        refine s_x h rfl rfl (by decide) (x_bin h.k rfl rfl rfl (ib_add rfl)) (fun a h => ?_)
        refine g_yes h rfl rfl rfl rfl hB2 ?_
        refine s_x h rfl rfl (by decide) (x_bin h.k rfl rfl rfl ib_neq) (fun a h => ?_)
        refine s_x h rfl rfl (by decide) (x_pick (u' := undef) h.k rfl rfl (fun hh => absurd (hB2.symm.trans hh) (by decide)) (fun _ => rfl)) (fun a h => ?_)
        have h := h.pick [1] (by decide) rfl
        exact (h.mid 10 rfl).val (by rw [Option.some.inj hz14])
      refine l_end ?_
      refine c_cond h rfl (fun hb => ?_) (fun hb => ?_)
      · rw [if_pos hb] at hf
        refine c_rs ?_ -- region 9
        refine s_assign h rfl _ rfl rfl (by decide) rfl (fun a h => ?_)
        refine l_end ?_
        refine wp_ret ?_
        refine e_thenR ?_
        obtain rfl := Option.some.inj hf
        exact r_ret1 h rfl (rv_tmp h rfl) ⟨_, [], _, rfl, ⟨rfl, rfl, trivial⟩, rfl, (Up.refl _ _ _), h.m⟩
      · rw [if_neg (by rw [hb]; decide)] at hf
        refine wp_skip ?_
        refine e_thenN ?_
        refine wp_seq ?_
        refine c_rs ?_ -- region 10
        refine s_move h rfl _ rfl rfl (by decide) rfl (fun a h => ?_)
        refine s_x h rfl rfl (by decide) (x_len h.k rfl Try.underlying96 rfl) (fun a h => ?_)
        refine s_x h rfl rfl (by decide) (x_bin h.k rfl rfl rfl ib_gtr) (fun a h => ?_)
        refine l_end ?_
        refine c_cond h rfl (fun hb => ?_) (fun hb => ?_)
        · rw [if_pos (of_decide_eq_true hb)] at hf
          refine c_rs ?_ -- region 11
          refine s_assign h rfl _ rfl rfl (by decide) rfl (fun a h => ?_)
          refine l_end ?_
          refine wp_ret ?_
          refine e_thenR ?_
          obtain rfl := Option.some.inj hf
          exact r_ret1 h rfl (rv_tmp h rfl) ⟨_, [], _, rfl, ⟨rfl, rfl, trivial⟩, rfl, (Up.refl _ _ _), h.m⟩
        · rw [if_neg (of_decide_eq_false hb)] at hf
          refine wp_skip ?_
          refine e_thenN ?_
          refine c_rs ?_ -- region 12
          obtain ⟨x34, h35, hf⟩ := bsome hf
          have hX := term_New_ok Fu (S0 := S0)  _ h35 _ (h.sub (Ls := []))
          refine q_callY (Ls := []) hX h (Up.refl _ _ _) rfl rfl rfl (by decide) Try.func63 rfl rfl rfl (fun a w v L1 S37 hR le39 up38 h => ?_)
          obtain ⟨g40, A41, c42, cs43, g45, es46, cl47, g49, es50, cl51, rfl, rfl, hq44, hm48, hm52, _⟩ := hR
          refine s_assign h rfl _ rfl rfl (by decide) rfl (fun a h => ?_)
          refine l_end ?_
          refine wp_seq ?_
          refine c_rs ?_ -- region 13
          refine s_move h rfl _ rfl rfl (by decide) rfl (fun a h => ?_)
          refine s_x h rfl rfl (by decide) (x_len h.k rfl Try.underlying96 rfl) (fun a h => ?_)
          refine s_move h rfl _ rfl rfl (by decide) rfl (fun a h => ?_)
          refine l_end ?_
          obtain ⟨o53, hl54, hf⟩ := bsome hf
          refine c_fin (fun a w => ∃ (S73 : Snap), ∃ (x76 : (List (Int × Int × Int)) × (List ((Int × Int × Int) × Int)) × (List (Int × Int))), ∃ (A77 : Option Addr), ∃ (c78 : Nat), ∃ (cs79 : List Value), ∃ (g81 : Nat), ∃ (es82 : Array MapEntry), ∃ (cl83 : Nat), ∃ (g85 : Nat), ∃ (es86 : Array MapEntry), ∃ (cl87 : Nat), (.inr x76) = o53 ∧ Snap.le S37 S73 ∧ Up (ownL ([] ++ [.sn S0])) w0 S0 S73 ∧ reps (tyP tyI (tyP tyI tyI)) S73 cs79 x76.1 ∧ mpS keyT tyI false S73 es82 cl83 x76.2.1 ∧ mpS keyI tyI false S73 es86 cl87 x76.2.2 ∧ St 198 w0 (ownL ([] ++ [.sn S0])) [(8, .pointer (some ⟨g40, 0, none⟩))] [.box g40 138 ([.slice A77 x76.1.length c78, .map (some g81), .map (some g85)]), .row (.slice A77 x76.1.length c78) 89 3 x76.1.length cs79, .obj g81 (.map es82 cl83), .obj g85 (.map es86 cl87), .sn S73] a w) ?_ ?_
          · refine wp_block ?_
            refine c_loop (fun m90 a w => ∃ (S55 : Snap), ∃ (x58 : Int), ∃ (x60 : (List (Int × Int × Int)) × (List ((Int × Int × Int) × Int)) × (List (Int × Int))), ∃ (A61 : Option Addr), ∃ (c62 : Nat), ∃ (cs63 : List Value), ∃ (g65 : Nat), ∃ (es66 : Array MapEntry), ∃ (cl67 : Nat), ∃ (g69 : Nat), ∃ (es70 : Array MapEntry), ∃ (cl71 : Nat), chatelainelaw36_TermOnce_l0 Fu a0 m90 x58 x60 = some o53 ∧ Snap.le S37 S55 ∧ Up (ownL ([] ++ [.sn S0])) w0 S0 S55 ∧ r64 x58 ∧ reps (tyP tyI (tyP tyI tyI)) S55 cs63 x60.1 ∧ mpS keyT tyI false S55 es66 cl67 x60.2.1 ∧ mpS keyI tyI false S55 es70 cl71 x60.2.2 ∧ St 198 w0 (ownL ([] ++ [.sn S0])) [(8, .pointer (some ⟨g40, 0, none⟩)), (61, .slice Aa0 a0.length ca0), (62, .int .i64 (a0.length : Int)), (63, .int .i64 x58)] [.box g40 138 ([.slice A61 x60.1.length c62, .map (some g65), .map (some g69)]), .row (.slice A61 x60.1.length c62) 89 3 x60.1.length cs63, .obj g65 (.map es66 cl67), .obj g69 (.map es70 cl71), .sn S55] a w) Fu ⟨S37, 0, (x34.1, x34.2.1, x34.2.2), A41, c42, cs43, g45, es46, cl47, g49, es50, cl51, hl54, (Snap.le.refl _), up38, (show r64 0 from ⟨by decide, by decide⟩), hq44, hm48, hm52, h.has (by exact ⟨rfl, rfl, rfl, rfl, trivial⟩)⟩ (fun m90 a w hI => ?_)
            obtain ⟨S55, x58, x60, A61, c62, cs63, g65, es66, cl67, g69, es70, cl71, hl89, le56, up57, hr59, hq64, hm68, hm72, h⟩ := hI
            obtain _ | m90 := m90
            · rw [chatelainelaw36_TermOnce_l0] at hl89; cases hl89
            rw [chatelainelaw36_TermOnce_l0] at hl89
            refine c_rs ?_ -- region 14
            refine s_x h rfl rfl (by decide) (x_bin h.k rfl rfl rfl ib_lss) (fun a h => ?_)
            refine l_end ?_
            refine c_cs h rfl (fun hb => ?_) (fun hb => ?_)
            · rw [if_pos (of_decide_eq_true hb)] at hl89
              refine wp_skip ?_
              refine e_thenN ?_
              obtain ⟨o91, hc92, hl89⟩ := bsome hl89
              refine c_cut (fun a w => ∃ (S93 : Snap), ∃ (x96 : (List (Int × Int × Int)) × (List ((Int × Int × Int) × Int)) × (List (Int × Int))), ∃ (A97 : Option Addr), ∃ (c98 : Nat), ∃ (cs99 : List Value), ∃ (g101 : Nat), ∃ (es102 : Array MapEntry), ∃ (cl103 : Nat), ∃ (g105 : Nat), ∃ (es106 : Array MapEntry), ∃ (cl107 : Nat), (.inr x96) = o91 ∧ Snap.le S55 S93 ∧ Up (ownL ([] ++ [.sn S0])) w0 S0 S93 ∧ reps (tyP tyI (tyP tyI tyI)) S93 cs99 x96.1 ∧ mpS keyT tyI false S93 es102 cl103 x96.2.1 ∧ mpS keyI tyI false S93 es106 cl107 x96.2.2 ∧ St 198 w0 (ownL ([] ++ [.sn S0])) [(8, .pointer (some ⟨g40, 0, none⟩)), (61, .slice Aa0 a0.length ca0), (62, .int .i64 (a0.length : Int)), (63, .int .i64 x58)] [.box g40 138 ([.slice A97 x96.1.length c98, .map (some g101), .map (some g105)]), .row (.slice A97 x96.1.length c98) 89 3 x96.1.length cs99, .obj g101 (.map es102 cl103), .obj g105 (.map es106 cl107), .sn S93] a w) ?_ ?_
              · refine wp_block ?_
                refine c_rs ?_ -- region 15
                obtain ⟨x109, h113, hc92⟩ := bsome hc92
                obtain ⟨m110, hi114, hm115, hx116⟩ := idx_some h113
                obtain ⟨b111, off112, k117, hA118, hu119, hc120⟩ := ((hsa0.mono (le39.trans le56))).at (by decide) hx116 (h.m.snOK (i := 4) rfl)
                obtain ⟨k121, k122, rfl, rfl, ⟨k123, k124, rfl, ⟨rfl, hr125⟩, ⟨k126, k127, rfl, ⟨rfl, hr128⟩, ⟨k129, k130, rfl, ⟨rfl, hr131⟩, ⟨rfl, hr132⟩⟩⟩⟩⟩ := hu119
                refine s_x h rfl rfl (by decide) (x_iaddrE h.k rfl Try.underlying96 sz_chatelainelaw36_Do hA118 rfl rfl hi114 hm115) (fun a h => ?_)
                refine s_x h rfl rfl (by decide) (x_ldR h.k rfl ag_chatelainelaw36_Do rfl ([.bool x109.1, .int .i64 x109.2.1, .int .i64 x109.2.2.1, .int .i64 x109.2.2.2.1, .int .i64 x109.2.2.2.2]) rfl (hc120 _ (h.m.snOK (i := 4) rfl))) (fun a h => ?_)
                refine s_alloc h rfl rfl rfl (by decide) zi_chatelainelaw36_Do rfl (fun a w g133 h => ?_)
                refine s_stW h rfl rfl rfl ag_chatelainelaw36_Do rfl (es := [.bool x109.1, .int .i64 x109.2.1, .int .i64 x109.2.2.1, .int .i64 x109.2.2.2.1, .int .i64 x109.2.2.2.2]) rfl rfl (by simp [Value.oneCell']) 0 rfl rfl (fun a w h => ?_)
                refine l_end ?_
                refine c_rs ?_ -- region 16
                refine s_move h rfl _ rfl rfl (by decide) rfl (fun a h => ?_)
                obtain ⟨x134, h135, hc92⟩ := bsome hc92
                have hX := term_Store_Len_ok Fu (S0 := snapAll _) g40 (x60.1, x60.2.1, x60.2.2) ⟨[.slice A61 x60.1.length c62, .map (some g65), .map (some g69)], h.m.boxAll (i := 1) rfl, ⟨[.slice A61 x60.1.length c62], [.map (some g65), .map (some g69)], rfl, ⟨_, _, rfl, h.m.rowAll (i := 2) rfl (j := 5) rfl hq64⟩, ⟨[.map (some g65)], [.map (some g69)], rfl, ⟨_, rfl, h.m.mapAll (i := 3) rfl (j := 5) rfl hm68⟩, ⟨_, rfl, h.m.mapAll (i := 4) rfl (j := 5) rfl hm72⟩⟩⟩⟩ _ h135 _ h.startAll
                refine q_callX hX h rfl rfl rfl (by decide) Try.func68 rfl rfl rfl (fun a w v L1 S1 hR hb1 h => ?_)
                obtain ⟨rfl, rfl, hr137, _⟩ := hR
                refine s_assign h rfl _ rfl rfl (by decide) rfl (fun a h => ?_)
                refine l_end ?_
                refine wp_seq ?_
                refine c_rs ?_ -- region 17
                refine s_x h rfl rfl (by decide) (x_faddr h.k rfl Try.underlying103 rfl sz_bool rfl) (fun a h => ?_)
                refine s_x h rfl rfl (by decide) (x_ld h.k rfl Try.underlying4 rfl rfl ((h.m.cell (i := 0) rfl 0).trans rfl)) (fun a h => ?_)
                refine l_end ?_
                refine c_cond h rfl (fun hb => ?_) (fun hb => ?_)
                · rw [if_pos hb] at hc92
                  refine wp_seq ?_
                  refine c_rs ?_ -- region 18
                  refine s_move h rfl _ rfl rfl (by decide) rfl (fun a h => ?_)
                  refine s_x h rfl rfl (by decide) (x_faddr h.k rfl Try.underlying103 rfl sz_int rfl) (fun a h => ?_)
                  refine s_x h rfl rfl (by decide) (x_ld h.k rfl Try.underlying3 rfl rfl ((h.m.cell (i := 0) rfl 1).trans rfl)) (fun a h => ?_)
                  obtain ⟨x138, h139, hc92⟩ := bsome hc92
                  have h := h.pick [1, 2, 3, 4, 5, 0] (by decide) rfl
                  have hX := term_Store_Fresh_ok Fu (S0 := S55) (x60.1, x60.2.1, x60.2.2) g40 A61 c62 cs63 g65 es66 cl67 g69 es70 cl71 hq64 hm68 hm72 x109.2.1 hr125 _ h139 _ (h.sub (Ls := [.box g40 138 ([.slice A61 x60.1.length c62, .map (some g65), .map (some g69)]), .row (.slice A61 x60.1.length c62) 89 3 x60.1.length cs63, .obj g65 (.map es66 cl67), .obj g69 (.map es70 cl71)]))
                  refine q_callY (Ls := [.box g40 138 ([.slice A61 x60.1.length c62, .map (some g65), .map (some g69)]), .row (.slice A61 x60.1.length c62) 89 3 x60.1.length cs63, .obj g65 (.map es66 cl67), .obj g69 (.map es70 cl71)]) hX h up57 rfl rfl rfl (by decide) Try.func64 rfl rfl rfl (fun a w v L1 S141 hR le143 up142 h => ?_)
                  obtain ⟨A146, c147, cs148, g150, es151, cl152, g154, es155, cl156, rfl, rfl, hr144, hr145, hq149, hm153, hm157, _⟩ := hR
                  refine s_move h rfl _ rfl rfl (by decide) rfl (fun a h => ?_)
                  refine s_x h rfl rfl (by decide) (x_ext h.k rfl rfl rfl) (fun a h => ?_)
                  refine s_x h rfl rfl (by decide) (x_ext h.k rfl rfl rfl) (fun a h => ?_)
                  refine s_assign h rfl _ rfl rfl (by decide) rfl (fun a h => ?_)
                  refine s_assign h rfl _ rfl rfl (by decide) rfl (fun a h => ?_)
                  refine l_end ?_
                  refine c_rs ?_ -- region 19
                  refine s_move h rfl _ rfl rfl (by decide) rfl (fun a h => ?_)
                  refine s_x h rfl rfl (by decide) (x_bin h.k rfl rfl rfl ib_eql) (fun a h => ?_)
                  refine s_move h rfl _ rfl rfl (by decide) rfl (fun a h => ?_)
                  obtain ⟨z159, hz158, hc92⟩ := bsome hc92
                  refine q_grp h 11 (t := 80) 91 z159 rfl (fun hB2 => ?_) (fun hB2 => ?_) (fun a w h => ?_)
                  · rw [if_pos (of_decide_eq_true hB2)] at hz158
                    refine g_yes h rfl rfl rfl rfl hB2 ?_
                    refine s_move h rfl _ rfl rfl (by decide) rfl (fun a h => ?_)
                    refine g_yes h rfl rfl rfl rfl hB2 ?_
                    refine s_move h rfl _ rfl rfl (by decide) rfl (fun a h => ?_)
                    refine g_yes h rfl rfl rfl rfl hB2 ?_
                    refine s_x h rfl rfl (by decide) (x_bin h.k rfl rfl rfl ib_neq) (fun a h => ?_)
                    refine g_yes h rfl rfl rfl rfl hB2 ?_
                    refine s_move h rfl _ rfl rfl (by decide) rfl (fun a h => ?_)
                    obtain ⟨z162, hz161, hz158⟩ := bsome hz158
                    refine q_grp h 6 (t := 84) 90 z162 rfl (fun hB6 => ?_) (fun hB6 => ?_) (fun a w h => ?_)
                    · refine g_no h rfl rfl rfl rfl hB6 rfl (by decide) (fun a h => ?_)
                      refine g_no h rfl rfl rfl rfl hB6 rfl (by decide) (fun a h => ?_)
                      refine g_no h rfl rfl rfl rfl hB6 rfl (by decide) (fun a h => ?_)
                      refine g_no h rfl rfl rfl rfl hB6 rfl (by decide) (fun a h => ?_)
                      refine g_no h rfl rfl rfl rfl hB6 rfl (by decide) (fun a h => ?_)
                      rw [if_pos (of_decide_eq_true hB6)] at hz161
                      refine g_yes h rfl rfl rfl rfl hB2 ?_
                      refine s_x h rfl rfl (by decide) (x_pick (u' := undef) h.k rfl rfl (fun _ => rfl) (fun hh => absurd (hB6.symm.trans hh) (by decide))) (fun a h => ?_)
                      exact (h.mid 5 rfl).val (by rw [Option.some.inj hz161])
                    · rw [if_neg (of_decide_eq_false hB6)] at hz161
                      refine g_yes h rfl rfl rfl rfl hB6 ?_
                      refine s_move h rfl _ rfl rfl (by decide) rfl (fun a h => ?_)
                      refine g_yes h rfl rfl rfl rfl hB6 ?_
                      obtain ⟨x164, h165, hz161⟩ := bsome hz161
                      have hX := term_Store_Len_ok Fu (S0 := snapAll _) g40 (x138.2.2.1, x138.2.2.2.1, x138.2.2.2.2) ⟨[.slice A146 x138.2.2.1.length c147, .map (some g150), .map (some g154)], h.m.boxAll (i := 0) rfl, ⟨[.slice A146 x138.2.2.1.length c147], [.map (some g150), .map (some g154)], rfl, ⟨_, _, rfl, h.m.rowAll (i := 1) rfl (j := 4) rfl hq149⟩, ⟨[.map (some g150)], [.map (some g154)], rfl, ⟨_, rfl, h.m.mapAll (i := 2) rfl (j := 4) rfl hm153⟩, ⟨_, rfl, h.m.mapAll (i := 3) rfl (j := 4) rfl hm157⟩⟩⟩⟩ _ h165 _ h.startAll
                      refine q_callX hX h rfl rfl rfl (by decide) Try.func68 rfl rfl rfl (fun a w v L1 S1 hR hb1 h => ?_)
                      obtain ⟨rfl, rfl, hr167, _⟩ := hR
                      refine g_yes h rfl rfl rfl rfl hB6 ?_
                      refine s_move h rfl _ rfl rfl (by decide) rfl (fun a h => ?_)
                      refine g_yes h rfl rfl rfl rfl hB6 ?_
                      refine s_x h rfl rfl (by decide) (x_bin h.k rfl rfl rfl (ib_add rfl)) (fun a h => ?_)
                      refine g_yes h rfl rfl rfl rfl hB6 ?_
                      refine s_x h rfl rfl (by decide) (x_bin h.k rfl rfl rfl ib_neq) (fun a h => ?_)
                      refine g_yes h rfl rfl rfl rfl hB2 ?_
                      refine s_x h rfl rfl (by decide) (x_pick (u' := undef) h.k rfl rfl (fun hh => absurd (hB6.symm.trans hh) (by decide)) (fun _ => rfl)) (fun a h => ?_)
                      exact (h.mid 5 rfl).val (by rw [Option.some.inj hz161])
                    refine s_x h rfl rfl (by decide) (x_pick (u' := undef) h.k rfl rfl (fun _ => rfl) (fun hh => absurd (hB2.symm.trans hh) (by decide))) (fun a h => ?_)
                    exact (h.mid 5 rfl).val (by rw [Option.some.inj hz158])
                  · refine g_no h rfl rfl rfl rfl hB2 rfl (by decide) (fun a h => ?_)
                    refine g_no h rfl rfl rfl rfl hB2 rfl (by decide) (fun a h => ?_)
                    refine g_no h rfl rfl rfl rfl hB2 rfl (by decide) (fun a h => ?_)
                    refine g_no h rfl rfl rfl rfl hB2 rfl (by decide) (fun a h => ?_)
                    refine g_off h rfl rfl rfl rfl rfl (by decide) (fun a h => ?_)
                    refine g_off h rfl rfl rfl rfl rfl (by decide) (fun a h => ?_)
                    refine g_off h rfl rfl rfl rfl rfl (by decide) (fun a h => ?_)
                    refine g_off h rfl rfl rfl rfl rfl (by decide) (fun a h => ?_)
                    refine g_off h rfl rfl rfl rfl rfl (by decide) (fun a h => ?_)
                    refine g_no h rfl rfl rfl rfl hB2 rfl (by decide) (fun a h => ?_)
                    rw [if_neg (of_decide_eq_false hB2)] at hz158
                    refine s_x h rfl rfl (by decide) (x_pick (u' := undef) h.k rfl rfl (fun hh => absurd (hB2.symm.trans hh) (by decide)) (fun _ => rfl)) (fun a h => ?_)
                    exact (h.mid 10 rfl).val (by rw [Option.some.inj hz158])
                  refine l_end ?_
                  refine c_cond h rfl (fun hb => ?_) (fun hb => ?_)
                  · rw [if_pos hb] at hc92
                    refine c_rs ?_ -- region 20
                    refine s_assign h rfl _ rfl rfl (by decide) rfl (fun a h => ?_)
                    refine l_end ?_
                    refine wp_ret ?_
                    refine e_thenR ?_
                    refine e_thenR ?_
                    refine e_blkR ?_
                    refine e_thenR ?_
                    cases hc92
                    try dsimp only at hl89
                    refine e_thenR ?_
                    refine e_blkR ?_
                    refine e_thenR ?_
                    cases hl89
                    try dsimp only at hf
                    refine e_thenR ?_
                    obtain rfl := Option.some.inj hf
                    exact r_ret1 h rfl (rv_tmp h rfl) ⟨_, [], _, rfl, ⟨rfl, rfl, trivial⟩, rfl, up142, (h.m.pick [4] _ (by decide) rfl)⟩
                  · rw [if_neg (by rw [hb]; decide)] at hc92
                    refine wp_skip ?_
                    refine e_thenN ?_
                    refine wp_exit ?_
                    refine e_thenX ?_
                    refine e_blkX ?_
                    refine e_thenN ?_
                    have h := h.pick [0, 1, 2, 3, 4] (by decide) rfl
                    exact ⟨S141, (x138.2.2.1, x138.2.2.2.1, x138.2.2.2.2), A146, c147, cs148, g150, es151, cl152, g154, es155, cl156, (Option.some.inj hc92), le143, up142, hq149, hm153, hm157, h.has (by exact ⟨rfl, rfl, rfl, rfl, trivial⟩)⟩
                · rw [if_neg (by rw [hb]; decide)] at hc92
                  refine wp_skip ?_
                  refine e_thenN ?_
                  refine c_rs ?_ -- region 21
                  refine s_move h rfl _ rfl rfl (by decide) rfl (fun a h => ?_)
                  refine s_x h rfl rfl (by decide) (x_faddr h.k rfl Try.underlying103 rfl sz_api_Term rfl) (fun a h => ?_)
                  refine s_x h rfl rfl (by decide) (x_ldR h.k rfl ag_api_Term rfl ([.int .i64 x109.2.2.1, .int .i64 x109.2.2.2.1, .int .i64 x109.2.2.2.2]) rfl (h.m.range (i := 0) rfl 2 3)) (fun a h => ?_)
                  obtain ⟨x168, h169, hc92⟩ := bsome hc92
                  have h := h.pick [1, 2, 3, 4, 5, 0] (by decide) rfl
                  have hX := term_Store_Put_ok Fu (S0 := S55) (x60.1, x60.2.1, x60.2.2) g40 A61 c62 cs63 g65 es66 cl67 g69 es70 cl71 hq64 hm68 hm72 ([.int .i64 x109.2.2.1, .int .i64 x109.2.2.2.1, .int .i64 x109.2.2.2.2]) x109.2.2 (⟨[.int .i64 x109.2.2.1], [.int .i64 x109.2.2.2.1, .int .i64 x109.2.2.2.2], rfl, ⟨rfl, hr128⟩, ⟨[.int .i64 x109.2.2.2.1], [.int .i64 x109.2.2.2.2], rfl, ⟨rfl, hr131⟩, ⟨rfl, hr132⟩⟩⟩) _ h169 _ (h.sub (Ls := [.box g40 138 ([.slice A61 x60.1.length c62, .map (some g65), .map (some g69)]), .row (.slice A61 x60.1.length c62) 89 3 x60.1.length cs63, .obj g65 (.map es66 cl67), .obj g69 (.map es70 cl71)]))
                  refine q_callY (Ls := [.box g40 138 ([.slice A61 x60.1.length c62, .map (some g65), .map (some g69)]), .row (.slice A61 x60.1.length c62) 89 3 x60.1.length cs63, .obj g65 (.map es66 cl67), .obj g69 (.map es70 cl71)]) hX h up57 rfl rfl rfl (by decide) Try.func66 rfl rfl rfl (fun a w v L1 S171 hR le173 up172 h => ?_)
                  obtain ⟨A176, c177, cs178, g180, es181, cl182, g184, es185, cl186, rfl, rfl, hr174, hr175, hq179, hm183, hm187, _⟩ := hR
                  refine s_move h rfl _ rfl rfl (by decide) rfl (fun a h => ?_)
                  refine s_x h rfl rfl (by decide) (x_ext h.k rfl rfl rfl) (fun a h => ?_)
                  refine s_x h rfl rfl (by decide) (x_ext h.k rfl rfl rfl) (fun a h => ?_)
                  refine s_assign h rfl _ rfl rfl (by decide) rfl (fun a h => ?_)
                  refine s_assign h rfl _ rfl rfl (by decide) rfl (fun a h => ?_)
                  refine l_end ?_
                  refine wp_seq ?_
                  refine c_rs ?_ -- region 22
                  refine s_move h rfl _ rfl rfl (by decide) rfl (fun a h => ?_)
                  refine s_x h rfl rfl (by decide) (x_bin h.k rfl rfl rfl ib_neq) (fun a h => ?_)
                  refine l_end ?_
                  refine c_cond h rfl (fun hb => ?_) (fun hb => ?_)
                  · rw [if_pos (of_decide_eq_true hb)] at hc92
                    refine wp_seq ?_
                    refine c_rs ?_ -- region 23
                    refine s_move h rfl _ rfl rfl (by decide) rfl (fun a h => ?_)
                    obtain ⟨x188, h189, hc92⟩ := bsome hc92
                    have hX := term_Store_Len_ok Fu (S0 := snapAll _) g40 (x168.2.2.1, x168.2.2.2.1, x168.2.2.2.2) ⟨[.slice A176 x168.2.2.1.length c177, .map (some g180), .map (some g184)], h.m.boxAll (i := 0) rfl, ⟨[.slice A176 x168.2.2.1.length c177], [.map (some g180), .map (some g184)], rfl, ⟨_, _, rfl, h.m.rowAll (i := 1) rfl (j := 4) rfl hq179⟩, ⟨[.map (some g180)], [.map (some g184)], rfl, ⟨_, rfl, h.m.mapAll (i := 2) rfl (j := 4) rfl hm183⟩, ⟨_, rfl, h.m.mapAll (i := 3) rfl (j := 4) rfl hm187⟩⟩⟩⟩ _ h189 _ h.startAll
                    refine q_callX hX h rfl rfl rfl (by decide) Try.func68 rfl rfl rfl (fun a w v L1 S1 hR hb1 h => ?_)
                    obtain ⟨rfl, rfl, hr191, _⟩ := hR
                    refine s_move h rfl _ rfl rfl (by decide) rfl (fun a h => ?_)
                    refine s_x h rfl rfl (by decide) (x_bin h.k rfl rfl rfl ib_neq) (fun a h => ?_)
                    refine s_move h rfl _ rfl rfl (by decide) rfl (fun a h => ?_)
                    refine q_grp h 3 (t := 105) 108 ((decide (x188 ≠ x134)) || (decide (x168.1 ≠ 0))) rfl (fun hB4 => ?_) (fun hB4 => ?_) (fun a w h => ?_)
                    · refine g_no h rfl rfl rfl rfl hB4 rfl (by decide) (fun a h => ?_)
                      refine g_no h rfl rfl rfl rfl hB4 rfl (by decide) (fun a h => ?_)
                      refine s_x h rfl rfl (by decide) (x_pick (u' := undef) h.k rfl rfl (fun _ => rfl) (fun hh => absurd (hB4.symm.trans hh) (by decide))) (fun a h => ?_)
                      exact (h.mid 2 rfl).val (by first | rfl | (rw [hB4]; first | rfl | simp))
                    · refine g_yes h rfl rfl rfl rfl hB4 ?_
                      refine s_move h rfl _ rfl rfl (by decide) rfl (fun a h => ?_)
                      refine g_yes h rfl rfl rfl rfl hB4 ?_
                      refine s_x h rfl rfl (by decide) (x_bin h.k rfl rfl rfl ib_neq) (fun a h => ?_)
                      refine s_x h rfl rfl (by decide) (x_pick (u' := undef) h.k rfl rfl (fun hh => absurd (hB4.symm.trans hh) (by decide)) (fun _ => rfl)) (fun a h => ?_)
                      exact (h.mid 2 rfl).val (by first | rfl | (rw [hB4]; first | rfl | simp))
                    refine l_end ?_
                    refine c_cond h rfl (fun hb => ?_) (fun hb => ?_)
                    · rw [if_pos hb] at hc92
                      refine c_rs ?_ -- region 24
                      refine s_assign h rfl _ rfl rfl (by decide) rfl (fun a h => ?_)
                      refine l_end ?_
                      refine wp_ret ?_
                      refine e_thenR ?_
                      refine e_thenR ?_
                      refine e_blkR ?_
                      refine e_thenR ?_
                      cases hc92
                      try dsimp only at hl89
                      refine e_thenR ?_
                      refine e_blkR ?_
                      refine e_thenR ?_
                      cases hl89
                      try dsimp only at hf
                      refine e_thenR ?_
                      obtain rfl := Option.some.inj hf
                      exact r_ret1 h rfl (rv_tmp h rfl) ⟨_, [], _, rfl, ⟨rfl, rfl, trivial⟩, rfl, up172, (h.m.pick [4] _ (by decide) rfl)⟩
                    · rw [if_neg (by rw [hb]; decide)] at hc92
                      refine wp_skip ?_
                      refine e_thenN ?_
                      refine wp_exit ?_
                      refine e_thenX ?_
                      refine e_blkX ?_
                      refine e_thenN ?_
                      have h := h.pick [0, 1, 2, 3, 4] (by decide) rfl
                      exact ⟨S171, (x168.2.2.1, x168.2.2.2.1, x168.2.2.2.2), A176, c177, cs178, g180, es181, cl182, g184, es185, cl186, (Option.some.inj hc92), le173, up172, hq179, hm183, hm187, h.has (by exact ⟨rfl, rfl, rfl, rfl, trivial⟩)⟩
                  · rw [if_neg (of_decide_eq_false hb)] at hc92
                    refine wp_skip ?_
                    refine e_thenN ?_
                    refine c_rs ?_ -- region 25
                    refine s_move h rfl _ rfl rfl (by decide) rfl (fun a h => ?_)
                    refine s_x h rfl rfl (by decide) (x_faddr h.k rfl Try.underlying103 rfl sz_api_Term rfl) (fun a h => ?_)
                    refine s_x h rfl rfl (by decide) (x_ldR h.k rfl ag_api_Term rfl ([.int .i64 x109.2.2.1, .int .i64 x109.2.2.2.1, .int .i64 x109.2.2.2.2]) rfl (h.m.range (i := 5) rfl 2 3)) (fun a h => ?_)
                    obtain ⟨x194, h195, hc92⟩ := bsome hc92
                    have hX := term_Store_Put_ok Fu (S0 := S171) (x168.2.2.1, x168.2.2.2.1, x168.2.2.2.2) g40 A176 c177 cs178 g180 es181 cl182 g184 es185 cl186 hq179 hm183 hm187 ([.int .i64 x109.2.2.1, .int .i64 x109.2.2.2.1, .int .i64 x109.2.2.2.2]) x109.2.2 (⟨[.int .i64 x109.2.2.1], [.int .i64 x109.2.2.2.1, .int .i64 x109.2.2.2.2], rfl, ⟨rfl, hr128⟩, ⟨[.int .i64 x109.2.2.2.1], [.int .i64 x109.2.2.2.2], rfl, ⟨rfl, hr131⟩, ⟨rfl, hr132⟩⟩⟩) _ h195 _ (h.sub (Ls := [.box g40 138 ([.slice A176 x168.2.2.1.length c177, .map (some g180), .map (some g184)]), .row (.slice A176 x168.2.2.1.length c177) 89 3 x168.2.2.1.length cs178, .obj g180 (.map es181 cl182), .obj g184 (.map es185 cl186)]))
                    refine q_callY (Ls := [.box g40 138 ([.slice A176 x168.2.2.1.length c177, .map (some g180), .map (some g184)]), .row (.slice A176 x168.2.2.1.length c177) 89 3 x168.2.2.1.length cs178, .obj g180 (.map es181 cl182), .obj g184 (.map es185 cl186)]) hX h up172 rfl rfl rfl (by decide) Try.func66 rfl rfl rfl (fun a w v L1 S197 hR le199 up198 h => ?_)
                    obtain ⟨A202, c203, cs204, g206, es207, cl208, g210, es211, cl212, rfl, rfl, hr200, hr201, hq205, hm209, hm213, _⟩ := hR
                    refine s_move h rfl _ rfl rfl (by decide) rfl (fun a h => ?_)
                    refine s_x h rfl rfl (by decide) (x_ext h.k rfl rfl rfl) (fun a h => ?_)
                    refine s_x h rfl rfl (by decide) (x_ext h.k rfl rfl rfl) (fun a h => ?_)
                    refine s_assign h rfl _ rfl rfl (by decide) rfl (fun a h => ?_)
                    refine s_assign h rfl _ rfl rfl (by decide) rfl (fun a h => ?_)
                    refine l_end ?_
                    refine c_rs ?_ -- region 26
                    refine s_move h rfl _ rfl rfl (by decide) rfl (fun a h => ?_)
                    refine s_move h rfl _ rfl rfl (by decide) rfl (fun a h => ?_)
                    obtain ⟨x214, h215, hc92⟩ := bsome hc92
                    have hX := term_Store_Get_ok Fu (S0 := snapAll _) g40 (x194.2.2.1, x194.2.2.2.1, x194.2.2.2.2) ⟨[.slice A202 x194.2.2.1.length c203, .map (some g206), .map (some g210)], h.m.boxAll (i := 0) rfl, ⟨[.slice A202 x194.2.2.1.length c203], [.map (some g206), .map (some g210)], rfl, ⟨_, _, rfl, h.m.rowAll (i := 1) rfl (j := 4) rfl hq205⟩, ⟨[.map (some g206)], [.map (some g210)], rfl, ⟨_, rfl, h.m.mapAll (i := 2) rfl (j := 4) rfl hm209⟩, ⟨_, rfl, h.m.mapAll (i := 3) rfl (j := 4) rfl hm213⟩⟩⟩⟩ x168.1 hr174 _ h215 _ h.startAll
                    refine q_callX hX h rfl rfl rfl (by decide) Try.func69 rfl rfl rfl (fun a w v L1 S1 hR hb1 h => ?_)
                    obtain ⟨k217, rfl, rfl, hv218, _⟩ := hR
                    obtain ⟨k219, k220, rfl, ⟨rfl, hr221⟩, ⟨k222, k223, rfl, ⟨rfl, hr224⟩, ⟨rfl, hr225⟩⟩⟩ := hv218
                    refine s_move h rfl _ rfl rfl (by decide) rfl (fun a h => ?_)
                    refine s_x h rfl rfl (by decide) (x_ext h.k rfl rfl rfl) (fun a h => ?_)
                    refine s_x h rfl rfl (by decide) (x_ext h.k rfl rfl rfl) (fun a h => ?_)
                    refine s_alloc h rfl rfl rfl (by decide) zi_api_Term rfl (fun a w g226 h => ?_)
                    refine s_stW h rfl rfl rfl ag_api_Term rfl (es := [.int .i64 x214.1.1, .int .i64 x214.1.2.1, .int .i64 x214.1.2.2]) rfl rfl (by simp [Value.oneCell']) 0 rfl rfl (fun a w h => ?_)
                    refine s_assign h rfl _ rfl rfl (by decide) rfl (fun a h => ?_)
                    refine l_end ?_
                    refine wp_seq ?_
                    refine c_rs ?_ -- region 27
                    refine s_move h rfl _ rfl rfl (by decide) rfl (fun a h => ?_)
                    refine s_x h rfl rfl (by decide) (x_bin h.k rfl rfl rfl ib_neq) (fun a h => ?_)
                    refine s_move h rfl _ rfl rfl (by decide) rfl (fun a h => ?_)
                    refine q_grp h 4 (t := 124) 128 ((decide (x194.2.1 ≠ 0)) || (decide (x168.1 ≠ x194.1))) rfl (fun hB2 => ?_) (fun hB2 => ?_) (fun a w h => ?_)
                    · refine g_no h rfl rfl rfl rfl hB2 rfl (by decide) (fun a h => ?_)
                      refine g_no h rfl rfl rfl rfl hB2 rfl (by decide) (fun a h => ?_)
                      refine g_no h rfl rfl rfl rfl hB2 rfl (by decide) (fun a h => ?_)
                      refine s_x h rfl rfl (by decide) (x_pick (u' := undef) h.k rfl rfl (fun _ => rfl) (fun hh => absurd (hB2.symm.trans hh) (by decide))) (fun a h => ?_)
                      exact (h.mid 3 rfl).val (by first | rfl | (rw [hB2]; first | rfl | simp))
                    · refine g_yes h rfl rfl rfl rfl hB2 ?_
                      refine s_move h rfl _ rfl rfl (by decide) rfl (fun a h => ?_)
                      refine g_yes h rfl rfl rfl rfl hB2 ?_
                      refine s_move h rfl _ rfl rfl (by decide) rfl (fun a h => ?_)
                      refine g_yes h rfl rfl rfl rfl hB2 ?_
                      refine s_x h rfl rfl (by decide) (x_bin h.k rfl rfl rfl ib_neq) (fun a h => ?_)
                      refine s_x h rfl rfl (by decide) (x_pick (u' := undef) h.k rfl rfl (fun hh => absurd (hB2.symm.trans hh) (by decide)) (fun _ => rfl)) (fun a h => ?_)
                      exact (h.mid 3 rfl).val (by first | rfl | (rw [hB2]; first | rfl | simp))
                    refine s_move h rfl _ rfl rfl (by decide) rfl (fun a h => ?_)
                    refine q_grp h 3 (t := 129) 132 (((decide (x194.2.1 ≠ 0)) || (decide (x168.1 ≠ x194.1))) || (!x214.2)) rfl (fun hB7 => ?_) (fun hB7 => ?_) (fun a w h => ?_)
                    · refine g_no h rfl rfl rfl rfl hB7 rfl (by decide) (fun a h => ?_)
                      refine g_no h rfl rfl rfl rfl hB7 rfl (by decide) (fun a h => ?_)
                      refine s_x h rfl rfl (by decide) (x_pick (u' := undef) h.k rfl rfl (fun _ => rfl) (fun hh => absurd (hB7.symm.trans hh) (by decide))) (fun a h => ?_)
                      exact (h.mid 2 rfl).val (by first | rfl | (rw [hB7]; first | rfl | simp))
                    · refine g_yes h rfl rfl rfl rfl hB7 ?_
                      refine s_move h rfl _ rfl rfl (by decide) rfl (fun a h => ?_)
                      refine g_yes h rfl rfl rfl rfl hB7 ?_
                      refine s_x h rfl rfl (by decide) (x_not h.k rfl rfl) (fun a h => ?_)
                      refine s_x h rfl rfl (by decide) (x_pick (u' := undef) h.k rfl rfl (fun hh => absurd (hB7.symm.trans hh) (by decide)) (fun _ => rfl)) (fun a h => ?_)
                      exact (h.mid 2 rfl).val (by first | rfl | (rw [hB7]; first | rfl | simp))
                    refine s_move h rfl _ rfl rfl (by decide) rfl (fun a h => ?_)
                    refine q_grp h 5 (t := 133) 138 ((((decide (x194.2.1 ≠ 0)) || (decide (x168.1 ≠ x194.1))) || (!x214.2)) || (!(decide (x214.1 = x109.2.2)))) rfl (fun hB11 => ?_) (fun hB11 => ?_) (fun a w h => ?_)
                    · refine g_no h rfl rfl rfl rfl hB11 rfl (by decide) (fun a h => ?_)
                      refine g_no h rfl rfl rfl rfl hB11 rfl (by decide) (fun a h => ?_)
                      refine g_no h rfl rfl rfl rfl hB11 rfl (by decide) (fun a h => ?_)
                      refine g_no h rfl rfl rfl rfl hB11 rfl (by decide) (fun a h => ?_)
                      refine s_x h rfl rfl (by decide) (x_pick (u' := undef) h.k rfl rfl (fun _ => rfl) (fun hh => absurd (hB11.symm.trans hh) (by decide))) (fun a h => ?_)
                      exact (h.mid 4 rfl).val (by first | rfl | (rw [hB11]; first | rfl | simp))
                    · refine g_yes h rfl rfl rfl rfl hB11 ?_
                      refine s_x h rfl rfl (by decide) (x_ldR h.k rfl ag_api_Term rfl ([.int .i64 x214.1.1, .int .i64 x214.1.2.1, .int .i64 x214.1.2.2]) rfl (h.m.range0 (i := 0) rfl)) (fun a h => ?_)
                      refine g_yes h rfl rfl rfl rfl hB11 ?_
                      refine s_x h rfl rfl (by decide) (x_faddr h.k rfl Try.underlying103 rfl sz_api_Term rfl) (fun a h => ?_)
                      refine g_yes h rfl rfl rfl rfl hB11 ?_
                      refine s_x h rfl rfl (by decide) (x_ldR h.k rfl ag_api_Term rfl ([.int .i64 x109.2.2.1, .int .i64 x109.2.2.2.1, .int .i64 x109.2.2.2.2]) rfl (h.m.range (i := 6) rfl 2 3)) (fun a h => ?_)
                      refine g_yes h rfl rfl rfl rfl hB11 ?_
                      refine s_x h rfl rfl (by decide) (x_neqS h.k rfl rfl rfl gd_api_Term (eqs_api_Term _ x214.1 x109.2.2)) (fun a h => ?_)
                      refine s_x h rfl rfl (by decide) (x_pick (u' := undef) h.k rfl rfl (fun hh => absurd (hB11.symm.trans hh) (by decide)) (fun _ => rfl)) (fun a h => ?_)
                      exact (h.mid 4 rfl).val (by first | rfl | (rw [hB11]; first | rfl | simp))
                    refine s_move h rfl _ rfl rfl (by decide) rfl (fun a h => ?_)
                    obtain ⟨z234, hz233, hc92⟩ := bsome hc92
                    refine q_grp h 6 (t := 139) 145 z234 rfl (fun hB17 => ?_) (fun hB17 => ?_) (fun a w h => ?_)
                    · refine g_no h rfl rfl rfl rfl hB17 rfl (by decide) (fun a h => ?_)
                      refine g_no h rfl rfl rfl rfl hB17 rfl (by decide) (fun a h => ?_)
                      refine g_no h rfl rfl rfl rfl hB17 rfl (by decide) (fun a h => ?_)
                      refine g_no h rfl rfl rfl rfl hB17 rfl (by decide) (fun a h => ?_)
                      refine g_no h rfl rfl rfl rfl hB17 rfl (by decide) (fun a h => ?_)
                      rw [if_pos hB17] at hz233
                      refine s_x h rfl rfl (by decide) (x_pick (u' := undef) h.k rfl rfl (fun _ => rfl) (fun hh => absurd (hB17.symm.trans hh) (by decide))) (fun a h => ?_)
                      exact (h.mid 5 rfl).val (by rw [Option.some.inj hz233])
                    · rw [if_neg (by rw [hB17]; decide)] at hz233
                      refine g_yes h rfl rfl rfl rfl hB17 ?_
                      refine s_move h rfl _ rfl rfl (by decide) rfl (fun a h => ?_)
                      refine g_yes h rfl rfl rfl rfl hB17 ?_
                      obtain ⟨x236, h237, hz233⟩ := bsome hz233
                      have hX := term_Store_Len_ok Fu (S0 := snapAll _) g40 (x194.2.2.1, x194.2.2.2.1, x194.2.2.2.2) ⟨[.slice A202 x194.2.2.1.length c203, .map (some g206), .map (some g210)], h.m.boxAll (i := 1) rfl, ⟨[.slice A202 x194.2.2.1.length c203], [.map (some g206), .map (some g210)], rfl, ⟨_, _, rfl, h.m.rowAll (i := 2) rfl (j := 5) rfl hq205⟩, ⟨[.map (some g206)], [.map (some g210)], rfl, ⟨_, rfl, h.m.mapAll (i := 3) rfl (j := 5) rfl hm209⟩, ⟨_, rfl, h.m.mapAll (i := 4) rfl (j := 5) rfl hm213⟩⟩⟩⟩ _ h237 _ h.startAll
                      refine q_callX hX h rfl rfl rfl (by decide) Try.func68 rfl rfl rfl (fun a w v L1 S1 hR hb1 h => ?_)
                      obtain ⟨rfl, rfl, hr239, _⟩ := hR
                      refine g_yes h rfl rfl rfl rfl hB17 ?_
                      refine s_move h rfl _ rfl rfl (by decide) rfl (fun a h => ?_)
                      refine g_yes h rfl rfl rfl rfl hB17 ?_
                      refine s_x h rfl rfl (by decide) (x_bin h.k rfl rfl rfl (ib_add rfl)) (fun a h => ?_)
                      refine g_yes h rfl rfl rfl rfl hB17 ?_
                      refine s_x h rfl rfl (by decide) (x_bin h.k rfl rfl rfl ib_gtr) (fun a h => ?_)
                      refine s_x h rfl rfl (by decide) (x_pick (u' := undef) h.k rfl rfl (fun hh => absurd (hB17.symm.trans hh) (by decide)) (fun _ => rfl)) (fun a h => ?_)
                      exact (h.mid 5 rfl).val (by rw [Option.some.inj hz233])
                    refine l_end ?_
                    refine c_cond h rfl (fun hb => ?_) (fun hb => ?_)
                    · rw [if_pos hb] at hc92
                      refine c_rs ?_ -- region 28
                      refine s_assign h rfl _ rfl rfl (by decide) rfl (fun a h => ?_)
                      refine l_end ?_
                      refine wp_ret ?_
                      refine e_thenR ?_
                      refine e_blkR ?_
                      refine e_thenR ?_
                      cases hc92
                      try dsimp only at hl89
                      refine e_thenR ?_
                      refine e_blkR ?_
                      refine e_thenR ?_
                      cases hl89
                      try dsimp only at hf
                      refine e_thenR ?_
                      obtain rfl := Option.some.inj hf
                      exact r_ret1 h rfl (rv_tmp h rfl) ⟨_, [], _, rfl, ⟨rfl, rfl, trivial⟩, rfl, up198, (h.m.pick [5] _ (by decide) rfl)⟩
                    · rw [if_neg (by rw [hb]; decide)] at hc92
                      refine wp_skip ?_
                      refine e_thenN ?_
                      refine c_rs ?_ -- region 29
                      refine s_move h rfl _ rfl rfl (by decide) rfl (fun a h => ?_)
                      refine s_move h rfl _ rfl rfl (by decide) rfl (fun a h => ?_)
                      obtain ⟨x240, h241, hc92⟩ := bsome hc92
                      have hX := term_Store_Parts_ok Fu (S0 := snapAll _) g40 (x194.2.2.1, x194.2.2.2.1, x194.2.2.2.2) ⟨[.slice A202 x194.2.2.1.length c203, .map (some g206), .map (some g210)], h.m.boxAll (i := 1) rfl, ⟨[.slice A202 x194.2.2.1.length c203], [.map (some g206), .map (some g210)], rfl, ⟨_, _, rfl, h.m.rowAll (i := 2) rfl (j := 5) rfl hq205⟩, ⟨[.map (some g206)], [.map (some g210)], rfl, ⟨_, rfl, h.m.mapAll (i := 3) rfl (j := 5) rfl hm209⟩, ⟨_, rfl, h.m.mapAll (i := 4) rfl (j := 5) rfl hm213⟩⟩⟩⟩ x168.1 hr174 _ h241 _ h.startAll
                      refine q_callX hX h rfl rfl rfl (by decide) Try.func70 rfl rfl rfl (fun a w v L1 S1 hR hb1 h => ?_)
                      obtain ⟨A243, c244, cs245, rfl, rfl, hq246, _⟩ := hR
                      have hq247 := hq246.fl (S' := S197) fl_I
                      have hr248 : r64 (x240.length : Int) := len_r (h.m.rowLen (i := 0) rfl)
                      refine s_x h rfl rfl (by decide) (x_len h.k rfl Try.underlying78 rfl) (fun a h => ?_)
                      refine s_move h rfl _ rfl rfl (by decide) rfl (fun a h => ?_)
                      refine l_end ?_
                      obtain ⟨o249, hl250, hc92⟩ := bsome hc92
                      refine c_fin (fun a w => (.inr ()) = o249 ∧ St 198 w0 (ownL ([] ++ [.sn S0])) [(8, .pointer (some ⟨g40, 0, none⟩)), (61, .slice Aa0 a0.length ca0), (62, .int .i64 (a0.length : Int)), (63, .int .i64 x58)] [.box g40 138 ([.slice A202 x194.2.2.1.length c203, .map (some g206), .map (some g210)]), .row (.slice A202 x194.2.2.1.length c203) 89 3 x194.2.2.1.length cs204, .obj g206 (.map es207 cl208), .obj g210 (.map es211 cl212), .sn S197] a w) ?_ ?_
                      · refine wp_block ?_
                        have h := h.pick [2, 3, 4, 5, 0, 6] (by decide) rfl
                        refine c_loop (fun m254 a w => ∃ (x251 : Int), chatelainelaw36_TermOnce_l1 Fu x168 x194 x240 m254 x251 = some o249 ∧ r64 x251 ∧ St 198 w0 (ownL ([] ++ [.sn S0])) [(8, .pointer (some ⟨g40, 0, none⟩)), (14, .int .i64 x168.1), (61, .slice Aa0 a0.length ca0), (62, .int .i64 (a0.length : Int)), (63, .int .i64 x58), (148, .slice A243 x240.length c244), (149, .int .i64 (x240.length : Int)), (150, .int .i64 x251)] [.box g40 138 ([.slice A202 x194.2.2.1.length c203, .map (some g206), .map (some g210)]), .row (.slice A202 x194.2.2.1.length c203) 89 3 x194.2.2.1.length cs204, .obj g206 (.map es207 cl208), .obj g210 (.map es211 cl212), .row (.slice A243 x240.length c244) 3 1 x240.length cs245, .sn S197] a w) Fu ⟨0, hl250, (show r64 0 from ⟨by decide, by decide⟩), h.has (by exact ⟨rfl, rfl, rfl, rfl, rfl, rfl, rfl, rfl, trivial⟩)⟩ (fun m254 a w hI => ?_)
                        obtain ⟨x251, hl253, hr252, h⟩ := hI
                        obtain _ | m254 := m254
                        · rw [chatelainelaw36_TermOnce_l1] at hl253; cases hl253
                        rw [chatelainelaw36_TermOnce_l1] at hl253
                        refine c_rs ?_ -- region 30
                        refine s_x h rfl rfl (by decide) (x_bin h.k rfl rfl rfl ib_lss) (fun a h => ?_)
                        refine l_end ?_
                        refine c_cs h rfl (fun hb => ?_) (fun hb => ?_)
                        · rw [if_pos (of_decide_eq_true hb)] at hl253
                          refine wp_skip ?_
                          refine e_thenN ?_
                          refine wp_seq ?_
                          refine wp_block ?_
                          refine c_rs ?_ -- region 31
                          obtain ⟨m255, h256, hl253⟩ := bsome hl253
                          obtain ⟨hi257, hm258⟩ := ix_some h256
                          obtain ⟨g260, hA259⟩ := h.m.rowHead (i := 4) rfl (Nat.lt_of_le_of_lt (Nat.zero_le _) hm258)
                          refine s_x h rfl rfl (by decide) (x_iaddrE h.k rfl Try.underlying78 sz_int hA259 rfl rfl hi257 hm258) (fun a h => ?_)
                          obtain ⟨x261, h262, hl253⟩ := bsome hl253
                          obtain ⟨u263, hv264, hu265⟩ := (hq247).cell rfl h262
                          obtain ⟨e267, hr266⟩ := hu265
                          cases e267
                          refine s_x h rfl rfl (by decide) (x_ld h.k rfl Try.underlying3 rfl rfl (h.m.cellRowE (i := 4) rfl hA259 _ (by rw [Nat.mul_one]; exact hv264))) (fun a h => ?_)
                          refine s_assign h rfl _ rfl rfl (by decide) rfl (fun a h => ?_)
                          refine l_end ?_
                          refine c_rs ?_ -- region 32
                          refine s_move h rfl _ rfl rfl (by decide) rfl (fun a h => ?_)
                          refine s_x h rfl rfl (by decide) (x_bin h.k rfl rfl rfl ib_lss) (fun a h => ?_)
                          refine s_move h rfl _ rfl rfl (by decide) rfl (fun a h => ?_)
                          refine q_grp h 4 (t := 156) 160 ((decide (x261 < 0)) || (decide (x168.1 ≤ x261))) rfl (fun hB2 => ?_) (fun hB2 => ?_) (fun a w h => ?_)
                          · refine g_no h rfl rfl rfl rfl hB2 rfl (by decide) (fun a h => ?_)
                            refine g_no h rfl rfl rfl rfl hB2 rfl (by decide) (fun a h => ?_)
                            refine g_no h rfl rfl rfl rfl hB2 rfl (by decide) (fun a h => ?_)
                            refine s_x h rfl rfl (by decide) (x_pick (u' := undef) h.k rfl rfl (fun _ => rfl) (fun hh => absurd (hB2.symm.trans hh) (by decide))) (fun a h => ?_)
                            exact (h.mid 3 rfl).val (by first | rfl | (rw [hB2]; first | rfl | simp))
                          · refine g_yes h rfl rfl rfl rfl hB2 ?_
                            refine s_move h rfl _ rfl rfl (by decide) rfl (fun a h => ?_)
                            refine g_yes h rfl rfl rfl rfl hB2 ?_
                            refine s_move h rfl _ rfl rfl (by decide) rfl (fun a h => ?_)
                            refine g_yes h rfl rfl rfl rfl hB2 ?_
                            refine s_x h rfl rfl (by decide) (x_bin h.k rfl rfl rfl ib_geq) (fun a h => ?_)
                            refine s_x h rfl rfl (by decide) (x_pick (u' := undef) h.k rfl rfl (fun hh => absurd (hB2.symm.trans hh) (by decide)) (fun _ => rfl)) (fun a h => ?_)
                            exact (h.mid 3 rfl).val (by first | rfl | (rw [hB2]; first | rfl | simp))
                          refine s_move h rfl _ rfl rfl (by decide) rfl (fun a h => ?_)
                          obtain ⟨z271, hz270, hl253⟩ := bsome hl253
                          refine q_grp h 8 (t := 161) 169 z271 rfl (fun hB7 => ?_) (fun hB7 => ?_) (fun a w h => ?_)
                          · refine g_no h rfl rfl rfl rfl hB7 rfl (by decide) (fun a h => ?_)
                            refine g_no h rfl rfl rfl rfl hB7 rfl (by decide) (fun a h => ?_)
                            refine g_no h rfl rfl rfl rfl hB7 rfl (by decide) (fun a h => ?_)
                            refine g_no h rfl rfl rfl rfl hB7 rfl (by decide) (fun a h => ?_)
                            refine g_no h rfl rfl rfl rfl hB7 rfl (by decide) (fun a h => ?_)
                            refine g_no h rfl rfl rfl rfl hB7 rfl (by decide) (fun a h => ?_)
                            refine g_no h rfl rfl rfl rfl hB7 rfl (by decide) (fun a h => ?_)
                            rw [if_pos hB7] at hz270
                            refine s_x h rfl rfl (by decide) (x_pick (u' := undef) h.k rfl rfl (fun _ => rfl) (fun hh => absurd (hB7.symm.trans hh) (by decide))) (fun a h => ?_)
                            exact (h.mid 7 rfl).val (by rw [Option.some.inj hz270])
                          · rw [if_neg (by rw [hB7]; decide)] at hz270
                            refine g_yes h rfl rfl rfl rfl hB7 ?_
                            refine s_move h rfl _ rfl rfl (by decide) rfl (fun a h => ?_)
                            refine g_yes h rfl rfl rfl rfl hB7 ?_
                            refine s_move h rfl _ rfl rfl (by decide) rfl (fun a h => ?_)
                            refine g_yes h rfl rfl rfl rfl hB7 ?_
                            obtain ⟨x273, h274, hz270⟩ := bsome hz270
                            have hX := term_Store_Depth_ok Fu (S0 := snapAll _) g40 (x194.2.2.1, x194.2.2.2.1, x194.2.2.2.2) ⟨[.slice A202 x194.2.2.1.length c203, .map (some g206), .map (some g210)], h.m.boxAll (i := 0) rfl, ⟨[.slice A202 x194.2.2.1.length c203], [.map (some g206), .map (some g210)], rfl, ⟨_, _, rfl, h.m.rowAll (i := 1) rfl (j := 5) rfl hq205⟩, ⟨[.map (some g206)], [.map (some g210)], rfl, ⟨_, rfl, h.m.mapAll (i := 2) rfl (j := 5) rfl hm209⟩, ⟨_, rfl, h.m.mapAll (i := 3) rfl (j := 5) rfl hm213⟩⟩⟩⟩ x261 hr266 _ h274 _ h.startAll
                            refine q_callX hX h rfl rfl rfl (by decide) Try.func71 rfl rfl rfl (fun a w v L1 S1 hR hb1 h => ?_)
                            obtain ⟨rfl, rfl, hr276, _⟩ := hR
                            refine g_yes h rfl rfl rfl rfl hB7 ?_
                            refine s_move h rfl _ rfl rfl (by decide) rfl (fun a h => ?_)
                            refine g_yes h rfl rfl rfl rfl hB7 ?_
                            refine s_move h rfl _ rfl rfl (by decide) rfl (fun a h => ?_)
                            refine g_yes h rfl rfl rfl rfl hB7 ?_
                            obtain ⟨x277, h278, hz270⟩ := bsome hz270
                            have hX := term_Store_Depth_ok Fu (S0 := snapAll _) g40 (x194.2.2.1, x194.2.2.2.1, x194.2.2.2.2) ⟨[.slice A202 x194.2.2.1.length c203, .map (some g206), .map (some g210)], h.m.boxAll (i := 0) rfl, ⟨[.slice A202 x194.2.2.1.length c203], [.map (some g206), .map (some g210)], rfl, ⟨_, _, rfl, h.m.rowAll (i := 1) rfl (j := 5) rfl hq205⟩, ⟨[.map (some g206)], [.map (some g210)], rfl, ⟨_, rfl, h.m.mapAll (i := 2) rfl (j := 5) rfl hm209⟩, ⟨_, rfl, h.m.mapAll (i := 3) rfl (j := 5) rfl hm213⟩⟩⟩⟩ x168.1 hr174 _ h278 _ h.startAll
                            refine q_callX hX h rfl rfl rfl (by decide) Try.func71 rfl rfl rfl (fun a w v L1 S1 hR hb1 h => ?_)
                            obtain ⟨rfl, rfl, hr280, _⟩ := hR
                            refine g_yes h rfl rfl rfl rfl hB7 ?_
                            refine s_x h rfl rfl (by decide) (x_bin h.k rfl rfl rfl ib_geq) (fun a h => ?_)
                            refine s_x h rfl rfl (by decide) (x_pick (u' := undef) h.k rfl rfl (fun hh => absurd (hB7.symm.trans hh) (by decide)) (fun _ => rfl)) (fun a h => ?_)
                            exact (h.mid 7 rfl).val (by rw [Option.some.inj hz270])
                          refine l_end ?_
                          refine c_cond h rfl (fun hb => ?_) (fun hb => ?_)
                          · rw [if_pos hb] at hl253
                            refine c_rs ?_ -- region 33
                            refine s_assign h rfl _ rfl rfl (by decide) rfl (fun a h => ?_)
                            refine l_end ?_
                            refine wp_ret ?_
                            refine e_blkR ?_
                            refine e_thenR ?_
                            refine e_thenR ?_
                            refine e_blkR ?_
                            refine e_thenR ?_
                            cases hl253
                            try dsimp only at hc92
                            refine e_blkR ?_
                            refine e_thenR ?_
                            cases hc92
                            try dsimp only at hl89
                            refine e_thenR ?_
                            refine e_blkR ?_
                            refine e_thenR ?_
                            cases hl89
                            try dsimp only at hf
                            refine e_thenR ?_
                            obtain rfl := Option.some.inj hf
                            exact r_ret1 h rfl (rv_tmp h rfl) ⟨_, [], _, rfl, ⟨rfl, rfl, trivial⟩, rfl, up198, (h.m.pick [5] _ (by decide) rfl)⟩
                          · rw [if_neg (by rw [hb]; decide)] at hl253
                            refine wp_skip ?_
                            refine e_blkN ?_
                            refine e_thenN ?_
                            refine c_r ?_ -- region 34
                            refine s_x h rfl rfl (by decide) (x_bin h.k rfl rfl rfl (ib_add rfl)) (fun a h => ?_)
                            refine s_move h rfl _ rfl rfl (by decide) rfl (fun a h => ?_)
                            refine l_nil ?_
                            exact e_thenN ⟨m254, Nat.lt_succ_self _, w64 (x251 + 1), hl253, (w64_r _), h.has (by exact ⟨rfl, rfl, rfl, rfl, rfl, rfl, rfl, rfl, trivial⟩)⟩
                        · rw [if_neg (of_decide_eq_false hb)] at hl253
                          refine wp_exit ?_
                          refine e_thenX ?_
                          refine e_thenX ?_
                          refine e_blkX ?_
                          refine e_thenN ?_
                          have h := h.pick [0, 1, 2, 3, 5] (by decide) rfl
                          exact ⟨(Option.some.inj hl253), h.has (by exact ⟨rfl, rfl, rfl, rfl, trivial⟩)⟩
                      · rintro a w ⟨rfl, h⟩
                        try dsimp only at hc92
                        refine e_blkN ?_
                        refine e_thenN ?_
                        exact ⟨S197, (x194.2.2.1, x194.2.2.2.1, x194.2.2.2.2), A202, c203, cs204, g206, es207, cl208, g210, es211, cl212, (Option.some.inj hc92), (le173.trans le199), up198, hq205, hm209, hm213, h.has (by exact ⟨rfl, rfl, rfl, rfl, trivial⟩)⟩
              · rintro a w ⟨S93, x96, A97, c98, cs99, g101, es102, cl103, g105, es106, cl107, rfl, le94, up95, hq100, hm104, hm108, h⟩
                try dsimp only at hl89
                refine c_r ?_ -- region 35
                refine s_x h rfl rfl (by decide) (x_bin h.k rfl rfl rfl (ib_add rfl)) (fun a h => ?_)
                refine s_move h rfl _ rfl rfl (by decide) rfl (fun a h => ?_)
                refine l_nil ?_
                exact e_thenN ⟨m90, Nat.lt_succ_self _, S93, w64 (x58 + 1), (x96.1, x96.2.1, x96.2.2), A97, c98, cs99, g101, es102, cl103, g105, es106, cl107, hl89, (le56.trans le94), up95, (w64_r _), hq100, hm104, hm108, h.has (by exact ⟨rfl, rfl, rfl, rfl, trivial⟩)⟩
            · rw [if_neg (of_decide_eq_false hb)] at hl89
              refine wp_exit ?_
              refine e_thenX ?_
              refine e_thenX ?_
              refine e_blkX ?_
              refine e_thenN ?_
              exact ⟨S55, (x60.1, x60.2.1, x60.2.2), A61, c62, cs63, g65, es66, cl67, g69, es70, cl71, (Option.some.inj hl89), le56, up57, hq64, hm68, hm72, h.has (by exact ⟨rfl, trivial⟩)⟩
          · rintro a w ⟨S73, x76, A77, c78, cs79, g81, es82, cl83, g85, es86, cl87, rfl, le74, up75, hq80, hm84, hm88, h⟩
            try dsimp only at hf
            refine e_thenN ?_
            refine wp_seq ?_
            refine c_rs ?_ -- region 36
            refine s_move h rfl _ rfl rfl (by decide) rfl (fun a h => ?_)
            obtain ⟨x283, h284, hf⟩ := bsome hf
            have hX := term_Store_Len_ok Fu (S0 := snapAll _) g40 (x76.1, x76.2.1, x76.2.2) ⟨[.slice A77 x76.1.length c78, .map (some g81), .map (some g85)], h.m.boxAll (i := 0) rfl, ⟨[.slice A77 x76.1.length c78], [.map (some g81), .map (some g85)], rfl, ⟨_, _, rfl, h.m.rowAll (i := 1) rfl (j := 4) rfl hq80⟩, ⟨[.map (some g81)], [.map (some g85)], rfl, ⟨_, rfl, h.m.mapAll (i := 2) rfl (j := 4) rfl hm84⟩, ⟨_, rfl, h.m.mapAll (i := 3) rfl (j := 4) rfl hm88⟩⟩⟩⟩ _ h284 _ h.startAll
            refine q_callX hX h rfl rfl rfl (by decide) Try.func68 rfl rfl rfl (fun a w v L1 S1 hR hb1 h => ?_)
            obtain ⟨rfl, rfl, hr286, _⟩ := hR
            refine s_move h rfl _ rfl rfl (by decide) rfl (fun a h => ?_)
            refine l_end ?_
            obtain ⟨o287, hl288, hf⟩ := bsome hf
            refine c_fin (fun a w => (.inr ()) = o287 ∧ St 198 w0 (ownL ([] ++ [.sn S0])) [] [.sn S73] a w) ?_ ?_
            · refine wp_block ?_
              refine c_loop (fun m292 a w => ∃ (x289 : Int), chatelainelaw36_TermOnce_l2 Fu x76 x283 m292 x289 = some o287 ∧ r64 x289 ∧ St 198 w0 (ownL ([] ++ [.sn S0])) [(8, .pointer (some ⟨g40, 0, none⟩)), (173, .int .i64 x283), (174, .int .i64 x289)] [.box g40 138 ([.slice A77 x76.1.length c78, .map (some g81), .map (some g85)]), .row (.slice A77 x76.1.length c78) 89 3 x76.1.length cs79, .obj g81 (.map es82 cl83), .obj g85 (.map es86 cl87), .sn S73] a w) Fu ⟨0, hl288, (show r64 0 from ⟨by decide, by decide⟩), h.has (by exact ⟨rfl, rfl, rfl, trivial⟩)⟩ (fun m292 a w hI => ?_)
              obtain ⟨x289, hl291, hr290, h⟩ := hI
              obtain _ | m292 := m292
              · rw [chatelainelaw36_TermOnce_l2] at hl291; cases hl291
              rw [chatelainelaw36_TermOnce_l2] at hl291
              refine c_rs ?_ -- region 37
              refine s_x h rfl rfl (by decide) (x_bin h.k rfl rfl rfl ib_lss) (fun a h => ?_)
              refine l_end ?_
              refine c_cs h rfl (fun hb => ?_) (fun hb => ?_)
              · rw [if_pos (of_decide_eq_true hb)] at hl291
                refine wp_skip ?_
                refine e_thenN ?_
                refine wp_seq ?_
                refine wp_block ?_
                refine c_rs ?_ -- region 38
                refine s_move h rfl _ rfl rfl (by decide) rfl (fun a h => ?_)
                refine s_assign h rfl _ rfl rfl (by decide) rfl (fun a h => ?_)
                refine l_end ?_
                refine c_rs ?_ -- region 39
                refine s_move h rfl _ rfl rfl (by decide) rfl (fun a h => ?_)
                refine s_move h rfl _ rfl rfl (by decide) rfl (fun a h => ?_)
                refine l_end ?_
                obtain ⟨o293, hl294, hl291⟩ := bsome hl291
                refine c_fin (fun a w => (.inr ()) = o293 ∧ St 198 w0 (ownL ([] ++ [.sn S0])) [(8, .pointer (some ⟨g40, 0, none⟩)), (173, .int .i64 x283), (174, .int .i64 x289)] [.box g40 138 ([.slice A77 x76.1.length c78, .map (some g81), .map (some g85)]), .row (.slice A77 x76.1.length c78) 89 3 x76.1.length cs79, .obj g81 (.map es82 cl83), .obj g85 (.map es86 cl87), .sn S73] a w) ?_ ?_
                · refine wp_block ?_
                  refine c_loop (fun m298 a w => ∃ (x295 : Int), chatelainelaw36_TermOnce_l3 Fu x76 x289 m298 x295 = some o293 ∧ r64 x295 ∧ St 198 w0 (ownL ([] ++ [.sn S0])) [(8, .pointer (some ⟨g40, 0, none⟩)), (22, .int .i64 x289), (173, .int .i64 x283), (174, .int .i64 x289), (177, .int .i64 x289), (178, .int .i64 x295)] [.box g40 138 ([.slice A77 x76.1.length c78, .map (some g81), .map (some g85)]), .row (.slice A77 x76.1.length c78) 89 3 x76.1.length cs79, .obj g81 (.map es82 cl83), .obj g85 (.map es86 cl87), .sn S73] a w) Fu ⟨0, hl294, (show r64 0 from ⟨by decide, by decide⟩), h.has (by exact ⟨rfl, rfl, rfl, rfl, rfl, rfl, trivial⟩)⟩ (fun m298 a w hI => ?_)
                  obtain ⟨x295, hl297, hr296, h⟩ := hI
                  obtain _ | m298 := m298
                  · rw [chatelainelaw36_TermOnce_l3] at hl297; cases hl297
                  rw [chatelainelaw36_TermOnce_l3] at hl297
                  refine c_rs ?_ -- region 40
                  refine s_x h rfl rfl (by decide) (x_bin h.k rfl rfl rfl ib_lss) (fun a h => ?_)
                  refine l_end ?_
                  refine c_cs h rfl (fun hb => ?_) (fun hb => ?_)
                  · rw [if_pos (of_decide_eq_true hb)] at hl297
                    refine wp_skip ?_
                    refine e_thenN ?_
                    refine wp_seq ?_
                    refine wp_block ?_
                    refine c_rs ?_ -- region 41
                    refine s_move h rfl _ rfl rfl (by decide) rfl (fun a h => ?_)
                    refine s_assign h rfl _ rfl rfl (by decide) rfl (fun a h => ?_)
                    refine l_end ?_
                    refine c_rs ?_ -- region 42
                    refine s_move h rfl _ rfl rfl (by decide) rfl (fun a h => ?_)
                    refine s_move h rfl _ rfl rfl (by decide) rfl (fun a h => ?_)
                    obtain ⟨x299, h300, hl297⟩ := bsome hl297
                    have hX := term_Store_Get_ok Fu (S0 := snapAll _) g40 (x76.1, x76.2.1, x76.2.2) ⟨[.slice A77 x76.1.length c78, .map (some g81), .map (some g85)], h.m.boxAll (i := 0) rfl, ⟨[.slice A77 x76.1.length c78], [.map (some g81), .map (some g85)], rfl, ⟨_, _, rfl, h.m.rowAll (i := 1) rfl (j := 4) rfl hq80⟩, ⟨[.map (some g81)], [.map (some g85)], rfl, ⟨_, rfl, h.m.mapAll (i := 2) rfl (j := 4) rfl hm84⟩, ⟨_, rfl, h.m.mapAll (i := 3) rfl (j := 4) rfl hm88⟩⟩⟩⟩ x289 hr290 _ h300 _ h.startAll
                    refine q_callX hX h rfl rfl rfl (by decide) Try.func69 rfl rfl rfl (fun a w v L1 S1 hR hb1 h => ?_)
                    obtain ⟨k302, rfl, rfl, hv303, _⟩ := hR
                    obtain ⟨k304, k305, rfl, ⟨rfl, hr306⟩, ⟨k307, k308, rfl, ⟨rfl, hr309⟩, ⟨rfl, hr310⟩⟩⟩ := hv303
                    refine s_move h rfl _ rfl rfl (by decide) rfl (fun a h => ?_)
                    refine s_x h rfl rfl (by decide) (x_ext h.k rfl rfl rfl) (fun a h => ?_)
                    refine s_x h rfl rfl (by decide) (x_ext h.k rfl rfl rfl) (fun a h => ?_)
                    refine s_alloc h rfl rfl rfl (by decide) zi_api_Term rfl (fun a w g311 h => ?_)
                    refine s_stW h rfl rfl rfl ag_api_Term rfl (es := [.int .i64 x299.1.1, .int .i64 x299.1.2.1, .int .i64 x299.1.2.2]) rfl rfl (by simp [Value.oneCell']) 0 rfl rfl (fun a w h => ?_)
                    refine s_assign h rfl _ rfl rfl (by decide) rfl (fun a h => ?_)
                    refine l_end ?_
                    refine c_rs ?_ -- region 43
                    refine s_move h rfl _ rfl rfl (by decide) rfl (fun a h => ?_)
                    refine s_move h rfl _ rfl rfl (by decide) rfl (fun a h => ?_)
                    obtain ⟨x312, h313, hl297⟩ := bsome hl297
                    have hX := term_Store_Get_ok Fu (S0 := snapAll _) g40 (x76.1, x76.2.1, x76.2.2) ⟨[.slice A77 x76.1.length c78, .map (some g81), .map (some g85)], h.m.boxAll (i := 1) rfl, ⟨[.slice A77 x76.1.length c78], [.map (some g81), .map (some g85)], rfl, ⟨_, _, rfl, h.m.rowAll (i := 2) rfl (j := 5) rfl hq80⟩, ⟨[.map (some g81)], [.map (some g85)], rfl, ⟨_, rfl, h.m.mapAll (i := 3) rfl (j := 5) rfl hm84⟩, ⟨_, rfl, h.m.mapAll (i := 4) rfl (j := 5) rfl hm88⟩⟩⟩⟩ x295 hr296 _ h313 _ h.startAll
                    refine q_callX hX h rfl rfl rfl (by decide) Try.func69 rfl rfl rfl (fun a w v L1 S1 hR hb1 h => ?_)
                    obtain ⟨k315, rfl, rfl, hv316, _⟩ := hR
                    obtain ⟨k317, k318, rfl, ⟨rfl, hr319⟩, ⟨k320, k321, rfl, ⟨rfl, hr322⟩, ⟨rfl, hr323⟩⟩⟩ := hv316
                    refine s_move h rfl _ rfl rfl (by decide) rfl (fun a h => ?_)
                    refine s_x h rfl rfl (by decide) (x_ext h.k rfl rfl rfl) (fun a h => ?_)
                    refine s_x h rfl rfl (by decide) (x_ext h.k rfl rfl rfl) (fun a h => ?_)
                    refine s_alloc h rfl rfl rfl (by decide) zi_api_Term rfl (fun a w g324 h => ?_)
                    refine s_stW h rfl rfl rfl ag_api_Term rfl (es := [.int .i64 x312.1.1, .int .i64 x312.1.2.1, .int .i64 x312.1.2.2]) rfl rfl (by simp [Value.oneCell']) 0 rfl rfl (fun a w h => ?_)
                    refine s_assign h rfl _ rfl rfl (by decide) rfl (fun a h => ?_)
                    refine l_end ?_
                    refine c_rs ?_ -- region 44
                    refine s_x h rfl rfl (by decide) (x_ldR h.k rfl ag_api_Term rfl ([.int .i64 x299.1.1, .int .i64 x299.1.2.1, .int .i64 x299.1.2.2]) rfl (h.m.range0 (i := 1) rfl)) (fun a h => ?_)
                    refine s_x h rfl rfl (by decide) (x_ldR h.k rfl ag_api_Term rfl ([.int .i64 x312.1.1, .int .i64 x312.1.2.1, .int .i64 x312.1.2.2]) rfl (h.m.range0 (i := 0) rfl)) (fun a h => ?_)
                    refine s_x h rfl rfl (by decide) (x_eqlS h.k rfl rfl rfl gd_api_Term (eqs_api_Term _ x299.1 x312.1)) (fun a h => ?_)
                    refine l_end ?_
                    refine c_cond h rfl (fun hb => ?_) (fun hb => ?_)
                    · rw [if_pos (of_decide_eq_true hb)] at hl297
                      refine c_rs ?_ -- region 45
                      refine s_assign h rfl _ rfl rfl (by decide) rfl (fun a h => ?_)
                      refine l_end ?_
                      refine wp_ret ?_
                      refine e_blkR ?_
                      refine e_thenR ?_
                      refine e_thenR ?_
                      refine e_blkR ?_
                      refine e_thenR ?_
                      cases hl297
                      try dsimp only at hl291
                      refine e_blkR ?_
                      refine e_thenR ?_
                      refine e_thenR ?_
                      refine e_blkR ?_
                      refine e_thenR ?_
                      cases hl291
                      try dsimp only at hf
                      refine e_thenR ?_
                      obtain rfl := Option.some.inj hf
                      exact r_ret1 h rfl (rv_tmp h rfl) ⟨_, [], _, rfl, ⟨rfl, rfl, trivial⟩, rfl, up75, (h.m.pick [6] _ (by decide) rfl)⟩
                    · rw [if_neg (of_decide_eq_false hb)] at hl297
                      refine wp_skip ?_
                      refine e_blkN ?_
                      refine e_thenN ?_
                      refine c_r ?_ -- region 46
                      refine s_x h rfl rfl (by decide) (x_bin h.k rfl rfl rfl (ib_add rfl)) (fun a h => ?_)
                      refine s_move h rfl _ rfl rfl (by decide) rfl (fun a h => ?_)
                      refine l_nil ?_
                      have h := h.pick [2, 3, 4, 5, 6] (by decide) rfl
                      exact e_thenN ⟨m298, Nat.lt_succ_self _, w64 (x295 + 1), hl297, (w64_r _), h.has (by exact ⟨rfl, rfl, rfl, rfl, rfl, rfl, trivial⟩)⟩
                  · rw [if_neg (of_decide_eq_false hb)] at hl297
                    refine wp_exit ?_
                    refine e_thenX ?_
                    refine e_thenX ?_
                    refine e_blkX ?_
                    refine e_thenN ?_
                    exact ⟨(Option.some.inj hl297), h.has (by exact ⟨rfl, rfl, rfl, trivial⟩)⟩
                · rintro a w ⟨rfl, h⟩
                  try dsimp only at hl291
                  refine e_blkN ?_
                  refine e_thenN ?_
                  refine c_r ?_ -- region 47
                  refine s_x h rfl rfl (by decide) (x_bin h.k rfl rfl rfl (ib_add rfl)) (fun a h => ?_)
                  refine s_move h rfl _ rfl rfl (by decide) rfl (fun a h => ?_)
                  refine l_nil ?_
                  exact e_thenN ⟨m292, Nat.lt_succ_self _, w64 (x289 + 1), hl291, (w64_r _), h.has (by exact ⟨rfl, rfl, rfl, trivial⟩)⟩
              · rw [if_neg (of_decide_eq_false hb)] at hl291
                refine wp_exit ?_
                refine e_thenX ?_
                refine e_thenX ?_
                refine e_blkX ?_
                refine e_thenN ?_
                have h := h.pick [4] (by decide) rfl
                exact ⟨(Option.some.inj hl291), h.has trivial⟩
            · rintro a w ⟨rfl, h⟩
              try dsimp only at hf
              refine e_thenN ?_
              refine c_rs ?_ -- region 48
              refine s_assign h rfl _ rfl rfl (by decide) rfl (fun a h => ?_)
              refine l_end ?_
              refine wp_ret ?_
              obtain rfl := Option.some.inj hf
              exact r_ret1 h rfl (rv_tmp h rfl) ⟨_, [], _, rfl, ⟨rfl, rfl, trivial⟩, rfl, up75, h.m⟩
end Go.Proofs.Ytdahdlidpplllaa
