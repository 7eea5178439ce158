/- Fr: Go functions as plain functions, and that they are so (written by xt.py). -/
import Derived.Test.YthaakmdafnjkpaaWd
set_option linter.unusedVariables false
set_option linter.unusedSimpArgs false
namespace Go.Proofs.Ythaakmdafnjkpaa
open Go.RowKit
def chatelaineref12_Writer_Number (Fu : Nat) (a0 : (List UInt8) × Int) (a1 : Int) (a2 : Int) : Option (((List UInt8) × Int)) :=
  (chatelaineref01_Put Fu a1 a2).bind fun x7 => (if ((decide (x7.2 ≠ 0)) && (decide (a0.2 = 0))) = true then (some (a0.1, 2)) else (some a0)).bind fun x18 => if x18.2 = 0 then ((app 1 x18.1 x7.1).bind fun x26 => some (x26, x18.2)) else (some x18)
set_option maxRecDepth 100000 in
set_option maxHeartbeats 2000000 in
theorem chatelaineref12_Writer_Number_ok (Fu : Nat) {S0 : Snap} (a0 : (List UInt8) × Int) (g1 : Nat) (A2 : Option Addr) (c3 : Nat) (cs4 : List Value) (hq5 : reps ty8 S0 cs4 a0.1) (hr6 : r64 a0.2) (a1 : Int) (hra1 : r64 a1) (a2 : Int) (hra2 : r64 a2) (r : ((List UInt8) × Int)) (hf : chatelaineref12_Writer_Number Fu a0 a1 a2 = some r) (w0 : World) (hm : Mem w0 (ownL ([.box g1 122 ([.slice A2 a0.1.length c3, .int .i64 a0.2]), .row (.slice A2 a0.1.length c3) 5 1 a0.1.length cs4] ++ [.sn S0])) ([.box g1 122 ([.slice A2 a0.1.length c3, .int .i64 a0.2]), .row (.slice A2 a0.1.length c3) 5 1 a0.1.length cs4] ++ [.sn S0]) w0) :
    Calls Try.prog 71 #[.pointer (some ⟨g1, 0, none⟩), .int .i64 a1, .int .i64 a2] w0 (Ret w0 S0 [.box g1 122 ([.slice A2 a0.1.length c3, .int .i64 a0.2]), .row (.slice A2 a0.1.length c3) 5 1 a0.1.length cs4] (fun v L1 S1 => ∃ (A33 : Option Addr), ∃ (c34 : Nat), ∃ (cs35 : List Value), v = .tuple #[] ∧ L1 = [.box g1 122 ([.slice A33 r.1.length c34, .int .i64 r.2]), .row (.slice A33 r.1.length c34) 5 1 r.1.length cs35] ∧ reps ty8 S1 cs35 r.1 ∧ r64 r.2 ∧ True)) := by
  unfold chatelaineref12_Writer_Number at hf
  obtain ⟨B0, hB0⟩ : ∃ B0, B0 = (ownL ([.box g1 122 ([.slice A2 a0.1.length c3, .int .i64 a0.2]), .row (.slice A2 a0.1.length c3) 5 1 a0.1.length cs4] ++ [.sn S0])) := ⟨_, rfl⟩
  rw [← hB0] at hm
  refine c_enterM Try.func71 rfl 40 rfl (by simp) _ hm _ rfl (fun a h => ?_)
  refine c_rs ?_ -- region 0
  refine s_move h rfl _ rfl rfl (by decide) rfl (fun a h => ?_)
  refine s_move h rfl _ rfl rfl (by decide) rfl (fun a h => ?_)
  obtain ⟨x7, h8, hf⟩ := bsome hf
  have hX := chatelaineref01_Put_ok Fu (S0 := snapAll _) a1 hra1 a2 hra2 _ h8 _ h.startAll
  refine q_callX hX h rfl rfl rfl (by decide) Try.func121 rfl rfl rfl (fun a w v L1 S1 hR hb1 h => ?_)
  obtain ⟨A10, c11, cs12, rfl, rfl, hq13, hr14, _⟩ := hR
  have hq15 := hq13.fl (S' := S0) fl_8
  refine s_move h rfl _ rfl rfl (by decide) rfl (fun a h => ?_)
  refine s_x h rfl rfl (by decide) (x_ext h.k rfl rfl rfl) (fun a h => ?_)
  refine s_x h rfl rfl (by decide) (x_ext h.k rfl rfl rfl) (fun a h => ?_)
  refine s_assign h rfl _ rfl rfl (by decide) rfl (fun a h => ?_)
  refine s_assign h rfl _ rfl rfl (by decide) rfl (fun a h => ?_)
  refine l_end ?_
  obtain ⟨o16, hc17, hf⟩ := bsome hf
  refine c_cut (fun a w => ∃ (x18 : (List UInt8) × Int), ∃ (A19 : Option Addr), ∃ (c20 : Nat), ∃ (cs21 : List Value), x18 = o16 ∧ reps ty8 S0 cs21 x18.1 ∧ r64 x18.2 ∧ St 40 w0 B0 [(0, .pointer (some ⟨g1, 0, none⟩)), (6, .slice A10 x7.1.length c11)] [.box g1 122 ([.slice A19 x18.1.length c20, .int .i64 x18.2]), .row (.slice A19 x18.1.length c20) 5 1 x18.1.length cs21, .row (.slice A10 x7.1.length c11) 5 1 x7.1.length cs12, .sn S0] a w) ?_ ?_
  · refine c_rs ?_ -- region 1
    refine s_move h rfl _ rfl rfl (by decide) rfl (fun a h => ?_)
    refine s_x h rfl rfl (by decide) (x_bin h.k rfl rfl rfl ib_neq) (fun a h => ?_)
    refine s_move h rfl _ rfl rfl (by decide) rfl (fun a h => ?_)
    refine q_grp h 6 (t := 16) 22 ((decide (x7.2 ≠ 0)) && (decide (a0.2 = 0))) rfl (fun hB2 => ?_) (fun hB2 => ?_) (fun a w h => ?_)
    · refine g_yes h rfl rfl rfl rfl hB2 ?_
      refine s_move h rfl _ rfl rfl (by decide) rfl (fun a h => ?_)
      refine g_yes h rfl rfl rfl rfl hB2 ?_
      refine s_x h rfl rfl (by decide) (x_nil h.k rfl rfl) (fun a h => ?_)
      refine g_yes h rfl rfl rfl rfl hB2 ?_
      refine s_x h rfl rfl (by decide) (x_faddr h.k rfl Try.underlying122 rfl sz_int rfl) (fun a h => ?_)
      refine g_yes h rfl rfl rfl rfl hB2 ?_
      refine s_x h rfl rfl (by decide) (x_ld h.k rfl Try.underlying3 rfl rfl ((h.m.cell (i := 1) rfl 1).trans rfl)) (fun a h => ?_)
      refine g_yes h rfl rfl rfl rfl hB2 ?_
      refine s_x h rfl rfl (by decide) (x_bin h.k rfl rfl rfl ib_eql) (fun a h => ?_)
      refine s_x h rfl rfl (by decide) (x_pick (u' := undef) h.k rfl rfl (fun _ => rfl) (fun hh => absurd (hB2.symm.trans hh) (by decide))) (fun a h => ?_)
      exact (h.mid 5 rfl).val (by first | rfl | (rw [hB2]; first | rfl | simp))
    · refine g_no h rfl rfl rfl rfl hB2 rfl (by decide) (fun a h => ?_)
      refine g_no h rfl rfl rfl rfl hB2 rfl (by decide) (fun a h => ?_)
      refine g_no h rfl rfl rfl rfl hB2 rfl (by decide) (fun a h => ?_)
      refine g_no h rfl rfl rfl rfl hB2 rfl (by decide) (fun a h => ?_)
      refine g_no h rfl rfl rfl rfl hB2 rfl (by decide) (fun a h => ?_)
      refine s_x h rfl rfl (by decide) (x_pick (u' := undef) h.k rfl rfl (fun hh => absurd (hB2.symm.trans hh) (by decide)) (fun _ => rfl)) (fun a h => ?_)
      exact (h.mid 5 rfl).val (by first | rfl | (rw [hB2]; first | rfl | simp))
    refine l_end ?_
    refine c_cond h rfl (fun hb => ?_) (fun hb => ?_)
    · rw [if_pos hb] at hc17
      refine c_r ?_ -- region 2
      refine s_move h rfl _ rfl rfl (by decide) rfl (fun a h => ?_)
      refine s_x h rfl rfl (by decide) (x_nil h.k rfl rfl) (fun a h => ?_)
      refine s_x h rfl rfl (by decide) (x_faddr h.k rfl Try.underlying122 rfl sz_int rfl) (fun a h => ?_)
      refine s_stb h rfl rfl rfl sz_int rfl rfl rfl 1 rfl (by first | decide | simp) (fun a w h => ?_)
      refine l_nil ?_
      refine e_thenN ?_
      have h := h.pick [1, 2, 0, 3] (by decide) rfl
      exact ⟨(a0.1, 2), A2, c3, cs4, (Option.some.inj hc17), hq5, (show r64 2 from ⟨by decide, by decide⟩), h.has (by exact ⟨rfl, rfl, trivial⟩)⟩
    · rw [if_neg (by rw [hb]; decide)] at hc17
      refine wp_skip ?_
      refine e_thenN ?_
      have h := h.pick [1, 2, 0, 3] (by decide) rfl
      exact ⟨a0, A2, c3, cs4, (Option.some.inj hc17), hq5, hr6, h.has (by exact ⟨rfl, rfl, trivial⟩)⟩
  · rintro a w ⟨x18, A19, c20, cs21, rfl, hq22, hr23, h⟩
    refine c_rs ?_ -- region 3
    refine s_move h rfl _ rfl rfl (by decide) rfl (fun a h => ?_)
    refine s_x h rfl rfl (by decide) (x_nil h.k rfl rfl) (fun a h => ?_)
    refine s_x h rfl rfl (by decide) (x_faddr h.k rfl Try.underlying122 rfl sz_int rfl) (fun a h => ?_)
    refine s_x h rfl rfl (by decide) (x_ld h.k rfl Try.underlying3 rfl rfl ((h.m.cell (i := 0) rfl 1).trans rfl)) (fun a h => ?_)
    refine s_x h rfl rfl (by decide) (x_bin h.k rfl rfl rfl ib_eql) (fun a h => ?_)
    refine l_end ?_
    refine c_cond h rfl (fun hb => ?_) (fun hb => ?_)
    · rw [if_pos (of_decide_eq_true hb)] at hf
      refine c_r ?_ -- region 4
      refine s_move h rfl _ rfl rfl (by decide) rfl (fun a h => ?_)
      refine s_move h rfl _ rfl rfl (by decide) rfl (fun a h => ?_)
      refine s_x h rfl rfl (by decide) (x_nil h.k rfl rfl) (fun a h => ?_)
      refine s_x h rfl rfl (by decide) (x_faddr h.k rfl Try.underlying122 rfl sz_Suint8 rfl) (fun a h => ?_)
      refine s_x h rfl rfl (by decide) (x_ld h.k rfl Try.underlying22 rfl rfl ((h.m.cell (i := 0) rfl 0).trans rfl)) (fun a h => ?_)
      refine s_move h rfl _ rfl rfl (by decide) rfl (fun a h => ?_)
      obtain ⟨x26, h27, hf⟩ := bsome hf
      refine q_append (T := ty8) (S := S0) h rfl rfl rfl (by decide) Try.underlying22 zb_uint8 rfl (by decide) rfl 1 rfl hq22 rfl hq15 (h.m.rdRowA (i := 2) rfl) h27 (fun a w A28 c29 cs30 hq31 h => ?_)
      refine s_x h rfl rfl (by decide) (x_nil h.k rfl rfl) (fun a h => ?_)
      refine s_x h rfl rfl (by decide) (x_faddr h.k rfl Try.underlying122 rfl sz_Suint8 rfl) (fun a h => ?_)
      refine s_stb h rfl rfl rfl sz_Suint8 rfl rfl rfl 0 rfl (by first | decide | simp) (fun a w h => ?_)
      refine l_nil ?_
      obtain rfl := Option.some.inj hf
      subst hB0
      exact r_ret0 h rfl  ⟨_, [.box g1 122 ([.slice A28 x26.length c29, .int .i64 x18.2]), .row (.slice A28 x26.length c29) 5 1 x26.length cs30], _, rfl, ⟨A28, c29, cs30, rfl, rfl, hq31, hr23, trivial⟩, rfl, (Up.refl _ _ _), (h.m.pick [0, 1, 3] _ (by decide) rfl)⟩
    · rw [if_neg (of_decide_eq_false hb)] at hf
      refine wp_skip ?_
      rw [← Option.some.inj hf]
      subst hB0
      exact r_ret0 h rfl  ⟨_, [.box g1 122 ([.slice A19 x18.1.length c20, .int .i64 x18.2]), .row (.slice A19 x18.1.length c20) 5 1 x18.1.length cs21], _, rfl, ⟨A19, c20, cs21, rfl, rfl, hq22, hr23, trivial⟩, rfl, (Up.refl _ _ _), (h.m.pick [0, 1, 3] _ (by decide) rfl)⟩
def chatelaineref12_Writer_Fixed (Fu : Nat) (a0 : (List UInt8) × Int) (a1 : List UInt8) : Option (((List UInt8) × Int)) :=
  if a0.2 = 0 then ((app 1 a0.1 a1).bind fun x7 => some (x7, a0.2)) else (some a0)
set_option maxRecDepth 100000 in
set_option maxHeartbeats 2000000 in
theorem chatelaineref12_Writer_Fixed_ok (Fu : Nat) {S0 : Snap} (a0 : (List UInt8) × Int) (g1 : Nat) (A2 : Option Addr) (c3 : Nat) (cs4 : List Value) (hq5 : reps ty8 S0 cs4 a0.1) (hr6 : r64 a0.2) (Aa1 : Option Addr) (ca1 : Nat) (a1 : List UInt8) (hsa1 : slS ty8 S0 Aa1 ca1 a1) (r : ((List UInt8) × Int)) (hf : chatelaineref12_Writer_Fixed Fu a0 a1 = some r) (w0 : World) (hm : Mem w0 (ownL ([.box g1 122 ([.slice A2 a0.1.length c3, .int .i64 a0.2]), .row (.slice A2 a0.1.length c3) 5 1 a0.1.length cs4] ++ [.sn S0])) ([.box g1 122 ([.slice A2 a0.1.length c3, .int .i64 a0.2]), .row (.slice A2 a0.1.length c3) 5 1 a0.1.length cs4] ++ [.sn S0]) w0) :
    Calls Try.prog 122 #[.pointer (some ⟨g1, 0, none⟩), .slice Aa1 a1.length ca1] w0 (Ret w0 S0 [.box g1 122 ([.slice A2 a0.1.length c3, .int .i64 a0.2]), .row (.slice A2 a0.1.length c3) 5 1 a0.1.length cs4] (fun v L1 S1 => ∃ (A16 : Option Addr), ∃ (c17 : Nat), ∃ (cs18 : List Value), v = .tuple #[] ∧ L1 = [.box g1 122 ([.slice A16 r.1.length c17, .int .i64 r.2]), .row (.slice A16 r.1.length c17) 5 1 r.1.length cs18] ∧ reps ty8 S1 cs18 r.1 ∧ r64 r.2 ∧ True)) := by
  unfold chatelaineref12_Writer_Fixed at hf
  obtain ⟨B0, hB0⟩ : ∃ B0, B0 = (ownL ([.box g1 122 ([.slice A2 a0.1.length c3, .int .i64 a0.2]), .row (.slice A2 a0.1.length c3) 5 1 a0.1.length cs4] ++ [.sn S0])) := ⟨_, rfl⟩
  rw [← hB0] at hm
  refine c_enterM Try.func122 rfl 18 rfl (by simp) _ hm _ rfl (fun a h => ?_)
  refine c_rs ?_ -- region 0
  refine s_move h rfl _ rfl rfl (by decide) rfl (fun a h => ?_)
  refine s_x h rfl rfl (by decide) (x_nil h.k rfl rfl) (fun a h => ?_)
  refine s_x h rfl rfl (by decide) (x_faddr h.k rfl Try.underlying122 rfl sz_int rfl) (fun a h => ?_)
  refine s_x h rfl rfl (by decide) (x_ld h.k rfl Try.underlying3 rfl rfl ((h.m.cell (i := 0) rfl 1).trans rfl)) (fun a h => ?_)
  refine s_x h rfl rfl (by decide) (x_bin h.k rfl rfl rfl ib_eql) (fun a h => ?_)
  refine l_end ?_
  refine c_cond h rfl (fun hb => ?_) (fun hb => ?_)
  · rw [if_pos (of_decide_eq_true hb)] at hf
    refine c_r ?_ -- region 1
    refine s_move h rfl _ rfl rfl (by decide) rfl (fun a h => ?_)
    refine s_move h rfl _ rfl rfl (by decide) rfl (fun a h => ?_)
    refine s_x h rfl rfl (by decide) (x_nil h.k rfl rfl) (fun a h => ?_)
    refine s_x h rfl rfl (by decide) (x_faddr h.k rfl Try.underlying122 rfl sz_Suint8 rfl) (fun a h => ?_)
    refine s_x h rfl rfl (by decide) (x_ld h.k rfl Try.underlying22 rfl rfl ((h.m.cell (i := 0) rfl 0).trans rfl)) (fun a h => ?_)
    refine s_move h rfl _ rfl rfl (by decide) rfl (fun a h => ?_)
    obtain ⟨x7, h8, hf⟩ := bsome hf
    obtain ⟨_, _, vs9, hrd10, hrp11⟩ := id hsa1
    refine q_append (T := ty8) (S := S0) h rfl rfl rfl (by decide) Try.underlying22 zb_uint8 rfl (by decide) rfl 1 rfl hq5 rfl hrp11 (hrd10 _ (h.m.snOK (i := 2) rfl)) h8 (fun a w A12 c13 cs14 hq15 h => ?_)
    refine s_x h rfl rfl (by decide) (x_nil h.k rfl rfl) (fun a h => ?_)
    refine s_x h rfl rfl (by decide) (x_faddr h.k rfl Try.underlying122 rfl sz_Suint8 rfl) (fun a h => ?_)
    refine s_stb h rfl rfl rfl sz_Suint8 rfl rfl rfl 0 rfl (by first | decide | simp) (fun a w h => ?_)
    refine l_nil ?_
    obtain rfl := Option.some.inj hf
    subst hB0
    exact r_ret0 h rfl  ⟨_, [.box g1 122 ([.slice A12 x7.length c13, .int .i64 a0.2]), .row (.slice A12 x7.length c13) 5 1 x7.length cs14], _, rfl, ⟨A12, c13, cs14, rfl, rfl, hq15, hr6, trivial⟩, rfl, (Up.refl _ _ _), h.m⟩
  · rw [if_neg (of_decide_eq_false hb)] at hf
    refine wp_skip ?_
    rw [← Option.some.inj hf]
    subst hB0
    exact r_ret0 h rfl  ⟨_, [.box g1 122 ([.slice A2 a0.1.length c3, .int .i64 a0.2]), .row (.slice A2 a0.1.length c3) 5 1 a0.1.length cs4], _, rfl, ⟨A2, c3, cs4, rfl, rfl, hq5, hr6, trivial⟩, rfl, (Up.refl _ _ _), h.m⟩
def chatelaineref12_Writer_Bytes (Fu : Nat) (a0 : (List UInt8) × Int) (a1 : List UInt8) : Option (((List UInt8) × Int)) :=
  (if ((decide (65535 < (a1.length : Int))) && (decide (a0.2 = 0))) = true then (some (a0.1, 2)) else (some a0)).bind fun x9 => if x9.2 = 0 then ((chatelaineref12_Writer_Number Fu x9 (a1.length : Int) 2).bind fun x17 => (chatelaineref12_Writer_Fixed Fu x17 a1).bind fun x28 => some x28) else (some x9)
set_option maxRecDepth 100000 in
set_option maxHeartbeats 2000000 in
theorem chatelaineref12_Writer_Bytes_ok (Fu : Nat) {S0 : Snap} (a0 : (List UInt8) × Int) (g1 : Nat) (A2 : Option Addr) (c3 : Nat) (cs4 : List Value) (hq5 : reps ty8 S0 cs4 a0.1) (hr6 : r64 a0.2) (Aa1 : Option Addr) (ca1 : Nat) (a1 : List UInt8) (hsa1 : slS ty8 S0 Aa1 ca1 a1) (r : ((List UInt8) × Int)) (hf : chatelaineref12_Writer_Bytes Fu a0 a1 = some r) (w0 : World) (hm : Mem w0 (ownL ([.box g1 122 ([.slice A2 a0.1.length c3, .int .i64 a0.2]), .row (.slice A2 a0.1.length c3) 5 1 a0.1.length cs4] ++ [.sn S0])) ([.box g1 122 ([.slice A2 a0.1.length c3, .int .i64 a0.2]), .row (.slice A2 a0.1.length c3) 5 1 a0.1.length cs4] ++ [.sn S0]) w0) :
    Calls Try.prog 72 #[.pointer (some ⟨g1, 0, none⟩), .slice Aa1 a1.length ca1] w0 (Ret w0 S0 [.box g1 122 ([.slice A2 a0.1.length c3, .int .i64 a0.2]), .row (.slice A2 a0.1.length c3) 5 1 a0.1.length cs4] (fun v L1 S1 => ∃ (A40 : Option Addr), ∃ (c41 : Nat), ∃ (cs42 : List Value), v = .tuple #[] ∧ L1 = [.box g1 122 ([.slice A40 r.1.length c41, .int .i64 r.2]), .row (.slice A40 r.1.length c41) 5 1 r.1.length cs42] ∧ reps ty8 S1 cs42 r.1 ∧ r64 r.2 ∧ True)) := by
  unfold chatelaineref12_Writer_Bytes at hf
  obtain ⟨B0, hB0⟩ : ∃ B0, B0 = (ownL ([.box g1 122 ([.slice A2 a0.1.length c3, .int .i64 a0.2]), .row (.slice A2 a0.1.length c3) 5 1 a0.1.length cs4] ++ [.sn S0])) := ⟨_, rfl⟩
  rw [← hB0] at hm
  refine c_enterM Try.func72 rfl 29 rfl (by simp) _ hm _ rfl (fun a h => ?_)
  obtain ⟨o7, hc8, hf⟩ := bsome hf
  refine c_cut (fun a w => ∃ (x9 : (List UInt8) × Int), ∃ (A10 : Option Addr), ∃ (c11 : Nat), ∃ (cs12 : List Value), x9 = o7 ∧ reps ty8 S0 cs12 x9.1 ∧ r64 x9.2 ∧ St 29 w0 B0 [(0, .pointer (some ⟨g1, 0, none⟩)), (1, .slice Aa1 a1.length ca1)] [.box g1 122 ([.slice A10 x9.1.length c11, .int .i64 x9.2]), .row (.slice A10 x9.1.length c11) 5 1 x9.1.length cs12, .sn S0] a w) ?_ ?_
  · refine c_rs ?_ -- region 0
    refine s_move h rfl _ rfl rfl (by decide) rfl (fun a h => ?_)
    refine s_x h rfl rfl (by decide) (x_len h.k rfl Try.underlying22 rfl) (fun a h => ?_)
    refine s_x h rfl rfl (by decide) (x_bin h.k rfl rfl rfl ib_gtr) (fun a h => ?_)
    refine s_move h rfl _ rfl rfl (by decide) rfl (fun a h => ?_)
    refine q_grp h 6 (t := 7) 13 ((decide (65535 < (a1.length : Int))) && (decide (a0.2 = 0))) rfl (fun hB3 => ?_) (fun hB3 => ?_) (fun a w h => ?_)
    · refine g_yes h rfl rfl rfl rfl hB3 ?_
      refine s_move h rfl _ rfl rfl (by decide) rfl (fun a h => ?_)
      refine g_yes h rfl rfl rfl rfl hB3 ?_
      refine s_x h rfl rfl (by decide) (x_nil h.k rfl rfl) (fun a h => ?_)
      refine g_yes h rfl rfl rfl rfl hB3 ?_
      refine s_x h rfl rfl (by decide) (x_faddr h.k rfl Try.underlying122 rfl sz_int rfl) (fun a h => ?_)
      refine g_yes h rfl rfl rfl rfl hB3 ?_
      refine s_x h rfl rfl (by decide) (x_ld h.k rfl Try.underlying3 rfl rfl ((h.m.cell (i := 0) rfl 1).trans rfl)) (fun a h => ?_)
      refine g_yes h rfl rfl rfl rfl hB3 ?_
      refine s_x h rfl rfl (by decide) (x_bin h.k rfl rfl rfl ib_eql) (fun a h => ?_)
      refine s_x h rfl rfl (by decide) (x_pick (u' := undef) h.k rfl rfl (fun _ => rfl) (fun hh => absurd (hB3.symm.trans hh) (by decide))) (fun a h => ?_)
      exact (h.mid 5 rfl).val (by first | rfl | (rw [hB3]; first | rfl | simp))
    · refine g_no h rfl rfl rfl rfl hB3 rfl (by decide) (fun a h => ?_)
      refine g_no h rfl rfl rfl rfl hB3 rfl (by decide) (fun a h => ?_)
      refine g_no h rfl rfl rfl rfl hB3 rfl (by decide) (fun a h => ?_)
      refine g_no h rfl rfl rfl rfl hB3 rfl (by decide) (fun a h => ?_)
      refine g_no h rfl rfl rfl rfl hB3 rfl (by decide) (fun a h => ?_)
      refine s_x h rfl rfl (by decide) (x_pick (u' := undef) h.k rfl rfl (fun hh => absurd (hB3.symm.trans hh) (by decide)) (fun _ => rfl)) (fun a h => ?_)
      exact (h.mid 5 rfl).val (by first | rfl | (rw [hB3]; first | rfl | simp))
    refine l_end ?_
    refine c_cond h rfl (fun hb => ?_) (fun hb => ?_)
    · rw [if_pos hb] at hc8
      refine c_r ?_ -- region 1
      refine s_move h rfl _ rfl rfl (by decide) rfl (fun a h => ?_)
      refine s_x h rfl rfl (by decide) (x_nil h.k rfl rfl) (fun a h => ?_)
      refine s_x h rfl rfl (by decide) (x_faddr h.k rfl Try.underlying122 rfl sz_int rfl) (fun a h => ?_)
      refine s_stb h rfl rfl rfl sz_int rfl rfl rfl 0 rfl (by first | decide | simp) (fun a w h => ?_)
      refine l_nil ?_
      refine e_thenN ?_
      exact ⟨(a0.1, 2), A2, c3, cs4, (Option.some.inj hc8), hq5, (show r64 2 from ⟨by decide, by decide⟩), h.has (by exact ⟨rfl, rfl, trivial⟩)⟩
    · rw [if_neg (by rw [hb]; decide)] at hc8
      refine wp_skip ?_
      refine e_thenN ?_
      exact ⟨a0, A2, c3, cs4, (Option.some.inj hc8), hq5, hr6, h.has (by exact ⟨rfl, rfl, trivial⟩)⟩
  · rintro a w ⟨x9, A10, c11, cs12, rfl, hq13, hr14, h⟩
    refine c_rs ?_ -- region 2
    refine s_move h rfl _ rfl rfl (by decide) rfl (fun a h => ?_)
    refine s_x h rfl rfl (by decide) (x_nil h.k rfl rfl) (fun a h => ?_)
    refine s_x h rfl rfl (by decide) (x_faddr h.k rfl Try.underlying122 rfl sz_int rfl) (fun a h => ?_)
    refine s_x h rfl rfl (by decide) (x_ld h.k rfl Try.underlying3 rfl rfl ((h.m.cell (i := 0) rfl 1).trans rfl)) (fun a h => ?_)
    refine s_x h rfl rfl (by decide) (x_bin h.k rfl rfl rfl ib_eql) (fun a h => ?_)
    refine l_end ?_
    refine c_cond h rfl (fun hb => ?_) (fun hb => ?_)
    · rw [if_pos (of_decide_eq_true hb)] at hf
      refine c_rs ?_ -- region 3
      refine s_move h rfl _ rfl rfl (by decide) rfl (fun a h => ?_)
      refine s_move h rfl _ rfl rfl (by decide) rfl (fun a h => ?_)
      refine s_x h rfl rfl (by decide) (x_len h.k rfl Try.underlying22 rfl) (fun a h => ?_)
      obtain ⟨x17, h18, hf⟩ := bsome hf
      have hX := chatelaineref12_Writer_Number_ok Fu (S0 := S0) x9 g1 A10 c11 cs12 hq13 hr14 (a1.length : Int) (len_r (hsa1).len) 2 (show r64 2 from ⟨by decide, by decide⟩) _ h18 _ (h.sub (Ls := [.box g1 122 ([.slice A10 x9.1.length c11, .int .i64 x9.2]), .row (.slice A10 x9.1.length c11) 5 1 x9.1.length cs12]))
      refine q_callY (Ls := [.box g1 122 ([.slice A10 x9.1.length c11, .int .i64 x9.2]), .row (.slice A10 x9.1.length c11) 5 1 x9.1.length cs12]) hX h (Up.refl _ _ _) rfl rfl rfl (by decide) Try.func71 rfl rfl rfl (fun a w v L1 S20 hR le22 up21 h => ?_)
      obtain ⟨A23, c24, cs25, rfl, rfl, hq26, hr27, _⟩ := hR
      refine l_end ?_
      refine c_r ?_ -- region 4
      refine s_move h rfl _ rfl rfl (by decide) rfl (fun a h => ?_)
      refine s_move h rfl _ rfl rfl (by decide) rfl (fun a h => ?_)
      obtain ⟨x28, h29, hf⟩ := bsome hf
      have hX := chatelaineref12_Writer_Fixed_ok Fu (S0 := S20) x17 g1 A23 c24 cs25 hq26 hr27 Aa1 ca1 a1 (hsa1.mono le22) _ h29 _ (h.sub (Ls := [.box g1 122 ([.slice A23 x17.1.length c24, .int .i64 x17.2]), .row (.slice A23 x17.1.length c24) 5 1 x17.1.length cs25]))
      refine q_callY (Ls := [.box g1 122 ([.slice A23 x17.1.length c24, .int .i64 x17.2]), .row (.slice A23 x17.1.length c24) 5 1 x17.1.length cs25]) hX h up21 rfl rfl rfl (by decide) Try.func122 rfl rfl rfl (fun a w v L1 S31 hR le33 up32 h => ?_)
      obtain ⟨A34, c35, cs36, rfl, rfl, hq37, hr38, _⟩ := hR
      refine l_nil ?_
      rw [← Option.some.inj hf]
      subst hB0
      exact r_ret0 h rfl  ⟨_, [.box g1 122 ([.slice A34 x28.1.length c35, .int .i64 x28.2]), .row (.slice A34 x28.1.length c35) 5 1 x28.1.length cs36], _, rfl, ⟨A34, c35, cs36, rfl, rfl, hq37, hr38, trivial⟩, rfl, up32, h.m⟩
    · rw [if_neg (of_decide_eq_false hb)] at hf
      refine wp_skip ?_
      rw [← Option.some.inj hf]
      subst hB0
      exact r_ret0 h rfl  ⟨_, [.box g1 122 ([.slice A10 x9.1.length c11, .int .i64 x9.2]), .row (.slice A10 x9.1.length c11) 5 1 x9.1.length cs12], _, rfl, ⟨A10, c11, cs12, rfl, rfl, hq13, hr14, trivial⟩, rfl, (Up.refl _ _ _), h.m⟩
def chatelaineref12_Writer_Out (Fu : Nat) (a0 : (List UInt8) × Int) : Option ((List UInt8) × Int) :=
  if a0.2 ≠ 0 then (some ([], a0.2)) else (some (a0.1, 0))
set_option maxRecDepth 100000 in
set_option maxHeartbeats 2000000 in
theorem chatelaineref12_Writer_Out_ok (Fu : Nat) {S0 : Snap} (ga0 : Nat) (a0 : (List UInt8) × Int) (hpa0 : ptS (tyP (tyL ty8) tyI) S0 ga0 a0) (r : (List UInt8) × Int) (hf : chatelaineref12_Writer_Out Fu a0 = some r) (w0 : World) (hm : Mem w0 (ownL ([] ++ [.sn S0])) ([] ++ [.sn S0]) w0) :
    Calls Try.prog 73 #[.pointer (some ⟨ga0, 0, none⟩)] w0 (Ret w0 S0 [] (fun v L1 S1 => ∃ (A25 : Option Addr), ∃ (c26 : Nat), v = .tuple #[.slice A25 r.1.length c26, .int .i64 r.2] ∧ L1 = [] ∧ slS ty8 S1 A25 c26 r.1 ∧ r64 r.2 ∧ True)) := by
  unfold chatelaineref12_Writer_Out at hf
  refine c_enterM Try.func73 rfl 17 rfl (by simp) _ hm _ rfl (fun a h => ?_)
  refine c_rs ?_ -- region 0
  refine s_assign h rfl _ rfl rfl (by decide) rfl (fun a h => ?_)
  refine s_assign h rfl _ rfl rfl (by decide) rfl (fun a h => ?_)
  refine l_end ?_
  refine wp_seq ?_
  refine c_rs ?_ -- region 1
  refine s_move h rfl _ rfl rfl (by decide) rfl (fun a h => ?_)
  obtain ⟨k1, hc2, ⟨k3, k4, rfl, ⟨A5, c6, rfl, hs7⟩, ⟨rfl, hr8⟩⟩⟩ := id hpa0
  refine s_x h rfl rfl (by decide) (x_nil h.k rfl rfl) (fun a h => ?_)
  refine s_x h rfl rfl (by decide) (x_faddr h.k rfl Try.underlying122 rfl sz_int rfl) (fun a h => ?_)
  refine s_x h rfl rfl (by decide) (x_ld h.k rfl Try.underlying3 rfl rfl (hc2 _ (h.m.snOK (i := 0) rfl) 1 _ rfl)) (fun a h => ?_)
  refine s_x h rfl rfl (by decide) (x_bin h.k rfl rfl rfl ib_neq) (fun a h => ?_)
  refine l_end ?_
  refine c_cond h rfl (fun hb => ?_) (fun hb => ?_)
  · rw [if_pos (of_decide_eq_true hb)] at hf
    refine wp_seq ?_
    -- region 2 draws
    refine d_start h (Mem _ _ _) 6 6 rfl (by kernel_rfl) (fun _ _ _ _ _ h => h) (fun _ h => h) (fun Q a w HE HN h HS => ?_)
    refine d_takeP h (fun _ => HS) HN 0 rfl (by kernel_rfl) (by kernel_rfl) (by kernel_rfl) (by decide) rfl rfl (by decide) (fun w' => x_move h.k _ rfl rfl) (fun a h => ?_)
    obtain ⟨k9, hc10, ⟨k11, k12, rfl, ⟨A13, c14, rfl, hs15⟩, ⟨rfl, hr16⟩⟩⟩ := id hpa0
    refine d_takeP h (fun _ => HS) HN 1 rfl (by kernel_rfl) (by kernel_rfl) (by kernel_rfl) (by decide) rfl rfl (by decide) (fun w' => x_nil h.k rfl rfl) (fun a h => ?_)
    refine d_takeP h (fun _ => HS) HN 2 rfl (by kernel_rfl) (by kernel_rfl) (by kernel_rfl) (by decide) rfl rfl (by decide) (fun w' => x_faddr h.k rfl Try.underlying122 rfl sz_int rfl) (fun a h => ?_)
    refine d_take h HS HN 3 rfl (by kernel_rfl) (by kernel_rfl) (by kernel_rfl) (by kernel_rfl) (by kernel_rfl) rfl rfl (by decide) (fun w' hw => x_ld h.k rfl Try.underlying3 rfl rfl (hc10 _ (hw.snOK (i := 0) rfl) 1 _ rfl)) (fun a h => ?_)
    refine d_takeP h (fun _ => HS) HN 4 rfl (by kernel_rfl) (by kernel_rfl) (by kernel_rfl) (by decide) rfl rfl (by decide) (fun w' => x_assign h.k _ rfl rfl) (fun a h => ?_)
    refine d_takeP h (fun _ => HS) HN 5 rfl (by kernel_rfl) (by kernel_rfl) (by kernel_rfl) (by decide) rfl rfl (by decide) (fun w' => x_assign h.k _ rfl rfl) (fun a h => ?_)
    refine d_done (by kernel_rfl) (HE _ _ ?_) _
    refine e_thenN ?_
    refine wp_ret ?_
    refine e_thenR ?_
    obtain rfl := Option.some.inj hf
    exact r_ret2 h rfl (rv_tmp h rfl) (rv_tmp h rfl) ⟨_, [], _, rfl, ⟨none, 0, rfl, rfl, (slS.nil ty8 S0), hr16, trivial⟩, rfl, (Up.refl _ _ _), h.m⟩
  · rw [if_neg (of_decide_eq_false hb)] at hf
    refine wp_skip ?_
    refine e_thenN ?_
    refine c_rs ?_ -- region 3
    refine s_move h rfl _ rfl rfl (by decide) rfl (fun a h => ?_)
    obtain ⟨k17, hc18, ⟨k19, k20, rfl, ⟨A21, c22, rfl, hs23⟩, ⟨rfl, hr24⟩⟩⟩ := id hpa0
    refine s_x h rfl rfl (by decide) (x_nil h.k rfl rfl) (fun a h => ?_)
    refine s_x h rfl rfl (by decide) (x_faddr h.k rfl Try.underlying122 rfl sz_Suint8 rfl) (fun a h => ?_)
    refine s_x h rfl rfl (by decide) (x_ld h.k rfl Try.underlying22 rfl rfl (hc18 _ (h.m.snOK (i := 0) rfl) 0 _ rfl)) (fun a h => ?_)
    refine s_assign h rfl _ rfl rfl (by decide) rfl (fun a h => ?_)
    refine s_assign h rfl _ rfl rfl (by decide) rfl (fun a h => ?_)
    refine l_end ?_
    refine wp_ret ?_
    obtain rfl := Option.some.inj hf
    exact r_ret2 h rfl (rv_tmp h rfl) (rv_tmp h rfl) ⟨_, [], _, rfl, ⟨A21, c22, rfl, rfl, hs23, (show r64 0 from ⟨by decide, by decide⟩), trivial⟩, rfl, (Up.refl _ _ _), h.m⟩
def chatelaineref12_Reader_fail (Fu : Nat) (a0 : (List UInt8) × Int) (a1 : Int) : Option (((List UInt8) × Int)) :=
  if a0.2 = 0 then (some (a0.1, a1)) else (some a0)
set_option maxRecDepth 100000 in
set_option maxHeartbeats 2000000 in
theorem chatelaineref12_Reader_fail_ok (Fu : Nat) {S0 : Snap} (a0 : (List UInt8) × Int) (g1 : Nat) (A2 : Option Addr) (c3 : Nat) (hs4 : slS ty8 S0 A2 c3 a0.1) (hr5 : r64 a0.2) (a1 : Int) (hra1 : r64 a1) (r : ((List UInt8) × Int)) (hf : chatelaineref12_Reader_fail Fu a0 a1 = some r) (w0 : World) (hm : Mem w0 (ownL ([.box g1 129 ([.slice A2 a0.1.length c3, .int .i64 a0.2])] ++ [.sn S0])) ([.box g1 129 ([.slice A2 a0.1.length c3, .int .i64 a0.2])] ++ [.sn S0]) w0) :
    Calls Try.prog 127 #[.pointer (some ⟨g1, 0, none⟩), .int .i64 a1] w0 (Ret w0 S0 [.box g1 129 ([.slice A2 a0.1.length c3, .int .i64 a0.2])] (fun v L1 S1 => ∃ (A6 : Option Addr), ∃ (c7 : Nat), v = .tuple #[] ∧ L1 = [.box g1 129 ([.slice A6 r.1.length c7, .int .i64 r.2])] ∧ slS ty8 S1 A6 c7 r.1 ∧ r64 r.2 ∧ True)) := by
  unfold chatelaineref12_Reader_fail at hf
  obtain ⟨B0, hB0⟩ : ∃ B0, B0 = (ownL ([.box g1 129 ([.slice A2 a0.1.length c3, .int .i64 a0.2])] ++ [.sn S0])) := ⟨_, rfl⟩
  rw [← hB0] at hm
  refine c_enterM Try.func127 rfl 13 rfl (by simp) _ hm _ rfl (fun a h => ?_)
  refine c_rs ?_ -- region 0
  refine s_move h rfl _ rfl rfl (by decide) rfl (fun a h => ?_)
  refine s_x h rfl rfl (by decide) (x_nil h.k rfl rfl) (fun a h => ?_)
  refine s_x h rfl rfl (by decide) (x_faddr h.k rfl Try.underlying129 rfl sz_int rfl) (fun a h => ?_)
  refine s_x h rfl rfl (by decide) (x_ld h.k rfl Try.underlying3 rfl rfl ((h.m.cell (i := 0) rfl 1).trans rfl)) (fun a h => ?_)
  refine s_x h rfl rfl (by decide) (x_bin h.k rfl rfl rfl ib_eql) (fun a h => ?_)
  refine l_end ?_
  refine c_cond h rfl (fun hb => ?_) (fun hb => ?_)
  · rw [if_pos (of_decide_eq_true hb)] at hf
    refine c_r ?_ -- region 1
    refine s_move h rfl _ rfl rfl (by decide) rfl (fun a h => ?_)
    refine s_move h rfl _ rfl rfl (by decide) rfl (fun a h => ?_)
    refine s_x h rfl rfl (by decide) (x_nil h.k rfl rfl) (fun a h => ?_)
    refine s_x h rfl rfl (by decide) (x_faddr h.k rfl Try.underlying129 rfl sz_int rfl) (fun a h => ?_)
    refine s_stb h rfl rfl rfl sz_int rfl rfl rfl 0 rfl (by first | decide | simp) (fun a w h => ?_)
    refine l_nil ?_
    obtain rfl := Option.some.inj hf
    subst hB0
    exact r_ret0 h rfl  ⟨_, [.box g1 129 ([.slice A2 a0.1.length c3, .int .i64 a1])], _, rfl, ⟨A2, c3, rfl, rfl, hs4, hra1, trivial⟩, rfl, (Up.refl _ _ _), h.m⟩
  · rw [if_neg (of_decide_eq_false hb)] at hf
    refine wp_skip ?_
    rw [← Option.some.inj hf]
    subst hB0
    exact r_ret0 h rfl  ⟨_, [.box g1 129 ([.slice A2 a0.1.length c3, .int .i64 a0.2])], _, rfl, ⟨A2, c3, rfl, rfl, hs4, hr5, trivial⟩, rfl, (Up.refl _ _ _), h.m⟩
def chatelaineref12_Reader_Fixed (Fu : Nat) (a0 : (List UInt8) × Int) (a1 : Int) : Option ((List UInt8) × ((List UInt8) × Int)) :=
  (if a1 < 0 then ((chatelaineref12_Reader_fail Fu a0 2).bind fun x16 => some x16) else (if (a0.1.length : Int) < a1 then ((chatelaineref12_Reader_fail Fu a0 10).bind fun x26 => some x26) else (some a0))).bind fun x11 => if x11.2 ≠ 0 then (some ([], x11)) else ((sub x11.1 0 a1).bind fun x36 => (sub x11.1 a1 (x11.1.length : Int)).bind fun x46 => some (x36, (x46, x11.2)))
set_option maxRecDepth 100000 in
set_option maxHeartbeats 2000000 in
theorem chatelaineref12_Reader_Fixed_ok (Fu : Nat) {S0 : Snap} (a0 : (List UInt8) × Int) (g1 : Nat) (A2 : Option Addr) (c3 : Nat) (hs4 : slS ty8 S0 A2 c3 a0.1) (hr5 : r64 a0.2) (a1 : Int) (hra1 : r64 a1) (r : (List UInt8) × ((List UInt8) × Int)) (hf : chatelaineref12_Reader_Fixed Fu a0 a1 = some r) (w0 : World) (hm : Mem w0 (ownL ([.box g1 129 ([.slice A2 a0.1.length c3, .int .i64 a0.2])] ++ [.sn S0])) ([.box g1 129 ([.slice A2 a0.1.length c3, .int .i64 a0.2])] ++ [.sn S0]) w0) :
    Calls Try.prog 128 #[.pointer (some ⟨g1, 0, none⟩), .int .i64 a1] w0 (Ret w0 S0 [.box g1 129 ([.slice A2 a0.1.length c3, .int .i64 a0.2])] (fun v L1 S1 => ∃ (A57 : Option Addr), ∃ (c58 : Nat), ∃ (A60 : Option Addr), ∃ (c61 : Nat), v = .slice A57 r.1.length c58 ∧ L1 = [.box g1 129 ([.slice A60 r.2.1.length c61, .int .i64 r.2.2])] ∧ slS ty8 S1 A57 c58 r.1 ∧ slS ty8 S1 A60 c61 r.2.1 ∧ r64 r.2.2 ∧ True)) := by
  unfold chatelaineref12_Reader_Fixed at hf
  obtain ⟨B0, hB0⟩ : ∃ B0, B0 = (ownL ([.box g1 129 ([.slice A2 a0.1.length c3, .int .i64 a0.2])] ++ [.sn S0])) := ⟨_, rfl⟩
  rw [← hB0] at hm
  refine c_enterM Try.func128 rfl 40 rfl (by simp) _ hm _ rfl (fun a h => ?_)
  refine c_rs ?_ -- region 0
  refine s_assign h rfl _ rfl rfl (by decide) rfl (fun a h => ?_)
  refine l_end ?_
  obtain ⟨o6, hc7, hf⟩ := bsome hf
  refine c_cut (fun a w => ∃ (S8 : Snap), ∃ (x11 : (List UInt8) × Int), ∃ (A12 : Option Addr), ∃ (c13 : Nat), x11 = o6 ∧ Snap.le S0 S8 ∧ Up B0 w0 S0 S8 ∧ slS ty8 S8 A12 c13 x11.1 ∧ r64 x11.2 ∧ St 40 w0 B0 [(0, .pointer (some ⟨g1, 0, none⟩)), (1, .int .i64 a1)] [.box g1 129 ([.slice A12 x11.1.length c13, .int .i64 x11.2]), .sn S8] a w) ?_ ?_
  · refine c_rs ?_ -- region 1
    refine s_move h rfl _ rfl rfl (by decide) rfl (fun a h => ?_)
    refine s_x h rfl rfl (by decide) (x_bin h.k rfl rfl rfl ib_lss) (fun a h => ?_)
    refine l_end ?_
    refine c_cond h rfl (fun hb => ?_) (fun hb => ?_)
    · rw [if_pos (of_decide_eq_true hb)] at hc7
      refine c_r ?_ -- region 2
      refine s_move h rfl _ rfl rfl (by decide) rfl (fun a h => ?_)
      obtain ⟨x16, h17, hc7⟩ := bsome hc7
      have hX := chatelaineref12_Reader_fail_ok Fu (S0 := S0) a0 g1 A2 c3 hs4 hr5 2 (show r64 2 from ⟨by decide, by decide⟩) _ h17 _ (h.sub (Ls := [.box g1 129 ([.slice A2 a0.1.length c3, .int .i64 a0.2])]))
      refine q_callY (Ls := [.box g1 129 ([.slice A2 a0.1.length c3, .int .i64 a0.2])]) hX h (Up.refl _ _ _) rfl rfl rfl (by decide) Try.func127 rfl rfl rfl (fun a w v L1 S19 hR le21 up20 h => ?_)
      obtain ⟨A22, c23, rfl, rfl, hs24, hr25, _⟩ := hR
      refine l_nil ?_
      refine e_thenN ?_
      exact ⟨S19, x16, A22, c23, (Option.some.inj hc7), le21, up20, hs24, hr25, h.has (by exact ⟨rfl, rfl, trivial⟩)⟩
    · rw [if_neg (of_decide_eq_false hb)] at hc7
      refine c_rs ?_ -- region 3
      refine s_move h rfl _ rfl rfl (by decide) rfl (fun a h => ?_)
      refine s_move h rfl _ rfl rfl (by decide) rfl (fun a h => ?_)
      refine s_x h rfl rfl (by decide) (x_nil h.k rfl rfl) (fun a h => ?_)
      refine s_x h rfl rfl (by decide) (x_faddr h.k rfl Try.underlying129 rfl sz_Suint8 rfl) (fun a h => ?_)
      refine s_x h rfl rfl (by decide) (x_ld h.k rfl Try.underlying22 rfl rfl ((h.m.cell (i := 0) rfl 0).trans rfl)) (fun a h => ?_)
      refine s_x h rfl rfl (by decide) (x_len h.k rfl Try.underlying22 rfl) (fun a h => ?_)
      refine s_x h rfl rfl (by decide) (x_bin h.k rfl rfl rfl ib_gtr) (fun a h => ?_)
      refine l_end ?_
      refine c_cond h rfl (fun hb => ?_) (fun hb => ?_)
      · rw [if_pos (of_decide_eq_true hb)] at hc7
        refine c_r ?_ -- region 4
        refine s_move h rfl _ rfl rfl (by decide) rfl (fun a h => ?_)
        obtain ⟨x26, h27, hc7⟩ := bsome hc7
        have hX := chatelaineref12_Reader_fail_ok Fu (S0 := S0) a0 g1 A2 c3 hs4 hr5 10 (show r64 10 from ⟨by decide, by decide⟩) _ h27 _ (h.sub (Ls := [.box g1 129 ([.slice A2 a0.1.length c3, .int .i64 a0.2])]))
        refine q_callY (Ls := [.box g1 129 ([.slice A2 a0.1.length c3, .int .i64 a0.2])]) hX h (Up.refl _ _ _) rfl rfl rfl (by decide) Try.func127 rfl rfl rfl (fun a w v L1 S29 hR le31 up30 h => ?_)
        obtain ⟨A32, c33, rfl, rfl, hs34, hr35, _⟩ := hR
        refine l_nil ?_
        refine e_thenN ?_
        exact ⟨S29, x26, A32, c33, (Option.some.inj hc7), le31, up30, hs34, hr35, h.has (by exact ⟨rfl, rfl, trivial⟩)⟩
      · rw [if_neg (of_decide_eq_false hb)] at hc7
        refine wp_skip ?_
        refine e_thenN ?_
        exact ⟨S0, a0, A2, c3, (Option.some.inj hc7), (Snap.le.refl _), (Up.refl _ _ _), hs4, hr5, h.has (by exact ⟨rfl, rfl, trivial⟩)⟩
  · rintro a w ⟨S8, x11, A12, c13, rfl, le9, up10, hs14, hr15, h⟩
    refine wp_seq ?_
    refine c_rs ?_ -- region 5
    refine s_move h rfl _ rfl rfl (by decide) rfl (fun a h => ?_)
    refine s_x h rfl rfl (by decide) (x_nil h.k rfl rfl) (fun a h => ?_)
    refine s_x h rfl rfl (by decide) (x_faddr h.k rfl Try.underlying129 rfl sz_int rfl) (fun a h => ?_)
    refine s_x h rfl rfl (by decide) (x_ld h.k rfl Try.underlying3 rfl rfl ((h.m.cell (i := 0) rfl 1).trans rfl)) (fun a h => ?_)
    refine s_x h rfl rfl (by decide) (x_bin h.k rfl rfl rfl ib_neq) (fun a h => ?_)
    refine l_end ?_
    refine c_cond h rfl (fun hb => ?_) (fun hb => ?_)
    · rw [if_pos (of_decide_eq_true hb)] at hf
      refine c_rs ?_ -- region 6
      refine s_assign h rfl _ rfl rfl (by decide) rfl (fun a h => ?_)
      refine l_end ?_
      refine wp_ret ?_
      refine e_thenR ?_
      obtain rfl := Option.some.inj hf
      subst hB0
      exact r_ret1 h rfl (rv_tmp h rfl) ⟨_, [.box g1 129 ([.slice A12 x11.1.length c13, .int .i64 x11.2])], _, rfl, ⟨none, 0, A12, c13, rfl, rfl, (slS.nil ty8 S8), hs14, hr15, trivial⟩, rfl, up10, h.m⟩
    · rw [if_neg (of_decide_eq_false hb)] at hf
      refine wp_skip ?_
      refine e_thenN ?_
      refine c_rs ?_ -- region 7
      refine s_move h rfl _ rfl rfl (by decide) rfl (fun a h => ?_)
      refine s_x h rfl rfl (by decide) (x_nil h.k rfl rfl) (fun a h => ?_)
      refine s_x h rfl rfl (by decide) (x_faddr h.k rfl Try.underlying129 rfl sz_Suint8 rfl) (fun a h => ?_)
      refine s_x h rfl rfl (by decide) (x_ld h.k rfl Try.underlying22 rfl rfl ((h.m.cell (i := 0) rfl 0).trans rfl)) (fun a h => ?_)
      refine s_move h rfl _ rfl rfl (by decide) rfl (fun a h => ?_)
      obtain ⟨x36, h37, hf⟩ := bsome hf
      obtain ⟨m38, n39, hi40, hi41, hm42, hm43, hr44⟩ := sub_some h37
      have hs45 := slS.sub (hs14) hm42 hm43 (Nat.le_trans hm43 (hs14).1) (Nat.le_refl _) hr44
      refine s_x h rfl rfl (by decide) (x_sliceE h.k rfl Try.underlying22 sz_uint8 rfl c13 hr44 (bd_none (by omega)) (bd_some rfl hi41) (bd_none rfl) (by intro hh; cases hh) hm42 hm43 (Nat.le_trans hm43 (hs14).1) (Nat.le_refl _)) (fun a h => ?_)
      refine s_assign h rfl _ rfl rfl (by decide) rfl (fun a h => ?_)
      refine l_end ?_
      refine c_rs ?_ -- region 8
      refine s_move h rfl _ rfl rfl (by decide) rfl (fun a h => ?_)
      refine s_move h rfl _ rfl rfl (by decide) rfl (fun a h => ?_)
      refine s_x h rfl rfl (by decide) (x_nil h.k rfl rfl) (fun a h => ?_)
      refine s_x h rfl rfl (by decide) (x_faddr h.k rfl Try.underlying129 rfl sz_Suint8 rfl) (fun a h => ?_)
      refine s_x h rfl rfl (by decide) (x_ld h.k rfl Try.underlying22 rfl rfl ((h.m.cell (i := 0) rfl 0).trans rfl)) (fun a h => ?_)
      refine s_move h rfl _ rfl rfl (by decide) rfl (fun a h => ?_)
      obtain ⟨x46, h47, hf⟩ := bsome hf
      obtain ⟨m48, n49, hi50, hi51, hm52, hm53, hr54⟩ := sub_some h47
      have hs55 := slS.sub (hs14) hm52 hm53 (Nat.le_trans hm53 (hs14).1) (Nat.le_refl _) hr54
      refine s_x h rfl rfl (by decide) (x_sliceE h.k rfl Try.underlying22 sz_uint8 rfl c13 hr54 (bd_some rfl hi50) (bd_none (by omega)) (bd_none rfl) (by intro _; rfl) hm52 hm53 (Nat.le_trans hm53 (hs14).1) (Nat.le_refl _)) (fun a h => ?_)
      refine s_x h rfl rfl (by decide) (x_nil h.k rfl rfl) (fun a h => ?_)
      refine s_x h rfl rfl (by decide) (x_faddr h.k rfl Try.underlying129 rfl sz_Suint8 rfl) (fun a h => ?_)
      refine s_stb h rfl rfl rfl sz_Suint8 rfl rfl rfl 0 rfl (by first | decide | simp) (fun a w h => ?_)
      refine l_end ?_
      refine c_rs ?_ -- region 9
      refine s_move h rfl _ rfl rfl (by decide) rfl (fun a h => ?_)
      refine s_assign h rfl _ rfl rfl (by decide) rfl (fun a h => ?_)
      refine l_end ?_
      refine wp_ret ?_
      obtain rfl := Option.some.inj hf
      subst hB0
      exact r_ret1 h rfl (rv_tmp h rfl) ⟨_, [.box g1 129 ([.slice (sA A12 c13 m48 1) x46.length (c13 - m48), .int .i64 x11.2])], _, rfl, ⟨(sA A12 c13 m38 1), (c13 - m38), (sA A12 c13 m48 1), (c13 - m48), rfl, rfl, hs45, hs55, hr15, trivial⟩, rfl, up10, h.m⟩
def chatelaineref12_Reader_Number (Fu : Nat) (a0 : (List UInt8) × Int) (a1 : Int) (a2 : Int) : Option (Int × ((List UInt8) × Int)) :=
  (if ((decide (a1 < 1)) || (decide (8 < a1))) = true then ((chatelaineref12_Reader_fail Fu a0 2).bind fun x18 => some x18) else (some a0)).bind fun x11 => (chatelaineref12_Reader_Fixed Fu x11 a1).bind fun x28 => if x28.2.2 ≠ 0 then (some (0, x28.2)) else ((chatelaineref01_Get Fu x28.1).bind fun x41 => if ((decide (x41.2 ≠ 0)) || (decide (a2 < x41.1))) = true then ((chatelaineref12_Reader_fail Fu x28.2 11).bind fun x48 => some (0, x48)) else (some (x41.1, x28.2)))
set_option maxRecDepth 100000 in
set_option maxHeartbeats 2000000 in
theorem chatelaineref12_Reader_Number_ok (Fu : Nat) {S0 : Snap} (a0 : (List UInt8) × Int) (g1 : Nat) (A2 : Option Addr) (c3 : Nat) (hs4 : slS ty8 S0 A2 c3 a0.1) (hr5 : r64 a0.2) (a1 : Int) (hra1 : r64 a1) (a2 : Int) (hra2 : r64 a2) (r : Int × ((List UInt8) × Int)) (hf : chatelaineref12_Reader_Number Fu a0 a1 a2 = some r) (w0 : World) (hm : Mem w0 (ownL ([.box g1 129 ([.slice A2 a0.1.length c3, .int .i64 a0.2])] ++ [.sn S0])) ([.box g1 129 ([.slice A2 a0.1.length c3, .int .i64 a0.2])] ++ [.sn S0]) w0) :
    Calls Try.prog 78 #[.pointer (some ⟨g1, 0, none⟩), .int .i64 a1, .int .i64 a2] w0 (Ret w0 S0 [.box g1 129 ([.slice A2 a0.1.length c3, .int .i64 a0.2])] (fun v L1 S1 => ∃ (A60 : Option Addr), ∃ (c61 : Nat), v = .int .i64 r.1 ∧ L1 = [.box g1 129 ([.slice A60 r.2.1.length c61, .int .i64 r.2.2])] ∧ r64 r.1 ∧ slS ty8 S1 A60 c61 r.2.1 ∧ r64 r.2.2 ∧ True)) := by
  unfold chatelaineref12_Reader_Number at hf
  obtain ⟨B0, hB0⟩ : ∃ B0, B0 = (ownL ([.box g1 129 ([.slice A2 a0.1.length c3, .int .i64 a0.2])] ++ [.sn S0])) := ⟨_, rfl⟩
  rw [← hB0] at hm
  refine c_enterM Try.func78 rfl 41 rfl (by simp) _ hm _ rfl (fun a h => ?_)
  refine c_rs ?_ -- region 0
  refine s_assign h rfl _ rfl rfl (by decide) rfl (fun a h => ?_)
  refine l_end ?_
  obtain ⟨o6, hc7, hf⟩ := bsome hf
  refine c_cut (fun a w => ∃ (S8 : Snap), ∃ (x11 : (List UInt8) × Int), ∃ (A12 : Option Addr), ∃ (c13 : Nat), x11 = o6 ∧ Snap.le S0 S8 ∧ Up B0 w0 S0 S8 ∧ slS ty8 S8 A12 c13 x11.1 ∧ r64 x11.2 ∧ St 41 w0 B0 [(0, .pointer (some ⟨g1, 0, none⟩)), (1, .int .i64 a1), (2, .int .i64 a2)] [.box g1 129 ([.slice A12 x11.1.length c13, .int .i64 x11.2]), .sn S8] a w) ?_ ?_
  · refine c_rs ?_ -- region 1
    refine s_move h rfl _ rfl rfl (by decide) rfl (fun a h => ?_)
    refine s_x h rfl rfl (by decide) (x_bin h.k rfl rfl rfl ib_lss) (fun a h => ?_)
    refine s_move h rfl _ rfl rfl (by decide) rfl (fun a h => ?_)
    refine q_grp h 3 (t := 12) 15 ((decide (a1 < 1)) || (decide (8 < a1))) rfl (fun hB2 => ?_) (fun hB2 => ?_) (fun a w h => ?_)
    · refine g_no h rfl rfl rfl rfl hB2 rfl (by decide) (fun a h => ?_)
      refine g_no h rfl rfl rfl rfl hB2 rfl (by decide) (fun a h => ?_)
      refine s_x h rfl rfl (by decide) (x_pick (u' := undef) h.k rfl rfl (fun _ => rfl) (fun hh => absurd (hB2.symm.trans hh) (by decide))) (fun a h => ?_)
      exact (h.mid 2 rfl).val (by first | rfl | (rw [hB2]; first | rfl | simp))
    · refine g_yes h rfl rfl rfl rfl hB2 ?_
      refine s_move h rfl _ rfl rfl (by decide) rfl (fun a h => ?_)
      refine g_yes h rfl rfl rfl rfl hB2 ?_
      refine s_x h rfl rfl (by decide) (x_bin h.k rfl rfl rfl ib_gtr) (fun a h => ?_)
      refine s_x h rfl rfl (by decide) (x_pick (u' := undef) h.k rfl rfl (fun hh => absurd (hB2.symm.trans hh) (by decide)) (fun _ => rfl)) (fun a h => ?_)
      exact (h.mid 2 rfl).val (by first | rfl | (rw [hB2]; first | rfl | simp))
    refine l_end ?_
    refine c_cond h rfl (fun hb => ?_) (fun hb => ?_)
    · rw [if_pos hb] at hc7
      refine c_r ?_ -- region 2
      refine s_move h rfl _ rfl rfl (by decide) rfl (fun a h => ?_)
      obtain ⟨x18, h19, hc7⟩ := bsome hc7
      have hX := chatelaineref12_Reader_fail_ok Fu (S0 := S0) a0 g1 A2 c3 hs4 hr5 2 (show r64 2 from ⟨by decide, by decide⟩) _ h19 _ (h.sub (Ls := [.box g1 129 ([.slice A2 a0.1.length c3, .int .i64 a0.2])]))
      refine q_callY (Ls := [.box g1 129 ([.slice A2 a0.1.length c3, .int .i64 a0.2])]) hX h (Up.refl _ _ _) rfl rfl rfl (by decide) Try.func127 rfl rfl rfl (fun a w v L1 S21 hR le23 up22 h => ?_)
      obtain ⟨A24, c25, rfl, rfl, hs26, hr27, _⟩ := hR
      refine l_nil ?_
      refine e_thenN ?_
      exact ⟨S21, x18, A24, c25, (Option.some.inj hc7), le23, up22, hs26, hr27, h.has (by exact ⟨rfl, rfl, rfl, trivial⟩)⟩
    · rw [if_neg (by rw [hb]; decide)] at hc7
      refine wp_skip ?_
      refine e_thenN ?_
      exact ⟨S0, a0, A2, c3, (Option.some.inj hc7), (Snap.le.refl _), (Up.refl _ _ _), hs4, hr5, h.has (by exact ⟨rfl, rfl, rfl, trivial⟩)⟩
  · rintro a w ⟨S8, x11, A12, c13, rfl, le9, up10, hs14, hr15, h⟩
    refine c_rs ?_ -- region 3
    refine s_move h rfl _ rfl rfl (by decide) rfl (fun a h => ?_)
    refine s_move h rfl _ rfl rfl (by decide) rfl (fun a h => ?_)
    obtain ⟨x28, h29, hf⟩ := bsome hf
    have hX := chatelaineref12_Reader_Fixed_ok Fu (S0 := S8) x11 g1 A12 c13 hs14 hr15 a1 hra1 _ h29 _ (h.sub (Ls := [.box g1 129 ([.slice A12 x11.1.length c13, .int .i64 x11.2])]))
    refine q_callY (Ls := [.box g1 129 ([.slice A12 x11.1.length c13, .int .i64 x11.2])]) hX h up10 rfl rfl rfl (by decide) Try.func128 rfl rfl rfl (fun a w v L1 S31 hR le33 up32 h => ?_)
    obtain ⟨A34, c35, A37, c38, rfl, rfl, hs36, hs39, hr40, _⟩ := hR
    refine s_assign h rfl _ rfl rfl (by decide) rfl (fun a h => ?_)
    refine l_end ?_
    refine wp_seq ?_
    refine c_rs ?_ -- region 4
    refine s_move h rfl _ rfl rfl (by decide) rfl (fun a h => ?_)
    refine s_x h rfl rfl (by decide) (x_nil h.k rfl rfl) (fun a h => ?_)
    refine s_x h rfl rfl (by decide) (x_faddr h.k rfl Try.underlying129 rfl sz_int rfl) (fun a h => ?_)
    refine s_x h rfl rfl (by decide) (x_ld h.k rfl Try.underlying3 rfl rfl ((h.m.cell (i := 0) rfl 1).trans rfl)) (fun a h => ?_)
    refine s_x h rfl rfl (by decide) (x_bin h.k rfl rfl rfl ib_neq) (fun a h => ?_)
    refine l_end ?_
    refine c_cond h rfl (fun hb => ?_) (fun hb => ?_)
    · rw [if_pos (of_decide_eq_true hb)] at hf
      refine c_rs ?_ -- region 5
      refine s_assign h rfl _ rfl rfl (by decide) rfl (fun a h => ?_)
      refine l_end ?_
      refine wp_ret ?_
      refine e_thenR ?_
      obtain rfl := Option.some.inj hf
      subst hB0
      exact r_ret1 h rfl (rv_tmp h rfl) ⟨_, [.box g1 129 ([.slice A37 x28.2.1.length c38, .int .i64 x28.2.2])], _, rfl, ⟨A37, c38, rfl, rfl, (show r64 0 from ⟨by decide, by decide⟩), hs39, hr40, trivial⟩, rfl, up32, h.m⟩
    · rw [if_neg (of_decide_eq_false hb)] at hf
      refine wp_skip ?_
      refine e_thenN ?_
      refine c_rs ?_ -- region 6
      refine s_move h rfl _ rfl rfl (by decide) rfl (fun a h => ?_)
      obtain ⟨x41, h42, hf⟩ := bsome hf
      have hX := chatelaineref01_Get_ok Fu (S0 := snapAll _) A34 c35 x28.1 (hs36.mono (h.m.leAll (i := 1) rfl)) _ h42 _ h.startAll
      refine q_callX hX h rfl rfl rfl (by decide) Try.func129 rfl rfl rfl (fun a w v L1 S1 hR hb1 h => ?_)
      obtain ⟨rfl, rfl, hr44, hr45, _⟩ := hR
      refine s_move h rfl _ rfl rfl (by decide) rfl (fun a h => ?_)
      refine s_x h rfl rfl (by decide) (x_ext h.k rfl rfl rfl) (fun a h => ?_)
      refine s_x h rfl rfl (by decide) (x_ext h.k rfl rfl rfl) (fun a h => ?_)
      refine s_assign h rfl _ rfl rfl (by decide) rfl (fun a h => ?_)
      refine s_assign h rfl _ rfl rfl (by decide) rfl (fun a h => ?_)
      refine l_end ?_
      refine wp_seq ?_
      refine c_rs ?_ -- region 7
      refine s_move h rfl _ rfl rfl (by decide) rfl (fun a h => ?_)
      refine s_x h rfl rfl (by decide) (x_bin h.k rfl rfl rfl ib_neq) (fun a h => ?_)
      refine s_move h rfl _ rfl rfl (by decide) rfl (fun a h => ?_)
      refine q_grp h 4 (t := 33) 37 ((decide (x41.2 ≠ 0)) || (decide (a2 < x41.1))) rfl (fun hB2 => ?_) (fun hB2 => ?_) (fun a w h => ?_)
      · refine g_no h rfl rfl rfl rfl hB2 rfl (by decide) (fun a h => ?_)
        refine g_no h rfl rfl rfl rfl hB2 rfl (by decide) (fun a h => ?_)
        refine g_no h rfl rfl rfl rfl hB2 rfl (by decide) (fun a h => ?_)
        refine s_x h rfl rfl (by decide) (x_pick (u' := undef) h.k rfl rfl (fun _ => rfl) (fun hh => absurd (hB2.symm.trans hh) (by decide))) (fun a h => ?_)
        exact (h.mid 3 rfl).val (by first | rfl | (rw [hB2]; first | rfl | simp))
      · refine g_yes h rfl rfl rfl rfl hB2 ?_
        refine s_move h rfl _ rfl rfl (by decide) rfl (fun a h => ?_)
        refine g_yes h rfl rfl rfl rfl hB2 ?_
        refine s_move h rfl _ rfl rfl (by decide) rfl (fun a h => ?_)
        refine g_yes h rfl rfl rfl rfl hB2 ?_
        refine s_x h rfl rfl (by decide) (x_bin h.k rfl rfl rfl ib_gtr) (fun a h => ?_)
        refine s_x h rfl rfl (by decide) (x_pick (u' := undef) h.k rfl rfl (fun hh => absurd (hB2.symm.trans hh) (by decide)) (fun _ => rfl)) (fun a h => ?_)
        exact (h.mid 3 rfl).val (by first | rfl | (rw [hB2]; first | rfl | simp))
      refine l_end ?_
      refine c_cond h rfl (fun hb => ?_) (fun hb => ?_)
      · rw [if_pos hb] at hf
        refine c_rs ?_ -- region 8
        refine s_move h rfl _ rfl rfl (by decide) rfl (fun a h => ?_)
        obtain ⟨x48, h49, hf⟩ := bsome hf
        have hX := chatelaineref12_Reader_fail_ok Fu (S0 := S31) x28.2 g1 A37 c38 hs39 hr40 11 (show r64 11 from ⟨by decide, by decide⟩) _ h49 _ (h.sub (Ls := [.box g1 129 ([.slice A37 x28.2.1.length c38, .int .i64 x28.2.2])]))
        refine q_callY (Ls := [.box g1 129 ([.slice A37 x28.2.1.length c38, .int .i64 x28.2.2])]) hX h up32 rfl rfl rfl (by decide) Try.func127 rfl rfl rfl (fun a w v L1 S51 hR le53 up52 h => ?_)
        obtain ⟨A54, c55, rfl, rfl, hs56, hr57, _⟩ := hR
        refine l_end ?_
        refine c_rs ?_ -- region 9
        refine s_assign h rfl _ rfl rfl (by decide) rfl (fun a h => ?_)
        refine l_end ?_
        refine wp_ret ?_
        refine e_thenR ?_
        obtain rfl := Option.some.inj hf
        subst hB0
        exact r_ret1 h rfl (rv_tmp h rfl) ⟨_, [.box g1 129 ([.slice A54 x48.1.length c55, .int .i64 x48.2])], _, rfl, ⟨A54, c55, rfl, rfl, (show r64 0 from ⟨by decide, by decide⟩), hs56, hr57, trivial⟩, rfl, up52, h.m⟩
      · rw [if_neg (by rw [hb]; decide)] at hf
        refine wp_skip ?_
        refine e_thenN ?_
        refine c_rs ?_ -- region 10
        refine s_move h rfl _ rfl rfl (by decide) rfl (fun a h => ?_)
        refine s_assign h rfl _ rfl rfl (by decide) rfl (fun a h => ?_)
        refine l_end ?_
        refine wp_ret ?_
        obtain rfl := Option.some.inj hf
        subst hB0
        exact r_ret1 h rfl (rv_tmp h rfl) ⟨_, [.box g1 129 ([.slice A37 x28.2.1.length c38, .int .i64 x28.2.2])], _, rfl, ⟨A37, c38, rfl, rfl, hr44, hs39, hr40, trivial⟩, rfl, up32, h.m⟩
def chatelaineref12_Reader_Bytes (Fu : Nat) (a0 : (List UInt8) × Int) (a1 : Int) : Option ((List UInt8) × ((List UInt8) × Int)) :=
  (if 65535 < a1 then (some 65535) else (some a1)).bind fun x8 => (chatelaineref12_Reader_Number Fu a0 2 x8).bind fun x10 => (chatelaineref12_Reader_Fixed Fu x10.2 x10.1).bind fun x21 => some x21
set_option maxRecDepth 100000 in
set_option maxHeartbeats 2000000 in
theorem chatelaineref12_Reader_Bytes_ok (Fu : Nat) {S0 : Snap} (a0 : (List UInt8) × Int) (g1 : Nat) (A2 : Option Addr) (c3 : Nat) (hs4 : slS ty8 S0 A2 c3 a0.1) (hr5 : r64 a0.2) (a1 : Int) (hra1 : r64 a1) (r : (List UInt8) × ((List UInt8) × Int)) (hf : chatelaineref12_Reader_Bytes Fu a0 a1 = some r) (w0 : World) (hm : Mem w0 (ownL ([.box g1 129 ([.slice A2 a0.1.length c3, .int .i64 a0.2])] ++ [.sn S0])) ([.box g1 129 ([.slice A2 a0.1.length c3, .int .i64 a0.2])] ++ [.sn S0]) w0) :
    Calls Try.prog 79 #[.pointer (some ⟨g1, 0, none⟩), .int .i64 a1] w0 (Ret w0 S0 [.box g1 129 ([.slice A2 a0.1.length c3, .int .i64 a0.2])] (fun v L1 S1 => ∃ (A35 : Option Addr), ∃ (c36 : Nat), ∃ (A38 : Option Addr), ∃ (c39 : Nat), v = .slice A35 r.1.length c36 ∧ L1 = [.box g1 129 ([.slice A38 r.2.1.length c39, .int .i64 r.2.2])] ∧ slS ty8 S1 A35 c36 r.1 ∧ slS ty8 S1 A38 c39 r.2.1 ∧ r64 r.2.2 ∧ True)) := by
  unfold chatelaineref12_Reader_Bytes at hf
  obtain ⟨B0, hB0⟩ : ∃ B0, B0 = (ownL ([.box g1 129 ([.slice A2 a0.1.length c3, .int .i64 a0.2])] ++ [.sn S0])) := ⟨_, rfl⟩
  rw [← hB0] at hm
  refine c_enterM Try.func79 rfl 14 rfl (by simp) _ hm _ rfl (fun a h => ?_)
  refine c_rs ?_ -- region 0
  refine s_assign h rfl _ rfl rfl (by decide) rfl (fun a h => ?_)
  refine l_end ?_
  obtain ⟨o6, hc7, hf⟩ := bsome hf
  refine c_cut (fun a w => ∃ (x8 : Int), x8 = o6 ∧ r64 x8 ∧ St 14 w0 B0 [(0, .pointer (some ⟨g1, 0, none⟩)), (1, .int .i64 x8)] [.box g1 129 ([.slice A2 a0.1.length c3, .int .i64 a0.2]), .sn S0] a w) ?_ ?_
  · refine c_rs ?_ -- region 1
    refine s_move h rfl _ rfl rfl (by decide) rfl (fun a h => ?_)
    refine s_x h rfl rfl (by decide) (x_bin h.k rfl rfl rfl ib_gtr) (fun a h => ?_)
    refine l_end ?_
    refine c_cond h rfl (fun hb => ?_) (fun hb => ?_)
    · rw [if_pos (of_decide_eq_true hb)] at hc7
      refine c_r ?_ -- region 2
      refine s_assign h rfl _ rfl rfl (by decide) rfl (fun a h => ?_)
      refine l_nil ?_
      refine e_thenN ?_
      exact ⟨65535, (Option.some.inj hc7), (show r64 65535 from ⟨by decide, by decide⟩), h.has (by exact ⟨rfl, rfl, trivial⟩)⟩
    · rw [if_neg (of_decide_eq_false hb)] at hc7
      refine wp_skip ?_
      refine e_thenN ?_
      exact ⟨a1, (Option.some.inj hc7), hra1, h.has (by exact ⟨rfl, rfl, trivial⟩)⟩
  · rintro a w ⟨x8, rfl, hr9, h⟩
    refine c_rs ?_ -- region 3
    refine s_move h rfl _ rfl rfl (by decide) rfl (fun a h => ?_)
    refine s_move h rfl _ rfl rfl (by decide) rfl (fun a h => ?_)
    obtain ⟨x10, h11, hf⟩ := bsome hf
    have hX := chatelaineref12_Reader_Number_ok Fu (S0 := S0) a0 g1 A2 c3 hs4 hr5 2 (show r64 2 from ⟨by decide, by decide⟩) x8 hr9 _ h11 _ (h.sub (Ls := [.box g1 129 ([.slice A2 a0.1.length c3, .int .i64 a0.2])]))
    refine q_callY (Ls := [.box g1 129 ([.slice A2 a0.1.length c3, .int .i64 a0.2])]) hX h (Up.refl _ _ _) rfl rfl rfl (by decide) Try.func78 rfl rfl rfl (fun a w v L1 S13 hR le15 up14 h => ?_)
    obtain ⟨A17, c18, rfl, rfl, hr16, hs19, hr20, _⟩ := hR
    refine s_assign h rfl _ rfl rfl (by decide) rfl (fun a h => ?_)
    refine l_end ?_
    refine c_rs ?_ -- region 4
    refine s_move h rfl _ rfl rfl (by decide) rfl (fun a h => ?_)
    refine s_move h rfl _ rfl rfl (by decide) rfl (fun a h => ?_)
    obtain ⟨x21, h22, hf⟩ := bsome hf
    have hX := chatelaineref12_Reader_Fixed_ok Fu (S0 := S13) x10.2 g1 A17 c18 hs19 hr20 x10.1 hr16 _ h22 _ (h.sub (Ls := [.box g1 129 ([.slice A17 x10.2.1.length c18, .int .i64 x10.2.2])]))
    refine q_callY (Ls := [.box g1 129 ([.slice A17 x10.2.1.length c18, .int .i64 x10.2.2])]) hX h up14 rfl rfl rfl (by decide) Try.func128 rfl rfl rfl (fun a w v L1 S24 hR le26 up25 h => ?_)
    obtain ⟨A27, c28, A30, c31, rfl, rfl, hs29, hs32, hr33, _⟩ := hR
    refine s_assign h rfl _ rfl rfl (by decide) rfl (fun a h => ?_)
    refine l_end ?_
    refine wp_ret ?_
    rw [← Option.some.inj hf]
    subst hB0
    exact r_ret1 h rfl (rv_tmp h rfl) ⟨_, [.box g1 129 ([.slice A30 x21.2.1.length c31, .int .i64 x21.2.2])], _, rfl, ⟨A27, c28, A30, c31, rfl, rfl, hs29, hs32, hr33, trivial⟩, rfl, up25, h.m⟩
def chatelaineref12_Reader_Done (Fu : Nat) (a0 : (List UInt8) × Int) : Option Int :=
  if ((decide (a0.2 = 0)) && (decide (0 < (a0.1.length : Int)))) = true then (some 13) else (some a0.2)
set_option maxRecDepth 100000 in
set_option maxHeartbeats 2000000 in
theorem chatelaineref12_Reader_Done_ok (Fu : Nat) {S0 : Snap} (ga0 : Nat) (a0 : (List UInt8) × Int) (hpa0 : ptS (tyP (tyL ty8) tyI) S0 ga0 a0) (r : Int) (hf : chatelaineref12_Reader_Done Fu a0 = some r) (w0 : World) (hm : Mem w0 (ownL ([] ++ [.sn S0])) ([] ++ [.sn S0]) w0) :
    Calls Try.prog 80 #[.pointer (some ⟨ga0, 0, none⟩)] w0 (Ret w0 S0 [] (fun v L1 S1 => v = .int .i64 r ∧ L1 = [] ∧ r64 r ∧ True)) := by
  unfold chatelaineref12_Reader_Done at hf
  refine c_enterM Try.func80 rfl 20 rfl (by simp) _ hm _ rfl (fun a h => ?_)
  refine c_rs ?_ -- region 0
  refine s_assign h rfl _ rfl rfl (by decide) rfl (fun a h => ?_)
  refine l_end ?_
  refine wp_seq ?_
  refine c_rs ?_ -- region 1
  refine s_move h rfl _ rfl rfl (by decide) rfl (fun a h => ?_)
  obtain ⟨k1, hc2, ⟨k3, k4, rfl, ⟨A5, c6, rfl, hs7⟩, ⟨rfl, hr8⟩⟩⟩ := id hpa0
  refine s_x h rfl rfl (by decide) (x_nil h.k rfl rfl) (fun a h => ?_)
  refine s_x h rfl rfl (by decide) (x_faddr h.k rfl Try.underlying129 rfl sz_int rfl) (fun a h => ?_)
  refine s_x h rfl rfl (by decide) (x_ld h.k rfl Try.underlying3 rfl rfl (hc2 _ (h.m.snOK (i := 0) rfl) 1 _ rfl)) (fun a h => ?_)
  refine s_x h rfl rfl (by decide) (x_bin h.k rfl rfl rfl ib_eql) (fun a h => ?_)
  refine s_move h rfl _ rfl rfl (by decide) rfl (fun a h => ?_)
  refine q_grp h 7 (t := 8) 15 ((decide (a0.2 = 0)) && (decide (0 < (a0.1.length : Int)))) rfl (fun hB5 => ?_) (fun hB5 => ?_) (fun a w h => ?_)
  · refine g_yes h rfl rfl rfl rfl hB5 ?_
    refine s_move h rfl _ rfl rfl (by decide) rfl (fun a h => ?_)
    refine g_yes h rfl rfl rfl rfl hB5 ?_
    obtain ⟨k11, hc12, ⟨k13, k14, rfl, ⟨A15, c16, rfl, hs17⟩, ⟨rfl, hr18⟩⟩⟩ := id hpa0
    refine s_x h rfl rfl (by decide) (x_nil h.k rfl rfl) (fun a h => ?_)
    refine g_yes h rfl rfl rfl rfl hB5 ?_
    refine s_x h rfl rfl (by decide) (x_faddr h.k rfl Try.underlying129 rfl sz_Suint8 rfl) (fun a h => ?_)
    refine g_yes h rfl rfl rfl rfl hB5 ?_
    refine s_x h rfl rfl (by decide) (x_ld h.k rfl Try.underlying22 rfl rfl (hc12 _ (h.m.snOK (i := 0) rfl) 0 _ rfl)) (fun a h => ?_)
    refine g_yes h rfl rfl rfl rfl hB5 ?_
    refine s_x h rfl rfl (by decide) (x_len h.k rfl Try.underlying22 rfl) (fun a h => ?_)
    refine g_yes h rfl rfl rfl rfl hB5 ?_
    refine s_x h rfl rfl (by decide) (x_bin h.k rfl rfl rfl ib_gtr) (fun a h => ?_)
    refine s_x h rfl rfl (by decide) (x_pick (u' := undef) h.k rfl rfl (fun _ => rfl) (fun hh => absurd (hB5.symm.trans hh) (by decide))) (fun a h => ?_)
    exact (h.mid 6 rfl).val (by first | rfl | (rw [hB5]; first | rfl | simp))
  · refine g_no h rfl rfl rfl rfl hB5 rfl (by decide) (fun a h => ?_)
    refine g_no h rfl rfl rfl rfl hB5 rfl (by decide) (fun a h => ?_)
    refine g_no h rfl rfl rfl rfl hB5 rfl (by decide) (fun a h => ?_)
    refine g_no h rfl rfl rfl rfl hB5 rfl (by decide) (fun a h => ?_)
    refine g_no h rfl rfl rfl rfl hB5 rfl (by decide) (fun a h => ?_)
    refine g_no h rfl rfl rfl rfl hB5 rfl (by decide) (fun a h => ?_)
    refine s_x h rfl rfl (by decide) (x_pick (u' := undef) h.k rfl rfl (fun hh => absurd (hB5.symm.trans hh) (by decide)) (fun _ => rfl)) (fun a h => ?_)
    exact (h.mid 6 rfl).val (by first | rfl | (rw [hB5]; first | rfl | simp))
  refine l_end ?_
  refine c_cond h rfl (fun hb => ?_) (fun hb => ?_)
  · rw [if_pos hb] at hf
    refine c_rs ?_ -- region 2
    refine s_assign h rfl _ rfl rfl (by decide) rfl (fun a h => ?_)
    refine l_end ?_
    refine wp_ret ?_
    refine e_thenR ?_
    rw [← Option.some.inj hf]
    exact r_ret1 h rfl (rv_tmp h rfl) ⟨_, [], _, rfl, ⟨rfl, rfl, (show r64 13 from ⟨by decide, by decide⟩), trivial⟩, rfl, (Up.refl _ _ _), h.m⟩
  · rw [if_neg (by rw [hb]; decide)] at hf
    refine wp_skip ?_
    refine e_thenN ?_
    refine c_rs ?_ -- region 3
    refine s_move h rfl _ rfl rfl (by decide) rfl (fun a h => ?_)
    obtain ⟨k19, hc20, ⟨k21, k22, rfl, ⟨A23, c24, rfl, hs25⟩, ⟨rfl, hr26⟩⟩⟩ := id hpa0
    refine s_x h rfl rfl (by decide) (x_nil h.k rfl rfl) (fun a h => ?_)
    refine s_x h rfl rfl (by decide) (x_faddr h.k rfl Try.underlying129 rfl sz_int rfl) (fun a h => ?_)
    refine s_x h rfl rfl (by decide) (x_ld h.k rfl Try.underlying3 rfl rfl (hc20 _ (h.m.snOK (i := 0) rfl) 1 _ rfl)) (fun a h => ?_)
    refine s_assign h rfl _ rfl rfl (by decide) rfl (fun a h => ?_)
    refine l_end ?_
    refine wp_ret ?_
    obtain rfl := Option.some.inj hf
    exact r_ret1 h rfl (rv_tmp h rfl) ⟨_, [], _, rfl, ⟨rfl, rfl, hr26, trivial⟩, rfl, (Up.refl _ _ _), h.m⟩
end Go.Proofs.Ythaakmdafnjkpaa
