/- Cv: Go functions as plain functions, and that they are so (written by xt.py). -/
import Derived.Test.YthaoiajbgadcjaaCt
set_option linter.unusedVariables false
set_option linter.unusedSimpArgs false
namespace Go.Proofs.Ythaoiajbgadcjaa
open Go.RowKit
def chatelainelaw22_CredBack (Fu : Nat) (a0 : (List UInt8) × (List UInt8) × Int × (List UInt8)) (a1 : List UInt8) (a2 : List UInt8) : Option Bool :=
  (chatelainelaw22_awake Fu).bind fun x20 => if (!x20) = true then (some false) else (if (((decide (100 < (a0.1.length : Int))) || (decide (100 < (a0.2.2.2.length : Int)))) || (decide (100 < (a2.length : Int)))) = true then (some true) else ((cred_Seal Fu a0.1 a0.2.1 a0.2.2.1 a0.2.2.2).bind fun x27 => if x27.2 ≠ 0 then ((cred_Turn Fu a0.2.1 a1 a0.2.2.1 x27.1).bind fun x36 => some ((decide ((x27.1.length : Int) = 0)) && (decide (x36.2 = 2)))) else ((cred_Open Fu a0.1 a0.2.1 a0.2.2.1 x27.1).bind fun x52 => (cred_Turn Fu a0.2.1 a1 a0.2.2.1 x27.1).bind fun x62 => (cred_Open Fu a0.1 a1 a0.2.2.1 x62.1).bind fun x75 => (if (((decide (x52.2 ≠ 0)) || (decide (x62.2 ≠ 0))) || (decide (x75.2 ≠ 0))) = true then some true else (chatelaineref01_Same Fu x52.1 a0.2.2.2).bind fun x92 => some (!x92)).bind fun z90 => (if z90 = true then some true else (chatelaineref01_Same Fu x75.1 a0.2.2.2).bind fun x98 => some (!x98)).bind fun z96 => if z96 = true then (some false) else ((cred_Change Fu a0.1 a2 a0.2.1 a0.2.2.1 x27.1).bind fun x101 => (chatelaineref22_Right Fu a2).bind fun x110 => if (!x110) = true then (some ((decide (x101.2 = 30)) && (decide ((x101.1.length : Int) = 0)))) else ((cred_Open Fu a2 a0.2.1 a0.2.2.1 x101.1).bind fun x120 => (cred_Seal Fu a2 a0.2.1 a0.2.2.1 a0.2.2.2).bind fun x130 => (if ((decide (x101.2 = 0)) && (decide (x120.2 = 0))) = true then (chatelaineref01_Same Fu x120.1 a0.2.2.2).bind fun x144 => some x144 else some false).bind fun z142 => (if z142 = true then (chatelaineref01_Same Fu x130.1 x101.1).bind fun x150 => some x150 else some false).bind fun z148 => some z148)))))
set_option maxRecDepth 100000 in
set_option maxHeartbeats 2000000 in
theorem chatelainelaw22_CredBack_ok (Fu : Nat) {S0 : Snap} (csa0 : List Value) (a0 : (List UInt8) × (List UInt8) × Int × (List UInt8)) (hsa0 : (tyP (tyL ty8) (tyP (tyA 32 ty8) (tyP tyI (tyL ty8)))).rep S0 csa0 a0) (csa1 : List Value) (a1 : List UInt8) (hsa1 : (tyA 32 ty8).rep S0 csa1 a1) (Aa2 : Option Addr) (ca2 : Nat) (a2 : List UInt8) (hsa2 : slS ty8 S0 Aa2 ca2 a2) (r : Bool) (hf : chatelainelaw22_CredBack Fu a0 a1 a2 = some r) (w0 : World) (hm : Mem w0 (ownL ([] ++ [.sn S0])) ([] ++ [.sn S0]) w0) :
    Calls Try.prog 5 #[.agg csa0.toArray, .agg csa1.toArray, .slice Aa2 a2.length ca2] w0 (Ret w0 S0 [] (fun v L1 S1 => v = .bool r ∧ L1 = [] ∧ True)) := by
  unfold chatelainelaw22_CredBack at hf
  obtain ⟨k1, k2, rfl, ⟨A3, c4, rfl, hs5⟩, ⟨k6, k7, rfl, ⟨hs8, hl9⟩, ⟨k10, k11, rfl, ⟨rfl, hr12⟩, ⟨A13, c14, rfl, hs15⟩⟩⟩⟩ := hsa0
  obtain ⟨hs16, hl17⟩ := hsa1
  refine c_enterM Try.func5 rfl 186 rfl (by simp) _ hm _ rfl (fun a h => ?_)
  refine c_rs ?_ -- region 0
  refine s_box h rfl rfl rfl (by decide) rfl (cs := ([.slice A3 a0.1.length c4] : List Value) ++ (k6 ++ ([.int .i64 a0.2.2.1, .slice A13 a0.2.2.2.length c14]))) (by rfl) (fun a w g18 h => ?_)
  refine s_box h rfl rfl rfl (by decide) rfl (cs := csa1) (by rfl) (fun a w g19 h => ?_)
  refine s_assign h rfl _ rfl rfl (by decide) rfl (fun a h => ?_)
  refine l_end ?_
  refine wp_seq ?_
  refine c_rs ?_ -- region 1
  obtain ⟨x20, h21, hf⟩ := bsome hf
  have hX := chatelainelaw22_awake_ok Fu (S0 := snapAll _)  _ h21 _ h.startAll
  refine q_callX hX h rfl rfl rfl (by decide) Try.func6 rfl rfl rfl (fun a w v L1 S1 hR hb1 h => ?_)
  obtain ⟨rfl, rfl, _⟩ := hR
  refine s_x h rfl rfl (by decide) (x_not h.k rfl rfl) (fun a h => ?_)
  refine l_end ?_
  refine c_cond h rfl (fun hb => ?_) (fun hb => ?_)
  · rw [if_pos hb] at hf
    refine c_rs ?_ -- region 2
    refine s_assign h rfl _ rfl rfl (by decide) rfl (fun a h => ?_)
    refine l_end ?_
    refine wp_ret ?_
    refine e_thenR ?_
    rw [← Option.some.inj hf]
    exact r_ret1 h rfl (rv_tmp h rfl) ⟨_, [], _, rfl, ⟨rfl, rfl, trivial⟩, rfl, (Up.refl _ _ _), (h.m.pick [2] _ (by decide) rfl)⟩
  · rw [if_neg (by rw [hb]; decide)] at hf
    refine wp_skip ?_
    refine e_thenN ?_
    refine wp_seq ?_
    refine c_rs ?_ -- region 3
    refine s_x h rfl rfl (by decide) (x_faddr h.k rfl Try.underlying33 rfl sz_Suint8 rfl) (fun a h => ?_)
    refine s_x h rfl rfl (by decide) (x_ld h.k rfl Try.underlying22 rfl rfl ((h.m.cell (i := 1) rfl 0).trans (cell_oneE (X := []) (Z := k6 ++ (([.int .i64 a0.2.2.1] : List Value) ++ ([.slice A13 a0.2.2.2.length c14]))) (off := 0) (u := .slice A3 a0.1.length c4) (by simp only [List.append_assoc, List.cons_append, List.nil_append, List.append_nil]) rfl))) (fun a h => ?_)
    refine s_x h rfl rfl (by decide) (x_len h.k rfl Try.underlying22 rfl) (fun a h => ?_)
    refine s_x h rfl rfl (by decide) (x_bin h.k rfl rfl rfl ib_gtr) (fun a h => ?_)
    refine s_move h rfl _ rfl rfl (by decide) rfl (fun a h => ?_)
    refine q_grp h 5 (t := 29) 34 ((decide (100 < (a0.1.length : Int))) || (decide (100 < (a0.2.2.2.length : Int)))) rfl (fun hB4 => ?_) (fun hB4 => ?_) (fun a w h => ?_)
    · refine g_no h rfl rfl rfl rfl hB4 rfl (by decide) (fun a h => ?_)
      refine g_no h rfl rfl rfl rfl hB4 rfl (by decide) (fun a h => ?_)
      refine g_no h rfl rfl rfl rfl hB4 rfl (by decide) (fun a h => ?_)
      refine g_no h rfl rfl rfl rfl hB4 rfl (by decide) (fun a h => ?_)
      refine s_x h rfl rfl (by decide) (x_pick (u' := undef) h.k rfl rfl (fun _ => rfl) (fun hh => absurd (hB4.symm.trans hh) (by decide))) (fun a h => ?_)
      exact (h.mid 4 rfl).val (by first | rfl | (rw [hB4]; first | rfl | simp))
    · refine g_yes h rfl rfl rfl rfl hB4 ?_
      refine s_x h rfl rfl (by decide) (x_faddr h.k rfl Try.underlying33 rfl sz_Suint8 rfl) (fun a h => ?_)
      refine g_yes h rfl rfl rfl rfl hB4 ?_
      refine s_x h rfl rfl (by decide) (x_ld h.k rfl Try.underlying22 rfl rfl ((h.m.cell (i := 1) rfl 34).trans (cell_oneE (X := ([.slice A3 a0.1.length c4] : List Value) ++ (k6 ++ ([.int .i64 a0.2.2.1]))) (Z := []) (off := 34) (u := .slice A13 a0.2.2.2.length c14) (by simp only [List.append_assoc, List.cons_append, List.nil_append, List.append_nil]) (show (([.slice A3 a0.1.length c4] : List Value) ++ (k6 ++ ([.int .i64 a0.2.2.1])) : List Value).length = 34 from by simp only [List.length_append, List.length_cons, List.length_nil, (show (k6 : List Value).length = 32 from ((hs8).len.trans (by rw [hl9]; rfl)))])))) (fun a h => ?_)
      refine g_yes h rfl rfl rfl rfl hB4 ?_
      refine s_x h rfl rfl (by decide) (x_len h.k rfl Try.underlying22 rfl) (fun a h => ?_)
      refine g_yes h rfl rfl rfl rfl hB4 ?_
      refine s_x h rfl rfl (by decide) (x_bin h.k rfl rfl rfl ib_gtr) (fun a h => ?_)
      refine s_x h rfl rfl (by decide) (x_pick (u' := undef) h.k rfl rfl (fun hh => absurd (hB4.symm.trans hh) (by decide)) (fun _ => rfl)) (fun a h => ?_)
      exact (h.mid 4 rfl).val (by first | rfl | (rw [hB4]; first | rfl | simp))
    refine s_move h rfl _ rfl rfl (by decide) rfl (fun a h => ?_)
    refine q_grp h 4 (t := 35) 39 (((decide (100 < (a0.1.length : Int))) || (decide (100 < (a0.2.2.2.length : Int)))) || (decide (100 < (a2.length : Int)))) rfl (fun hB10 => ?_) (fun hB10 => ?_) (fun a w h => ?_)
    · refine g_no h rfl rfl rfl rfl hB10 rfl (by decide) (fun a h => ?_)
      refine g_no h rfl rfl rfl rfl hB10 rfl (by decide) (fun a h => ?_)
      refine g_no h rfl rfl rfl rfl hB10 rfl (by decide) (fun a h => ?_)
      refine s_x h rfl rfl (by decide) (x_pick (u' := undef) h.k rfl rfl (fun _ => rfl) (fun hh => absurd (hB10.symm.trans hh) (by decide))) (fun a h => ?_)
      exact (h.mid 3 rfl).val (by first | rfl | (rw [hB10]; first | rfl | simp))
    · refine g_yes h rfl rfl rfl rfl hB10 ?_
      refine s_move h rfl _ rfl rfl (by decide) rfl (fun a h => ?_)
      refine g_yes h rfl rfl rfl rfl hB10 ?_
      refine s_x h rfl rfl (by decide) (x_len h.k rfl Try.underlying22 rfl) (fun a h => ?_)
      refine g_yes h rfl rfl rfl rfl hB10 ?_
      refine s_x h rfl rfl (by decide) (x_bin h.k rfl rfl rfl ib_gtr) (fun a h => ?_)
      refine s_x h rfl rfl (by decide) (x_pick (u' := undef) h.k rfl rfl (fun hh => absurd (hB10.symm.trans hh) (by decide)) (fun _ => rfl)) (fun a h => ?_)
      exact (h.mid 3 rfl).val (by first | rfl | (rw [hB10]; first | rfl | simp))
    refine l_end ?_
    refine c_cond h rfl (fun hb => ?_) (fun hb => ?_)
    · rw [if_pos hb] at hf
      refine c_rs ?_ -- region 4
      refine s_assign h rfl _ rfl rfl (by decide) rfl (fun a h => ?_)
      refine l_end ?_
      refine wp_ret ?_
      refine e_thenR ?_
      rw [← Option.some.inj hf]
      exact r_ret1 h rfl (rv_tmp h rfl) ⟨_, [], _, rfl, ⟨rfl, rfl, trivial⟩, rfl, (Up.refl _ _ _), (h.m.pick [2] _ (by decide) rfl)⟩
    · rw [if_neg (by rw [hb]; decide)] at hf
      refine wp_skip ?_
      refine e_thenN ?_
      refine c_rs ?_ -- region 5
      refine s_x h rfl rfl (by decide) (x_faddr h.k rfl Try.underlying33 rfl sz_Suint8 rfl) (fun a h => ?_)
      refine s_x h rfl rfl (by decide) (x_ld h.k rfl Try.underlying22 rfl rfl ((h.m.cell (i := 1) rfl 0).trans (cell_oneE (X := []) (Z := k6 ++ (([.int .i64 a0.2.2.1] : List Value) ++ ([.slice A13 a0.2.2.2.length c14]))) (off := 0) (u := .slice A3 a0.1.length c4) (by simp only [List.append_assoc, List.cons_append, List.nil_append, List.append_nil]) rfl))) (fun a h => ?_)
      refine s_x h rfl rfl (by decide) (x_faddr h.k rfl Try.underlying33 rfl sz_A32_uint8 rfl) (fun a h => ?_)
      refine s_x h rfl rfl (by decide) (x_ldR h.k rfl ag_A32_uint8 rfl k6 ((hs8).len.trans (by rw [hl9]; rfl)) (h.m.rangeMid (i := 1) (off := 1) (X := [.slice A3 a0.1.length c4]) (Y := k6) (Z := ([.int .i64 a0.2.2.1] : List Value) ++ ([.slice A13 a0.2.2.2.length c14])) rfl (by simp only [List.append_assoc, List.cons_append, List.nil_append, List.append_nil]) rfl)) (fun a h => ?_)
      refine s_x h rfl rfl (by decide) (x_faddr h.k rfl Try.underlying33 rfl sz_int rfl) (fun a h => ?_)
      refine s_x h rfl rfl (by decide) (x_ld h.k rfl Try.underlying3 rfl rfl ((h.m.cell (i := 1) rfl 33).trans (cell_oneE (X := ([.slice A3 a0.1.length c4] : List Value) ++ (k6)) (Z := [.slice A13 a0.2.2.2.length c14]) (off := 33) (u := .int .i64 a0.2.2.1) (by simp only [List.append_assoc, List.cons_append, List.nil_append, List.append_nil]) (show (([.slice A3 a0.1.length c4] : List Value) ++ (k6) : List Value).length = 33 from by simp only [List.length_append, List.length_cons, List.length_nil, (show (k6 : List Value).length = 32 from ((hs8).len.trans (by rw [hl9]; rfl)))])))) (fun a h => ?_)
      refine s_x h rfl rfl (by decide) (x_faddr h.k rfl Try.underlying33 rfl sz_Suint8 rfl) (fun a h => ?_)
      refine s_x h rfl rfl (by decide) (x_ld h.k rfl Try.underlying22 rfl rfl ((h.m.cell (i := 1) rfl 34).trans (cell_oneE (X := ([.slice A3 a0.1.length c4] : List Value) ++ (k6 ++ ([.int .i64 a0.2.2.1]))) (Z := []) (off := 34) (u := .slice A13 a0.2.2.2.length c14) (by simp only [List.append_assoc, List.cons_append, List.nil_append, List.append_nil]) (show (([.slice A3 a0.1.length c4] : List Value) ++ (k6 ++ ([.int .i64 a0.2.2.1])) : List Value).length = 34 from by simp only [List.length_append, List.length_cons, List.length_nil, (show (k6 : List Value).length = 32 from ((hs8).len.trans (by rw [hl9]; rfl)))])))) (fun a h => ?_)
      obtain ⟨x27, h28, hf⟩ := bsome hf
      have hX := cred_Seal_ok Fu (S0 := snapAll _) A3 c4 a0.1 (hs5.mono (h.m.leAll (i := 2) rfl)) k6 a0.2.1 ((tyA 32 ty8).mono (h.m.leAll (i := 2) rfl) (show (tyA 32 ty8).rep S0 k6 a0.2.1 from ⟨hs8, hl9⟩)) a0.2.2.1 hr12 A13 c14 a0.2.2.2 (hs15.mono (h.m.leAll (i := 2) rfl)) _ h28 _ h.startAll
      refine q_callX hX h rfl rfl rfl (by decide) Try.func13 rfl rfl rfl (fun a w v L1 S1 hR hb1 h => ?_)
      obtain ⟨A30, c31, cs32, rfl, rfl, hq33, hr34, _⟩ := hR
      have hq35 := hq33.fl (S' := S0) fl_8
      refine s_move h rfl _ rfl rfl (by decide) rfl (fun a h => ?_)
      refine s_x h rfl rfl (by decide) (x_ext h.k rfl rfl rfl) (fun a h => ?_)
      refine s_x h rfl rfl (by decide) (x_ext h.k rfl rfl rfl) (fun a h => ?_)
      refine s_assign h rfl _ rfl rfl (by decide) rfl (fun a h => ?_)
      refine s_assign h rfl _ rfl rfl (by decide) rfl (fun a h => ?_)
      refine l_end ?_
      refine wp_seq ?_
      refine c_rs ?_ -- region 6
      refine s_move h rfl _ rfl rfl (by decide) rfl (fun a h => ?_)
      refine s_x h rfl rfl (by decide) (x_bin h.k rfl rfl rfl ib_neq) (fun a h => ?_)
      refine l_end ?_
      refine c_cond h rfl (fun hb => ?_) (fun hb => ?_)
      · rw [if_pos (of_decide_eq_true hb)] at hf
        refine c_rs ?_ -- region 7
        refine s_x h rfl rfl (by decide) (x_faddr h.k rfl Try.underlying33 rfl sz_A32_uint8 rfl) (fun a h => ?_)
        refine s_x h rfl rfl (by decide) (x_ldR h.k rfl ag_A32_uint8 rfl k6 ((hs8).len.trans (by rw [hl9]; rfl)) (h.m.rangeMid (i := 2) (off := 1) (X := [.slice A3 a0.1.length c4]) (Y := k6) (Z := ([.int .i64 a0.2.2.1] : List Value) ++ ([.slice A13 a0.2.2.2.length c14])) rfl (by simp only [List.append_assoc, List.cons_append, List.nil_append, List.append_nil]) rfl)) (fun a h => ?_)
        refine s_x h rfl rfl (by decide) (x_ldR h.k rfl ag_A32_uint8 rfl csa1 ((hs16).len.trans (by rw [hl17]; rfl)) (h.m.range0 (i := 1) rfl)) (fun a h => ?_)
        refine s_x h rfl rfl (by decide) (x_faddr h.k rfl Try.underlying33 rfl sz_int rfl) (fun a h => ?_)
        refine s_x h rfl rfl (by decide) (x_ld h.k rfl Try.underlying3 rfl rfl ((h.m.cell (i := 2) rfl 33).trans (cell_oneE (X := ([.slice A3 a0.1.length c4] : List Value) ++ (k6)) (Z := [.slice A13 a0.2.2.2.length c14]) (off := 33) (u := .int .i64 a0.2.2.1) (by simp only [List.append_assoc, List.cons_append, List.nil_append, List.append_nil]) (show (([.slice A3 a0.1.length c4] : List Value) ++ (k6) : List Value).length = 33 from by simp only [List.length_append, List.length_cons, List.length_nil, (show (k6 : List Value).length = 32 from ((hs8).len.trans (by rw [hl9]; rfl)))])))) (fun a h => ?_)
        refine s_move h rfl _ rfl rfl (by decide) rfl (fun a h => ?_)
        obtain ⟨x36, h37, hf⟩ := bsome hf
        have hX := cred_Turn_ok Fu (S0 := snapAll _) k6 a0.2.1 ((tyA 32 ty8).mono (h.m.leAll (i := 3) rfl) (show (tyA 32 ty8).rep S0 k6 a0.2.1 from ⟨hs8, hl9⟩)) csa1 a1 ((tyA 32 ty8).mono (h.m.leAll (i := 3) rfl) (show (tyA 32 ty8).rep S0 csa1 a1 from ⟨hs16, hl17⟩)) a0.2.2.1 hr12 A30 c31 x27.1 (h.m.rowAll (i := 0) rfl (j := 3) rfl hq35) _ h37 _ h.startAll
        refine q_callX hX h rfl rfl rfl (by decide) Try.func16 rfl rfl rfl (fun a w v L1 S1 hR hb1 h => ?_)
        obtain ⟨A39, c40, cs41, rfl, rfl, hq42, hr43, _⟩ := hR
        have hq44 := hq42.fl (S' := S0) fl_8
        refine s_move h rfl _ rfl rfl (by decide) rfl (fun a h => ?_)
        refine s_x h rfl rfl (by decide) (x_ext h.k rfl rfl rfl) (fun a h => ?_)
        refine s_x h rfl rfl (by decide) (x_ext h.k rfl rfl rfl) (fun a h => ?_)
        refine s_assign h rfl _ rfl rfl (by decide) rfl (fun a h => ?_)
        refine s_assign h rfl _ rfl rfl (by decide) rfl (fun a h => ?_)
        refine l_end ?_
        refine c_rs ?_ -- region 8
        refine s_move h rfl _ rfl rfl (by decide) rfl (fun a h => ?_)
        have hr45 : r64 (x27.1.length : Int) := len_r (h.m.rowLen (i := 1) rfl)
        refine s_x h rfl rfl (by decide) (x_len h.k rfl Try.underlying22 rfl) (fun a h => ?_)
        refine s_x h rfl rfl (by decide) (x_bin h.k rfl rfl rfl ib_eql) (fun a h => ?_)
        refine s_move h rfl _ rfl rfl (by decide) rfl (fun a h => ?_)
        refine q_grp h 3 (t := 67) 70 ((decide ((x27.1.length : Int) = 0)) && (decide (x36.2 = 2))) rfl (fun hB3 => ?_) (fun hB3 => ?_) (fun a w h => ?_)
        · refine g_yes h rfl rfl rfl rfl hB3 ?_
          refine s_move h rfl _ rfl rfl (by decide) rfl (fun a h => ?_)
          refine g_yes h rfl rfl rfl rfl hB3 ?_
          refine s_x h rfl rfl (by decide) (x_bin h.k rfl rfl rfl ib_eql) (fun a h => ?_)
          refine s_x h rfl rfl (by decide) (x_pick (u' := undef) h.k rfl rfl (fun _ => rfl) (fun hh => absurd (hB3.symm.trans hh) (by decide))) (fun a h => ?_)
          exact (h.mid 2 rfl).val (by first | rfl | (rw [hB3]; first | rfl | simp))
        · refine g_no h rfl rfl rfl rfl hB3 rfl (by decide) (fun a h => ?_)
          refine g_no h rfl rfl rfl rfl hB3 rfl (by decide) (fun a h => ?_)
          refine s_x h rfl rfl (by decide) (x_pick (u' := undef) h.k rfl rfl (fun hh => absurd (hB3.symm.trans hh) (by decide)) (fun _ => rfl)) (fun a h => ?_)
          exact (h.mid 2 rfl).val (by first | rfl | (rw [hB3]; first | rfl | simp))
        refine s_assign h rfl _ rfl rfl (by decide) rfl (fun a h => ?_)
        refine l_end ?_
        refine wp_ret ?_
        refine e_thenR ?_
        obtain rfl := Option.some.inj hf
        exact r_ret1 h rfl (rv_tmp h rfl) ⟨_, [], _, rfl, ⟨rfl, rfl, trivial⟩, rfl, (Up.refl _ _ _), (h.m.pick [4] _ (by decide) rfl)⟩
      · rw [if_neg (of_decide_eq_false hb)] at hf
        refine wp_skip ?_
        refine e_thenN ?_
        refine c_rs ?_ -- region 9
        refine s_x h rfl rfl (by decide) (x_faddr h.k rfl Try.underlying33 rfl sz_Suint8 rfl) (fun a h => ?_)
        refine s_x h rfl rfl (by decide) (x_ld h.k rfl Try.underlying22 rfl rfl ((h.m.cell (i := 2) rfl 0).trans (cell_oneE (X := []) (Z := k6 ++ (([.int .i64 a0.2.2.1] : List Value) ++ ([.slice A13 a0.2.2.2.length c14]))) (off := 0) (u := .slice A3 a0.1.length c4) (by simp only [List.append_assoc, List.cons_append, List.nil_append, List.append_nil]) rfl))) (fun a h => ?_)
        refine s_x h rfl rfl (by decide) (x_faddr h.k rfl Try.underlying33 rfl sz_A32_uint8 rfl) (fun a h => ?_)
        refine s_x h rfl rfl (by decide) (x_ldR h.k rfl ag_A32_uint8 rfl k6 ((hs8).len.trans (by rw [hl9]; rfl)) (h.m.rangeMid (i := 2) (off := 1) (X := [.slice A3 a0.1.length c4]) (Y := k6) (Z := ([.int .i64 a0.2.2.1] : List Value) ++ ([.slice A13 a0.2.2.2.length c14])) rfl (by simp only [List.append_assoc, List.cons_append, List.nil_append, List.append_nil]) rfl)) (fun a h => ?_)
        refine s_x h rfl rfl (by decide) (x_faddr h.k rfl Try.underlying33 rfl sz_int rfl) (fun a h => ?_)
        refine s_x h rfl rfl (by decide) (x_ld h.k rfl Try.underlying3 rfl rfl ((h.m.cell (i := 2) rfl 33).trans (cell_oneE (X := ([.slice A3 a0.1.length c4] : List Value) ++ (k6)) (Z := [.slice A13 a0.2.2.2.length c14]) (off := 33) (u := .int .i64 a0.2.2.1) (by simp only [List.append_assoc, List.cons_append, List.nil_append, List.append_nil]) (show (([.slice A3 a0.1.length c4] : List Value) ++ (k6) : List Value).length = 33 from by simp only [List.length_append, List.length_cons, List.length_nil, (show (k6 : List Value).length = 32 from ((hs8).len.trans (by rw [hl9]; rfl)))])))) (fun a h => ?_)
        refine s_move h rfl _ rfl rfl (by decide) rfl (fun a h => ?_)
        have h := h.pick [0, 3, 1, 2] (by decide) rfl
        obtain ⟨S48, le49, up50, hs51, h⟩ := q_freeze (T := ty8) h (Up.refl _ _ _) hq35
        obtain ⟨x52, h53, hf⟩ := bsome hf
        have hX := cred_Open_ok Fu (S0 := S48) A3 c4 a0.1 (hs5.mono le49) k6 a0.2.1 (⟨(hs8.mono le49), hl9⟩) a0.2.2.1 hr12 A30 c31 x27.1 hs51 _ h53 _ (h.sub (Ls := []))
        refine q_callY (Ls := []) hX h up50 rfl rfl rfl (by decide) Try.func15 rfl rfl rfl (fun a w v L1 S55 hR le57 up56 h => ?_)
        obtain ⟨A58, c59, rfl, rfl, hs60, hr61, _⟩ := hR
        refine s_move h rfl _ rfl rfl (by decide) rfl (fun a h => ?_)
        refine s_x h rfl rfl (by decide) (x_ext h.k rfl rfl rfl) (fun a h => ?_)
        refine s_x h rfl rfl (by decide) (x_ext h.k rfl rfl rfl) (fun a h => ?_)
        refine s_assign h rfl _ rfl rfl (by decide) rfl (fun a h => ?_)
        refine s_assign h rfl _ rfl rfl (by decide) rfl (fun a h => ?_)
        refine l_end ?_
        refine c_rs ?_ -- region 10
        refine s_x h rfl rfl (by decide) (x_faddr h.k rfl Try.underlying33 rfl sz_A32_uint8 rfl) (fun a h => ?_)
        refine s_x h rfl rfl (by decide) (x_ldR h.k rfl ag_A32_uint8 rfl k6 (((hs8.mono (le49.trans le57))).len.trans (by rw [hl9]; rfl)) (h.m.rangeMid (i := 2) (off := 1) (X := [.slice A3 a0.1.length c4]) (Y := k6) (Z := ([.int .i64 a0.2.2.1] : List Value) ++ ([.slice A13 a0.2.2.2.length c14])) rfl (by simp only [List.append_assoc, List.cons_append, List.nil_append, List.append_nil]) rfl)) (fun a h => ?_)
        refine s_x h rfl rfl (by decide) (x_ldR h.k rfl ag_A32_uint8 rfl csa1 (((hs16.mono (le49.trans le57))).len.trans (by rw [hl17]; rfl)) (h.m.range0 (i := 1) rfl)) (fun a h => ?_)
        refine s_x h rfl rfl (by decide) (x_faddr h.k rfl Try.underlying33 rfl sz_int rfl) (fun a h => ?_)
        refine s_x h rfl rfl (by decide) (x_ld h.k rfl Try.underlying3 rfl rfl ((h.m.cell (i := 2) rfl 33).trans (cell_oneE (X := ([.slice A3 a0.1.length c4] : List Value) ++ (k6)) (Z := [.slice A13 a0.2.2.2.length c14]) (off := 33) (u := .int .i64 a0.2.2.1) (by simp only [List.append_assoc, List.cons_append, List.nil_append, List.append_nil]) (show (([.slice A3 a0.1.length c4] : List Value) ++ (k6) : List Value).length = 33 from by simp only [List.length_append, List.length_cons, List.length_nil, (show (k6 : List Value).length = 32 from (((hs8.mono (le49.trans le57))).len.trans (by rw [hl9]; rfl)))])))) (fun a h => ?_)
        refine s_move h rfl _ rfl rfl (by decide) rfl (fun a h => ?_)
        obtain ⟨x62, h63, hf⟩ := bsome hf
        have hX := cred_Turn_ok Fu (S0 := snapAll _) k6 a0.2.1 ((tyA 32 ty8).mono (h.m.leAll (i := 0) rfl) (show (tyA 32 ty8).rep S55 k6 a0.2.1 from ⟨(hs8.mono (le49.trans le57)), hl9⟩)) csa1 a1 ((tyA 32 ty8).mono (h.m.leAll (i := 0) rfl) (show (tyA 32 ty8).rep S55 csa1 a1 from ⟨(hs16.mono (le49.trans le57)), hl17⟩)) a0.2.2.1 hr12 A30 c31 x27.1 ((hs51.mono le57).mono (h.m.leAll (i := 0) rfl)) _ h63 _ h.startAll
        refine q_callX hX h rfl rfl rfl (by decide) Try.func16 rfl rfl rfl (fun a w v L1 S1 hR hb1 h => ?_)
        obtain ⟨A65, c66, cs67, rfl, rfl, hq68, hr69, _⟩ := hR
        have hq70 := hq68.fl (S' := S55) fl_8
        refine s_move h rfl _ rfl rfl (by decide) rfl (fun a h => ?_)
        refine s_x h rfl rfl (by decide) (x_ext h.k rfl rfl rfl) (fun a h => ?_)
        refine s_x h rfl rfl (by decide) (x_ext h.k rfl rfl rfl) (fun a h => ?_)
        refine s_assign h rfl _ rfl rfl (by decide) rfl (fun a h => ?_)
        refine s_assign h rfl _ rfl rfl (by decide) rfl (fun a h => ?_)
        refine l_end ?_
        refine c_rs ?_ -- region 11
        refine s_x h rfl rfl (by decide) (x_faddr h.k rfl Try.underlying33 rfl sz_Suint8 rfl) (fun a h => ?_)
        refine s_x h rfl rfl (by decide) (x_ld h.k rfl Try.underlying22 rfl rfl ((h.m.cell (i := 3) rfl 0).trans (cell_oneE (X := []) (Z := k6 ++ (([.int .i64 a0.2.2.1] : List Value) ++ ([.slice A13 a0.2.2.2.length c14]))) (off := 0) (u := .slice A3 a0.1.length c4) (by simp only [List.append_assoc, List.cons_append, List.nil_append, List.append_nil]) rfl))) (fun a h => ?_)
        refine s_x h rfl rfl (by decide) (x_ldR h.k rfl ag_A32_uint8 rfl csa1 (((hs16.mono (le49.trans le57))).len.trans (by rw [hl17]; rfl)) (h.m.range0 (i := 2) rfl)) (fun a h => ?_)
        refine s_x h rfl rfl (by decide) (x_faddr h.k rfl Try.underlying33 rfl sz_int rfl) (fun a h => ?_)
        refine s_x h rfl rfl (by decide) (x_ld h.k rfl Try.underlying3 rfl rfl ((h.m.cell (i := 3) rfl 33).trans (cell_oneE (X := ([.slice A3 a0.1.length c4] : List Value) ++ (k6)) (Z := [.slice A13 a0.2.2.2.length c14]) (off := 33) (u := .int .i64 a0.2.2.1) (by simp only [List.append_assoc, List.cons_append, List.nil_append, List.append_nil]) (show (([.slice A3 a0.1.length c4] : List Value) ++ (k6) : List Value).length = 33 from by simp only [List.length_append, List.length_cons, List.length_nil, (show (k6 : List Value).length = 32 from (((hs8.mono (le49.trans le57))).len.trans (by rw [hl9]; rfl)))])))) (fun a h => ?_)
        refine s_move h rfl _ rfl rfl (by decide) rfl (fun a h => ?_)
        obtain ⟨S71, le72, up73, hs74, h⟩ := q_freeze (T := ty8) h up56 hq70
        obtain ⟨x75, h76, hf⟩ := bsome hf
        have hX := cred_Open_ok Fu (S0 := S71) A3 c4 a0.1 (hs5.mono ((le49.trans le57).trans le72)) csa1 a1 (⟨(hs16.mono ((le49.trans le57).trans le72)), hl17⟩) a0.2.2.1 hr12 A65 c66 x62.1 hs74 _ h76 _ (h.sub (Ls := []))
        refine q_callY (Ls := []) hX h up73 rfl rfl rfl (by decide) Try.func15 rfl rfl rfl (fun a w v L1 S78 hR le80 up79 h => ?_)
        obtain ⟨A81, c82, rfl, rfl, hs83, hr84, _⟩ := hR
        refine s_move h rfl _ rfl rfl (by decide) rfl (fun a h => ?_)
        refine s_x h rfl rfl (by decide) (x_ext h.k rfl rfl rfl) (fun a h => ?_)
        refine s_x h rfl rfl (by decide) (x_ext h.k rfl rfl rfl) (fun a h => ?_)
        refine s_assign h rfl _ rfl rfl (by decide) rfl (fun a h => ?_)
        refine s_assign h rfl _ rfl rfl (by decide) rfl (fun a h => ?_)
        refine l_end ?_
        refine wp_seq ?_
        refine c_rs ?_ -- region 12
        refine s_move h rfl _ rfl rfl (by decide) rfl (fun a h => ?_)
        refine s_x h rfl rfl (by decide) (x_bin h.k rfl rfl rfl ib_neq) (fun a h => ?_)
        refine s_move h rfl _ rfl rfl (by decide) rfl (fun a h => ?_)
        refine q_grp h 3 (t := 104) 107 ((decide (x52.2 ≠ 0)) || (decide (x62.2 ≠ 0))) rfl (fun hB2 => ?_) (fun hB2 => ?_) (fun a w h => ?_)
        · refine g_no h rfl rfl rfl rfl hB2 rfl (by decide) (fun a h => ?_)
          refine g_no h rfl rfl rfl rfl hB2 rfl (by decide) (fun a h => ?_)
          refine s_x h rfl rfl (by decide) (x_pick (u' := undef) h.k rfl rfl (fun _ => rfl) (fun hh => absurd (hB2.symm.trans hh) (by decide))) (fun a h => ?_)
          exact (h.mid 2 rfl).val (by first | rfl | (rw [hB2]; first | rfl | simp))
        · refine g_yes h rfl rfl rfl rfl hB2 ?_
          refine s_move h rfl _ rfl rfl (by decide) rfl (fun a h => ?_)
          refine g_yes h rfl rfl rfl rfl hB2 ?_
          refine s_x h rfl rfl (by decide) (x_bin h.k rfl rfl rfl ib_neq) (fun a h => ?_)
          refine s_x h rfl rfl (by decide) (x_pick (u' := undef) h.k rfl rfl (fun hh => absurd (hB2.symm.trans hh) (by decide)) (fun _ => rfl)) (fun a h => ?_)
          exact (h.mid 2 rfl).val (by first | rfl | (rw [hB2]; first | rfl | simp))
        refine s_move h rfl _ rfl rfl (by decide) rfl (fun a h => ?_)
        refine q_grp h 3 (t := 108) 111 (((decide (x52.2 ≠ 0)) || (decide (x62.2 ≠ 0))) || (decide (x75.2 ≠ 0))) rfl (fun hB6 => ?_) (fun hB6 => ?_) (fun a w h => ?_)
        · refine g_no h rfl rfl rfl rfl hB6 rfl (by decide) (fun a h => ?_)
          refine g_no h rfl rfl rfl rfl hB6 rfl (by decide) (fun a h => ?_)
          refine s_x h rfl rfl (by decide) (x_pick (u' := undef) h.k rfl rfl (fun _ => rfl) (fun hh => absurd (hB6.symm.trans hh) (by decide))) (fun a h => ?_)
          exact (h.mid 2 rfl).val (by first | rfl | (rw [hB6]; first | rfl | simp))
        · refine g_yes h rfl rfl rfl rfl hB6 ?_
          refine s_move h rfl _ rfl rfl (by decide) rfl (fun a h => ?_)
          refine g_yes h rfl rfl rfl rfl hB6 ?_
          refine s_x h rfl rfl (by decide) (x_bin h.k rfl rfl rfl ib_neq) (fun a h => ?_)
          refine s_x h rfl rfl (by decide) (x_pick (u' := undef) h.k rfl rfl (fun hh => absurd (hB6.symm.trans hh) (by decide)) (fun _ => rfl)) (fun a h => ?_)
          exact (h.mid 2 rfl).val (by first | rfl | (rw [hB6]; first | rfl | simp))
        refine s_move h rfl _ rfl rfl (by decide) rfl (fun a h => ?_)
        obtain ⟨z90, hz89, hf⟩ := bsome hf
        refine q_grp h 6 (t := 112) 118 z90 rfl (fun hB10 => ?_) (fun hB10 => ?_) (fun a w h => ?_)
        · refine g_no h rfl rfl rfl rfl hB10 rfl (by decide) (fun a h => ?_)
          refine g_no h rfl rfl rfl rfl hB10 rfl (by decide) (fun a h => ?_)
          refine g_no h rfl rfl rfl rfl hB10 rfl (by decide) (fun a h => ?_)
          refine g_no h rfl rfl rfl rfl hB10 rfl (by decide) (fun a h => ?_)
          refine g_no h rfl rfl rfl rfl hB10 rfl (by decide) (fun a h => ?_)
          rw [if_pos hB10] at hz89
          refine s_x h rfl rfl (by decide) (x_pick (u' := undef) h.k rfl rfl (fun _ => rfl) (fun hh => absurd (hB10.symm.trans hh) (by decide))) (fun a h => ?_)
          exact (h.mid 5 rfl).val (by rw [Option.some.inj hz89])
        · rw [if_neg (by rw [hB10]; decide)] at hz89
          refine g_yes h rfl rfl rfl rfl hB10 ?_
          refine s_move h rfl _ rfl rfl (by decide) rfl (fun a h => ?_)
          refine g_yes h rfl rfl rfl rfl hB10 ?_
          refine s_x h rfl rfl (by decide) (x_faddr h.k rfl Try.underlying33 rfl sz_Suint8 rfl) (fun a h => ?_)
          refine g_yes h rfl rfl rfl rfl hB10 ?_
          refine s_x h rfl rfl (by decide) (x_ld h.k rfl Try.underlying22 rfl rfl ((h.m.cell (i := 2) rfl 34).trans (cell_oneE (X := ([.slice A3 a0.1.length c4] : List Value) ++ (k6 ++ ([.int .i64 a0.2.2.1]))) (Z := []) (off := 34) (u := .slice A13 a0.2.2.2.length c14) (by simp only [List.append_assoc, List.cons_append, List.nil_append, List.append_nil]) (show (([.slice A3 a0.1.length c4] : List Value) ++ (k6 ++ ([.int .i64 a0.2.2.1])) : List Value).length = 34 from by simp only [List.length_append, List.length_cons, List.length_nil, (show (k6 : List Value).length = 32 from (((hs8.mono (((le49.trans le57).trans le72).trans le80))).len.trans (by rw [hl9]; rfl)))])))) (fun a h => ?_)
          refine g_yes h rfl rfl rfl rfl hB10 ?_
          obtain ⟨x92, h93, hz89⟩ := bsome hz89
          have hX := chatelaineref01_Same_ok Fu (S0 := snapAll _) A58 c59 x52.1 ((hs60.mono (le72.trans le80)).mono (h.m.leAll (i := 0) rfl)) A13 c14 a0.2.2.2 ((hs15.mono (((le49.trans le57).trans le72).trans le80)).mono (h.m.leAll (i := 0) rfl)) _ h93 _ h.startAll
          refine q_callX hX h rfl rfl rfl (by decide) Try.func12 rfl rfl rfl (fun a w v L1 S1 hR hb1 h => ?_)
          obtain ⟨rfl, rfl, _⟩ := hR
          refine g_yes h rfl rfl rfl rfl hB10 ?_
          refine s_x h rfl rfl (by decide) (x_not h.k rfl rfl) (fun a h => ?_)
          refine s_x h rfl rfl (by decide) (x_pick (u' := undef) h.k rfl rfl (fun hh => absurd (hB10.symm.trans hh) (by decide)) (fun _ => rfl)) (fun a h => ?_)
          exact (h.mid 5 rfl).val (by rw [Option.some.inj hz89])
        refine s_move h rfl _ rfl rfl (by decide) rfl (fun a h => ?_)
        obtain ⟨z96, hz95, hf⟩ := bsome hf
        refine q_grp h 6 (t := 119) 125 z96 rfl (fun hB17 => ?_) (fun hB17 => ?_) (fun a w h => ?_)
        · refine g_no h rfl rfl rfl rfl hB17 rfl (by decide) (fun a h => ?_)
          refine g_no h rfl rfl rfl rfl hB17 rfl (by decide) (fun a h => ?_)
          refine g_no h rfl rfl rfl rfl hB17 rfl (by decide) (fun a h => ?_)
          refine g_no h rfl rfl rfl rfl hB17 rfl (by decide) (fun a h => ?_)
          refine g_no h rfl rfl rfl rfl hB17 rfl (by decide) (fun a h => ?_)
          rw [if_pos hB17] at hz95
          refine s_x h rfl rfl (by decide) (x_pick (u' := undef) h.k rfl rfl (fun _ => rfl) (fun hh => absurd (hB17.symm.trans hh) (by decide))) (fun a h => ?_)
          exact (h.mid 5 rfl).val (by rw [Option.some.inj hz95])
        · rw [if_neg (by rw [hB17]; decide)] at hz95
          refine g_yes h rfl rfl rfl rfl hB17 ?_
          refine s_move h rfl _ rfl rfl (by decide) rfl (fun a h => ?_)
          refine g_yes h rfl rfl rfl rfl hB17 ?_
          refine s_x h rfl rfl (by decide) (x_faddr h.k rfl Try.underlying33 rfl sz_Suint8 rfl) (fun a h => ?_)
          refine g_yes h rfl rfl rfl rfl hB17 ?_
          refine s_x h rfl rfl (by decide) (x_ld h.k rfl Try.underlying22 rfl rfl ((h.m.cell (i := 2) rfl 34).trans (cell_oneE (X := ([.slice A3 a0.1.length c4] : List Value) ++ (k6 ++ ([.int .i64 a0.2.2.1]))) (Z := []) (off := 34) (u := .slice A13 a0.2.2.2.length c14) (by simp only [List.append_assoc, List.cons_append, List.nil_append, List.append_nil]) (show (([.slice A3 a0.1.length c4] : List Value) ++ (k6 ++ ([.int .i64 a0.2.2.1])) : List Value).length = 34 from by simp only [List.length_append, List.length_cons, List.length_nil, (show (k6 : List Value).length = 32 from (((hs8.mono (((le49.trans le57).trans le72).trans le80))).len.trans (by rw [hl9]; rfl)))])))) (fun a h => ?_)
          refine g_yes h rfl rfl rfl rfl hB17 ?_
          obtain ⟨x98, h99, hz95⟩ := bsome hz95
          have hX := chatelaineref01_Same_ok Fu (S0 := snapAll _) A81 c82 x75.1 (hs83.mono (h.m.leAll (i := 0) rfl)) A13 c14 a0.2.2.2 ((hs15.mono (((le49.trans le57).trans le72).trans le80)).mono (h.m.leAll (i := 0) rfl)) _ h99 _ h.startAll
          refine q_callX hX h rfl rfl rfl (by decide) Try.func12 rfl rfl rfl (fun a w v L1 S1 hR hb1 h => ?_)
          obtain ⟨rfl, rfl, _⟩ := hR
          refine g_yes h rfl rfl rfl rfl hB17 ?_
          refine s_x h rfl rfl (by decide) (x_not h.k rfl rfl) (fun a h => ?_)
          refine s_x h rfl rfl (by decide) (x_pick (u' := undef) h.k rfl rfl (fun hh => absurd (hB17.symm.trans hh) (by decide)) (fun _ => rfl)) (fun a h => ?_)
          exact (h.mid 5 rfl).val (by rw [Option.some.inj hz95])
        refine l_end ?_
        refine c_cond h rfl (fun hb => ?_) (fun hb => ?_)
        · rw [if_pos hb] at hf
          refine c_rs ?_ -- region 13
          refine s_assign h rfl _ rfl rfl (by decide) rfl (fun a h => ?_)
          refine l_end ?_
          refine wp_ret ?_
          refine e_thenR ?_
          rw [← Option.some.inj hf]
          exact r_ret1 h rfl (rv_tmp h rfl) ⟨_, [], _, rfl, ⟨rfl, rfl, trivial⟩, rfl, up79, (h.m.pick [0] _ (by decide) rfl)⟩
        · rw [if_neg (by rw [hb]; decide)] at hf
          refine wp_skip ?_
          refine e_thenN ?_
          refine c_rs ?_ -- region 14
          refine s_x h rfl rfl (by decide) (x_faddr h.k rfl Try.underlying33 rfl sz_Suint8 rfl) (fun a h => ?_)
          refine s_x h rfl rfl (by decide) (x_ld h.k rfl Try.underlying22 rfl rfl ((h.m.cell (i := 2) rfl 0).trans (cell_oneE (X := []) (Z := k6 ++ (([.int .i64 a0.2.2.1] : List Value) ++ ([.slice A13 a0.2.2.2.length c14]))) (off := 0) (u := .slice A3 a0.1.length c4) (by simp only [List.append_assoc, List.cons_append, List.nil_append, List.append_nil]) rfl))) (fun a h => ?_)
          refine s_move h rfl _ rfl rfl (by decide) rfl (fun a h => ?_)
          refine s_x h rfl rfl (by decide) (x_faddr h.k rfl Try.underlying33 rfl sz_A32_uint8 rfl) (fun a h => ?_)
          refine s_x h rfl rfl (by decide) (x_ldR h.k rfl ag_A32_uint8 rfl k6 (((hs8.mono (((le49.trans le57).trans le72).trans le80))).len.trans (by rw [hl9]; rfl)) (h.m.rangeMid (i := 2) (off := 1) (X := [.slice A3 a0.1.length c4]) (Y := k6) (Z := ([.int .i64 a0.2.2.1] : List Value) ++ ([.slice A13 a0.2.2.2.length c14])) rfl (by simp only [List.append_assoc, List.cons_append, List.nil_append, List.append_nil]) rfl)) (fun a h => ?_)
          refine s_x h rfl rfl (by decide) (x_faddr h.k rfl Try.underlying33 rfl sz_int rfl) (fun a h => ?_)
          refine s_x h rfl rfl (by decide) (x_ld h.k rfl Try.underlying3 rfl rfl ((h.m.cell (i := 2) rfl 33).trans (cell_oneE (X := ([.slice A3 a0.1.length c4] : List Value) ++ (k6)) (Z := [.slice A13 a0.2.2.2.length c14]) (off := 33) (u := .int .i64 a0.2.2.1) (by simp only [List.append_assoc, List.cons_append, List.nil_append, List.append_nil]) (show (([.slice A3 a0.1.length c4] : List Value) ++ (k6) : List Value).length = 33 from by simp only [List.length_append, List.length_cons, List.length_nil, (show (k6 : List Value).length = 32 from (((hs8.mono (((le49.trans le57).trans le72).trans le80))).len.trans (by rw [hl9]; rfl)))])))) (fun a h => ?_)
          refine s_move h rfl _ rfl rfl (by decide) rfl (fun a h => ?_)
          obtain ⟨x101, h102, hf⟩ := bsome hf
          have hX := cred_Change_ok Fu (S0 := snapAll _) A3 c4 a0.1 ((hs5.mono (((le49.trans le57).trans le72).trans le80)).mono (h.m.leAll (i := 0) rfl)) Aa2 ca2 a2 ((hsa2.mono (((le49.trans le57).trans le72).trans le80)).mono (h.m.leAll (i := 0) rfl)) k6 a0.2.1 ((tyA 32 ty8).mono (h.m.leAll (i := 0) rfl) (show (tyA 32 ty8).rep S78 k6 a0.2.1 from ⟨(hs8.mono (((le49.trans le57).trans le72).trans le80)), hl9⟩)) a0.2.2.1 hr12 A30 c31 x27.1 ((hs51.mono ((le57.trans le72).trans le80)).mono (h.m.leAll (i := 0) rfl)) _ h102 _ h.startAll
          refine q_callX hX h rfl rfl rfl (by decide) Try.func17 rfl rfl rfl (fun a w v L1 S1 hR hb1 h => ?_)
          obtain ⟨A104, c105, cs106, rfl, rfl, hq107, hr108, _⟩ := hR
          have hq109 := hq107.fl (S' := S78) fl_8
          refine s_move h rfl _ rfl rfl (by decide) rfl (fun a h => ?_)
          refine s_x h rfl rfl (by decide) (x_ext h.k rfl rfl rfl) (fun a h => ?_)
          refine s_x h rfl rfl (by decide) (x_ext h.k rfl rfl rfl) (fun a h => ?_)
          refine s_assign h rfl _ rfl rfl (by decide) rfl (fun a h => ?_)
          refine s_assign h rfl _ rfl rfl (by decide) rfl (fun a h => ?_)
          refine l_end ?_
          refine wp_seq ?_
          refine c_rs ?_ -- region 15
          refine s_move h rfl _ rfl rfl (by decide) rfl (fun a h => ?_)
          obtain ⟨x110, h111, hf⟩ := bsome hf
          have hX := chatelaineref22_Right_ok Fu (S0 := snapAll _) Aa2 ca2 a2 ((hsa2.mono (((le49.trans le57).trans le72).trans le80)).mono (h.m.leAll (i := 1) rfl)) _ h111 _ h.startAll
          refine q_callX hX h rfl rfl rfl (by decide) Try.func9 rfl rfl rfl (fun a w v L1 S1 hR hb1 h => ?_)
          obtain ⟨rfl, rfl, _⟩ := hR
          refine s_x h rfl rfl (by decide) (x_not h.k rfl rfl) (fun a h => ?_)
          refine l_end ?_
          refine c_cond h rfl (fun hb => ?_) (fun hb => ?_)
          · rw [if_pos hb] at hf
            refine c_rs ?_ -- region 16
            refine s_move h rfl _ rfl rfl (by decide) rfl (fun a h => ?_)
            refine s_x h rfl rfl (by decide) (x_bin h.k rfl rfl rfl ib_eql) (fun a h => ?_)
            refine s_move h rfl _ rfl rfl (by decide) rfl (fun a h => ?_)
            refine q_grp h 4 (t := 143) 147 ((decide (x101.2 = 30)) && (decide ((x101.1.length : Int) = 0))) rfl (fun hB2 => ?_) (fun hB2 => ?_) (fun a w h => ?_)
            · refine g_yes h rfl rfl rfl rfl hB2 ?_
              refine s_move h rfl _ rfl rfl (by decide) rfl (fun a h => ?_)
              refine g_yes h rfl rfl rfl rfl hB2 ?_
              have hr115 : r64 (x101.1.length : Int) := len_r (h.m.rowLen (i := 0) rfl)
              refine s_x h rfl rfl (by decide) (x_len h.k rfl Try.underlying22 rfl) (fun a h => ?_)
              refine g_yes h rfl rfl rfl rfl hB2 ?_
              refine s_x h rfl rfl (by decide) (x_bin h.k rfl rfl rfl ib_eql) (fun a h => ?_)
              refine s_x h rfl rfl (by decide) (x_pick (u' := undef) h.k rfl rfl (fun _ => rfl) (fun hh => absurd (hB2.symm.trans hh) (by decide))) (fun a h => ?_)
              exact (h.mid 3 rfl).val (by first | rfl | (rw [hB2]; first | rfl | simp))
            · refine g_no h rfl rfl rfl rfl hB2 rfl (by decide) (fun a h => ?_)
              refine g_no h rfl rfl rfl rfl hB2 rfl (by decide) (fun a h => ?_)
              refine g_no h rfl rfl rfl rfl hB2 rfl (by decide) (fun a h => ?_)
              refine s_x h rfl rfl (by decide) (x_pick (u' := undef) h.k rfl rfl (fun hh => absurd (hB2.symm.trans hh) (by decide)) (fun _ => rfl)) (fun a h => ?_)
              exact (h.mid 3 rfl).val (by first | rfl | (rw [hB2]; first | rfl | simp))
            refine s_assign h rfl _ rfl rfl (by decide) rfl (fun a h => ?_)
            refine l_end ?_
            refine wp_ret ?_
            refine e_thenR ?_
            obtain rfl := Option.some.inj hf
            exact r_ret1 h rfl (rv_tmp h rfl) ⟨_, [], _, rfl, ⟨rfl, rfl, trivial⟩, rfl, up79, (h.m.pick [1] _ (by decide) rfl)⟩
          · rw [if_neg (by rw [hb]; decide)] at hf
            refine wp_skip ?_
            refine e_thenN ?_
            refine c_rs ?_ -- region 17
            refine s_move h rfl _ rfl rfl (by decide) rfl (fun a h => ?_)
            refine s_x h rfl rfl (by decide) (x_faddr h.k rfl Try.underlying33 rfl sz_A32_uint8 rfl) (fun a h => ?_)
            refine s_x h rfl rfl (by decide) (x_ldR h.k rfl ag_A32_uint8 rfl k6 (((hs8.mono (((le49.trans le57).trans le72).trans le80))).len.trans (by rw [hl9]; rfl)) (h.m.rangeMid (i := 3) (off := 1) (X := [.slice A3 a0.1.length c4]) (Y := k6) (Z := ([.int .i64 a0.2.2.1] : List Value) ++ ([.slice A13 a0.2.2.2.length c14])) rfl (by simp only [List.append_assoc, List.cons_append, List.nil_append, List.append_nil]) rfl)) (fun a h => ?_)
            refine s_x h rfl rfl (by decide) (x_faddr h.k rfl Try.underlying33 rfl sz_int rfl) (fun a h => ?_)
            refine s_x h rfl rfl (by decide) (x_ld h.k rfl Try.underlying3 rfl rfl ((h.m.cell (i := 3) rfl 33).trans (cell_oneE (X := ([.slice A3 a0.1.length c4] : List Value) ++ (k6)) (Z := [.slice A13 a0.2.2.2.length c14]) (off := 33) (u := .int .i64 a0.2.2.1) (by simp only [List.append_assoc, List.cons_append, List.nil_append, List.append_nil]) (show (([.slice A3 a0.1.length c4] : List Value) ++ (k6) : List Value).length = 33 from by simp only [List.length_append, List.length_cons, List.length_nil, (show (k6 : List Value).length = 32 from (((hs8.mono (((le49.trans le57).trans le72).trans le80))).len.trans (by rw [hl9]; rfl)))])))) (fun a h => ?_)
            refine s_move h rfl _ rfl rfl (by decide) rfl (fun a h => ?_)
            obtain ⟨S116, le117, up118, hs119, h⟩ := q_freeze (T := ty8) h up79 hq109
            obtain ⟨x120, h121, hf⟩ := bsome hf
            have hX := cred_Open_ok Fu (S0 := S116) Aa2 ca2 a2 (hsa2.mono ((((le49.trans le57).trans le72).trans le80).trans le117)) k6 a0.2.1 (⟨(hs8.mono ((((le49.trans le57).trans le72).trans le80).trans le117)), hl9⟩) a0.2.2.1 hr12 A104 c105 x101.1 hs119 _ h121 _ (h.sub (Ls := []))
            refine q_callY (Ls := []) hX h up118 rfl rfl rfl (by decide) Try.func15 rfl rfl rfl (fun a w v L1 S123 hR le125 up124 h => ?_)
            obtain ⟨A126, c127, rfl, rfl, hs128, hr129, _⟩ := hR
            refine s_move h rfl _ rfl rfl (by decide) rfl (fun a h => ?_)
            refine s_x h rfl rfl (by decide) (x_ext h.k rfl rfl rfl) (fun a h => ?_)
            refine s_x h rfl rfl (by decide) (x_ext h.k rfl rfl rfl) (fun a h => ?_)
            refine s_assign h rfl _ rfl rfl (by decide) rfl (fun a h => ?_)
            refine s_assign h rfl _ rfl rfl (by decide) rfl (fun a h => ?_)
            refine l_end ?_
            refine c_rs ?_ -- region 18
            refine s_move h rfl _ rfl rfl (by decide) rfl (fun a h => ?_)
            refine s_x h rfl rfl (by decide) (x_faddr h.k rfl Try.underlying33 rfl sz_A32_uint8 rfl) (fun a h => ?_)
            refine s_x h rfl rfl (by decide) (x_ldR h.k rfl ag_A32_uint8 rfl k6 (((hs8.mono (((((le49.trans le57).trans le72).trans le80).trans le117).trans le125))).len.trans (by rw [hl9]; rfl)) (h.m.rangeMid (i := 2) (off := 1) (X := [.slice A3 a0.1.length c4]) (Y := k6) (Z := ([.int .i64 a0.2.2.1] : List Value) ++ ([.slice A13 a0.2.2.2.length c14])) rfl (by simp only [List.append_assoc, List.cons_append, List.nil_append, List.append_nil]) rfl)) (fun a h => ?_)
            refine s_x h rfl rfl (by decide) (x_faddr h.k rfl Try.underlying33 rfl sz_int rfl) (fun a h => ?_)
            refine s_x h rfl rfl (by decide) (x_ld h.k rfl Try.underlying3 rfl rfl ((h.m.cell (i := 2) rfl 33).trans (cell_oneE (X := ([.slice A3 a0.1.length c4] : List Value) ++ (k6)) (Z := [.slice A13 a0.2.2.2.length c14]) (off := 33) (u := .int .i64 a0.2.2.1) (by simp only [List.append_assoc, List.cons_append, List.nil_append, List.append_nil]) (show (([.slice A3 a0.1.length c4] : List Value) ++ (k6) : List Value).length = 33 from by simp only [List.length_append, List.length_cons, List.length_nil, (show (k6 : List Value).length = 32 from (((hs8.mono (((((le49.trans le57).trans le72).trans le80).trans le117).trans le125))).len.trans (by rw [hl9]; rfl)))])))) (fun a h => ?_)
            refine s_x h rfl rfl (by decide) (x_faddr h.k rfl Try.underlying33 rfl sz_Suint8 rfl) (fun a h => ?_)
            refine s_x h rfl rfl (by decide) (x_ld h.k rfl Try.underlying22 rfl rfl ((h.m.cell (i := 2) rfl 34).trans (cell_oneE (X := ([.slice A3 a0.1.length c4] : List Value) ++ (k6 ++ ([.int .i64 a0.2.2.1]))) (Z := []) (off := 34) (u := .slice A13 a0.2.2.2.length c14) (by simp only [List.append_assoc, List.cons_append, List.nil_append, List.append_nil]) (show (([.slice A3 a0.1.length c4] : List Value) ++ (k6 ++ ([.int .i64 a0.2.2.1])) : List Value).length = 34 from by simp only [List.length_append, List.length_cons, List.length_nil, (show (k6 : List Value).length = 32 from (((hs8.mono (((((le49.trans le57).trans le72).trans le80).trans le117).trans le125))).len.trans (by rw [hl9]; rfl)))])))) (fun a h => ?_)
            obtain ⟨x130, h131, hf⟩ := bsome hf
            have hX := cred_Seal_ok Fu (S0 := snapAll _) Aa2 ca2 a2 ((hsa2.mono (((((le49.trans le57).trans le72).trans le80).trans le117).trans le125)).mono (h.m.leAll (i := 0) rfl)) k6 a0.2.1 ((tyA 32 ty8).mono (h.m.leAll (i := 0) rfl) (show (tyA 32 ty8).rep S123 k6 a0.2.1 from ⟨(hs8.mono (((((le49.trans le57).trans le72).trans le80).trans le117).trans le125)), hl9⟩)) a0.2.2.1 hr12 A13 c14 a0.2.2.2 ((hs15.mono (((((le49.trans le57).trans le72).trans le80).trans le117).trans le125)).mono (h.m.leAll (i := 0) rfl)) _ h131 _ h.startAll
            refine q_callX hX h rfl rfl rfl (by decide) Try.func13 rfl rfl rfl (fun a w v L1 S1 hR hb1 h => ?_)
            obtain ⟨A133, c134, cs135, rfl, rfl, hq136, hr137, _⟩ := hR
            have hq138 := hq136.fl (S' := S123) fl_8
            refine s_move h rfl _ rfl rfl (by decide) rfl (fun a h => ?_)
            refine s_x h rfl rfl (by decide) (x_ext h.k rfl rfl rfl) (fun a h => ?_)
            refine s_x h rfl rfl (by decide) (x_ext h.k rfl rfl rfl) (fun a h => ?_)
            refine s_assign h rfl _ rfl rfl (by decide) rfl (fun a h => ?_)
            refine s_assign h rfl _ rfl rfl (by decide) rfl (fun a h => ?_)
            refine l_end ?_
            refine c_rs ?_ -- region 19
            refine s_move h rfl _ rfl rfl (by decide) rfl (fun a h => ?_)
            refine s_x h rfl rfl (by decide) (x_bin h.k rfl rfl rfl ib_eql) (fun a h => ?_)
            refine s_move h rfl _ rfl rfl (by decide) rfl (fun a h => ?_)
            refine q_grp h 3 (t := 171) 174 ((decide (x101.2 = 0)) && (decide (x120.2 = 0))) rfl (fun hB2 => ?_) (fun hB2 => ?_) (fun a w h => ?_)
            · refine g_yes h rfl rfl rfl rfl hB2 ?_
              refine s_move h rfl _ rfl rfl (by decide) rfl (fun a h => ?_)
              refine g_yes h rfl rfl rfl rfl hB2 ?_
              refine s_x h rfl rfl (by decide) (x_bin h.k rfl rfl rfl ib_eql) (fun a h => ?_)
              refine s_x h rfl rfl (by decide) (x_pick (u' := undef) h.k rfl rfl (fun _ => rfl) (fun hh => absurd (hB2.symm.trans hh) (by decide))) (fun a h => ?_)
              exact (h.mid 2 rfl).val (by first | rfl | (rw [hB2]; first | rfl | simp))
            · refine g_no h rfl rfl rfl rfl hB2 rfl (by decide) (fun a h => ?_)
              refine g_no h rfl rfl rfl rfl hB2 rfl (by decide) (fun a h => ?_)
              refine s_x h rfl rfl (by decide) (x_pick (u' := undef) h.k rfl rfl (fun hh => absurd (hB2.symm.trans hh) (by decide)) (fun _ => rfl)) (fun a h => ?_)
              exact (h.mid 2 rfl).val (by first | rfl | (rw [hB2]; first | rfl | simp))
            refine s_move h rfl _ rfl rfl (by decide) rfl (fun a h => ?_)
            obtain ⟨z142, hz141, hf⟩ := bsome hf
            refine q_grp h 5 (t := 175) 180 z142 rfl (fun hB6 => ?_) (fun hB6 => ?_) (fun a w h => ?_)
            · rw [if_pos hB6] at hz141
              refine g_yes h rfl rfl rfl rfl hB6 ?_
              refine s_move h rfl _ rfl rfl (by decide) rfl (fun a h => ?_)
              refine g_yes h rfl rfl rfl rfl hB6 ?_
              refine s_x h rfl rfl (by decide) (x_faddr h.k rfl Try.underlying33 rfl sz_Suint8 rfl) (fun a h => ?_)
              refine g_yes h rfl rfl rfl rfl hB6 ?_
              refine s_x h rfl rfl (by decide) (x_ld h.k rfl Try.underlying22 rfl rfl ((h.m.cell (i := 3) rfl 34).trans (cell_oneE (X := ([.slice A3 a0.1.length c4] : List Value) ++ (k6 ++ ([.int .i64 a0.2.2.1]))) (Z := []) (off := 34) (u := .slice A13 a0.2.2.2.length c14) (by simp only [List.append_assoc, List.cons_append, List.nil_append, List.append_nil]) (show (([.slice A3 a0.1.length c4] : List Value) ++ (k6 ++ ([.int .i64 a0.2.2.1])) : List Value).length = 34 from by simp only [List.length_append, List.length_cons, List.length_nil, (show (k6 : List Value).length = 32 from (((hs8.mono (((((le49.trans le57).trans le72).trans le80).trans le117).trans le125))).len.trans (by rw [hl9]; rfl)))])))) (fun a h => ?_)
              refine g_yes h rfl rfl rfl rfl hB6 ?_
              obtain ⟨x144, h145, hz141⟩ := bsome hz141
              have hX := chatelaineref01_Same_ok Fu (S0 := snapAll _) A126 c127 x120.1 (hs128.mono (h.m.leAll (i := 1) rfl)) A13 c14 a0.2.2.2 ((hs15.mono (((((le49.trans le57).trans le72).trans le80).trans le117).trans le125)).mono (h.m.leAll (i := 1) rfl)) _ h145 _ h.startAll
              refine q_callX hX h rfl rfl rfl (by decide) Try.func12 rfl rfl rfl (fun a w v L1 S1 hR hb1 h => ?_)
              obtain ⟨rfl, rfl, _⟩ := hR
              refine s_x h rfl rfl (by decide) (x_pick (u' := undef) h.k rfl rfl (fun _ => rfl) (fun hh => absurd (hB6.symm.trans hh) (by decide))) (fun a h => ?_)
              exact (h.mid 4 rfl).val (by rw [Option.some.inj hz141])
            · refine g_no h rfl rfl rfl rfl hB6 rfl (by decide) (fun a h => ?_)
              refine g_no h rfl rfl rfl rfl hB6 rfl (by decide) (fun a h => ?_)
              refine g_no h rfl rfl rfl rfl hB6 rfl (by decide) (fun a h => ?_)
              refine g_no h rfl rfl rfl rfl hB6 rfl (by decide) (fun a h => ?_)
              rw [if_neg (by rw [hB6]; decide)] at hz141
              refine s_x h rfl rfl (by decide) (x_pick (u' := undef) h.k rfl rfl (fun hh => absurd (hB6.symm.trans hh) (by decide)) (fun _ => rfl)) (fun a h => ?_)
              exact (h.mid 4 rfl).val (by rw [Option.some.inj hz141])
            refine s_move h rfl _ rfl rfl (by decide) rfl (fun a h => ?_)
            obtain ⟨z148, hz147, hf⟩ := bsome hf
            refine q_grp h 4 (t := 181) 185 z148 rfl (fun hB12 => ?_) (fun hB12 => ?_) (fun a w h => ?_)
            · rw [if_pos hB12] at hz147
              refine g_yes h rfl rfl rfl rfl hB12 ?_
              refine s_move h rfl _ rfl rfl (by decide) rfl (fun a h => ?_)
              refine g_yes h rfl rfl rfl rfl hB12 ?_
              refine s_move h rfl _ rfl rfl (by decide) rfl (fun a h => ?_)
              refine g_yes h rfl rfl rfl rfl hB12 ?_
              obtain ⟨x150, h151, hz147⟩ := bsome hz147
              have hX := chatelaineref01_Same_ok Fu (S0 := snapAll _) A133 c134 x130.1 (h.m.rowAll (i := 0) rfl (j := 1) rfl hq138) A104 c105 x101.1 ((hs119.mono le125).mono (h.m.leAll (i := 1) rfl)) _ h151 _ h.startAll
              refine q_callX hX h rfl rfl rfl (by decide) Try.func12 rfl rfl rfl (fun a w v L1 S1 hR hb1 h => ?_)
              obtain ⟨rfl, rfl, _⟩ := hR
              refine s_x h rfl rfl (by decide) (x_pick (u' := undef) h.k rfl rfl (fun _ => rfl) (fun hh => absurd (hB12.symm.trans hh) (by decide))) (fun a h => ?_)
              exact (h.mid 3 rfl).val (by rw [Option.some.inj hz147])
            · refine g_no h rfl rfl rfl rfl hB12 rfl (by decide) (fun a h => ?_)
              refine g_no h rfl rfl rfl rfl hB12 rfl (by decide) (fun a h => ?_)
              refine g_no h rfl rfl rfl rfl hB12 rfl (by decide) (fun a h => ?_)
              rw [if_neg (by rw [hB12]; decide)] at hz147
              refine s_x h rfl rfl (by decide) (x_pick (u' := undef) h.k rfl rfl (fun hh => absurd (hB12.symm.trans hh) (by decide)) (fun _ => rfl)) (fun a h => ?_)
              exact (h.mid 3 rfl).val (by rw [Option.some.inj hz147])
            refine s_assign h rfl _ rfl rfl (by decide) rfl (fun a h => ?_)
            refine l_end ?_
            refine wp_ret ?_
            rw [← Option.some.inj hf]
            exact r_ret1 h rfl (rv_tmp h rfl) ⟨_, [], _, rfl, ⟨rfl, rfl, trivial⟩, rfl, up124, (h.m.pick [1] _ (by decide) rfl)⟩
end Go.Proofs.Ythaoiajbgadcjaa
