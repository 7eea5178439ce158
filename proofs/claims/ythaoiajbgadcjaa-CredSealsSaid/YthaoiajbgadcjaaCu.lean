/- Cu: Go functions as plain functions, and that they are so (written by xt.py). -/
import Derived.Test.YthaoiajbgadcjaaE22A
set_option linter.unusedVariables false
set_option linter.unusedSimpArgs false
namespace Go.Proofs.Ythaoiajbgadcjaa
open Go.RowKit
def chatelainelaw22_CredSeals (Fu : Nat) (a0 : (List UInt8) × (List UInt8) × Int × (List UInt8)) (a1 : List UInt8) : Option Bool :=
  (chatelainelaw22_awake Fu).bind fun x17 => if (!x17) = true then (some false) else (if (((decide (100 < (a0.1.length : Int))) || (decide (100 < (a0.2.2.2.length : Int)))) || (decide (100 < (a1.length : Int)))) = true then (some true) else ((cred_Seal Fu a0.1 a0.2.1 a0.2.2.1 a0.2.2.2).bind fun x24 => (chatelaineref22_Seal Fu a0.1 a0.2.1 a0.2.2.1 a0.2.2.2).bind fun x33 => (chatelaineref01_Same Fu x24.1 x33.1).bind fun x42 => if ((!x42) || (decide (x24.2 ≠ x33.2))) = true then (some false) else ((cred_Open Fu a0.1 a0.2.1 a0.2.2.1 a1).bind fun x47 => (chatelaineref22_Right Fu a0.1).bind fun x57 => if (!x57) = true then (some ((decide (x47.2 = 30)) && (decide ((x47.1.length : Int) = 0)))) else (if (((decide (a0.2.2.1 < 0)) || (decide (64 < a0.2.2.1))) || (decide ((a1.length : Int) ≠ 48))) = true then (some ((decide (x47.2 = 2)) && (decide ((x47.1.length : Int) = 0)))) else (if x47.2 = 21 then (some (decide ((x47.1.length : Int) = 0))) else ((chatelaineref22_Seal Fu a0.1 a0.2.1 a0.2.2.1 x47.1).bind fun x68 => (if ((decide (x47.2 = 0)) && (decide (x68.2 = 0))) = true then (chatelaineref01_Same Fu x68.1 a1).bind fun x82 => some x82 else some false).bind fun z80 => some z80))))))
set_option maxRecDepth 100000 in
set_option maxHeartbeats 2000000 in
theorem chatelainelaw22_CredSeals_ok (Fu : Nat) {S0 : Snap} (csa0 : List Value) (a0 : (List UInt8) × (List UInt8) × Int × (List UInt8)) (hsa0 : (tyP (tyL ty8) (tyP (tyA 32 ty8) (tyP tyI (tyL ty8)))).rep S0 csa0 a0) (Aa1 : Option Addr) (ca1 : Nat) (a1 : List UInt8) (hsa1 : slS ty8 S0 Aa1 ca1 a1) (r : Bool) (hf : chatelainelaw22_CredSeals Fu a0 a1 = some r) (w0 : World) (hm : Mem w0 (ownL ([] ++ [.sn S0])) ([] ++ [.sn S0]) w0) :
    Calls Try.prog 4 #[.agg csa0.toArray, .slice Aa1 a1.length ca1] w0 (Ret w0 S0 [] (fun v L1 S1 => v = .bool r ∧ L1 = [] ∧ True)) := by
  unfold chatelainelaw22_CredSeals at hf
  obtain ⟨k1, k2, rfl, ⟨A3, c4, rfl, hs5⟩, ⟨k6, k7, rfl, ⟨hs8, hl9⟩, ⟨k10, k11, rfl, ⟨rfl, hr12⟩, ⟨A13, c14, rfl, hs15⟩⟩⟩⟩ := hsa0
  refine c_enterM Try.func4 rfl 135 rfl (by simp) _ hm _ rfl (fun a h => ?_)
  refine c_rs ?_
  refine s_box h rfl rfl rfl (by decide) rfl (cs := ([.slice A3 a0.1.length c4] : List Value) ++ (k6 ++ ([.int .i64 a0.2.2.1, .slice A13 a0.2.2.2.length c14]))) (by rfl) (fun a w g16 h => ?_)
  refine sAV h (fun a h => ?_)
  refine l_end ?_
  refine wp_seq ?_
  refine c_rs ?_
  obtain ⟨x17, h18, hf⟩ := bsome hf
  have hX := chatelainelaw22_awake_ok Fu (S0 := snapAll _)  _ h18 _ h.startAll
  refine q_callX hX h rfl rfl rfl (by decide) Try.func6 rfl rfl rfl (fun a w v L1 S1 hR hb1 h => ?_)
  obtain ⟨rfl, rfl, _⟩ := hR
  refine s_x h rfl rfl (by decide) (x_not h.k rfl rfl) (fun a h => ?_)
  refine l_end ?_
  refine c_cond h rfl (fun hb => ?_) (fun hb => ?_)
  · rw [if_pos hb] at hf
    refine c_rs ?_
    refine sAV h (fun a h => ?_)
    refine l_end ?_
    refine wp_ret ?_
    refine e_thenR ?_
    rw [← Option.some.inj hf]
    exact r_ret1 h rfl (rv_tmp h rfl) ⟨_, [], _, rfl, ⟨rfl, rfl, trivial⟩, rfl, (Up.refl _ _ _), (h.m.pick [1] _ (by decide) rfl)⟩
  · rw [if_neg (by rw [hb]; decide)] at hf
    refine wp_skip ?_
    refine e_thenN ?_
    refine wp_seq ?_
    refine c_rs ?_
    refine s_x h rfl rfl (by decide) (x_faddr h.k rfl Try.underlying33 rfl sz_Suint8 rfl) (fun a h => ?_)
    refine s_x h rfl rfl (by decide) (x_ld h.k rfl Try.underlying22 rfl rfl ((h.m.cell (i := 0) rfl 0).trans (cell_oneE (X := []) (Z := k6 ++ (([.int .i64 a0.2.2.1] : List Value) ++ ([.slice A13 a0.2.2.2.length c14]))) (off := 0) (u := .slice A3 a0.1.length c4) (by simp only [List.append_assoc, List.cons_append, List.nil_append, List.append_nil]) rfl))) (fun a h => ?_)
    refine s_x h rfl rfl (by decide) (x_len h.k rfl Try.underlying22 rfl) (fun a h => ?_)
    refine s_x h rfl rfl (by decide) (x_bin h.k rfl rfl rfl ib_gtr) (fun a h => ?_)
    refine sMV h (fun a h => ?_)
    refine q_grp h 5 (t := 19) 24 ((decide (100 < (a0.1.length : Int))) || (decide (100 < (a0.2.2.2.length : Int)))) rfl (fun hB4 => ?_) (fun hB4 => ?_) (fun a w h => ?_)
    · refine g_no h rfl rfl rfl rfl hB4 rfl (by decide) (fun a h => ?_)
      refine g_no h rfl rfl rfl rfl hB4 rfl (by decide) (fun a h => ?_)
      refine g_no h rfl rfl rfl rfl hB4 rfl (by decide) (fun a h => ?_)
      refine g_no h rfl rfl rfl rfl hB4 rfl (by decide) (fun a h => ?_)
      refine s_x h rfl rfl (by decide) (x_pick (u' := undef) h.k rfl rfl (fun _ => rfl) (fun hh => absurd (hB4.symm.trans hh) (by decide))) (fun a h => ?_)
      exact (h.mid 4 rfl).val (by first | rfl | (rw [hB4]; first | rfl | simp))
    · refine g_yes h rfl rfl rfl rfl hB4 ?_
      refine s_x h rfl rfl (by decide) (x_faddr h.k rfl Try.underlying33 rfl sz_Suint8 rfl) (fun a h => ?_)
      refine g_yes h rfl rfl rfl rfl hB4 ?_
      refine s_x h rfl rfl (by decide) (x_ld h.k rfl Try.underlying22 rfl rfl ((h.m.cell (i := 0) rfl 34).trans (cell_oneE (X := ([.slice A3 a0.1.length c4] : List Value) ++ (k6 ++ ([.int .i64 a0.2.2.1]))) (Z := []) (off := 34) (u := .slice A13 a0.2.2.2.length c14) (by simp only [List.append_assoc, List.cons_append, List.nil_append, List.append_nil]) (show (([.slice A3 a0.1.length c4] : List Value) ++ (k6 ++ ([.int .i64 a0.2.2.1])) : List Value).length = 34 from by simp only [List.length_append, List.length_cons, List.length_nil, (show (k6 : List Value).length = 32 from ((hs8).len.trans (by rw [hl9]; rfl)))])))) (fun a h => ?_)
      refine g_yes h rfl rfl rfl rfl hB4 ?_
      refine s_x h rfl rfl (by decide) (x_len h.k rfl Try.underlying22 rfl) (fun a h => ?_)
      refine g_yes h rfl rfl rfl rfl hB4 ?_
      refine s_x h rfl rfl (by decide) (x_bin h.k rfl rfl rfl ib_gtr) (fun a h => ?_)
      refine s_x h rfl rfl (by decide) (x_pick (u' := undef) h.k rfl rfl (fun hh => absurd (hB4.symm.trans hh) (by decide)) (fun _ => rfl)) (fun a h => ?_)
      exact (h.mid 4 rfl).val (by first | rfl | (rw [hB4]; first | rfl | simp))
    refine sMV h (fun a h => ?_)
    refine q_grp h 4 (t := 25) 29 (((decide (100 < (a0.1.length : Int))) || (decide (100 < (a0.2.2.2.length : Int)))) || (decide (100 < (a1.length : Int)))) rfl (fun hB10 => ?_) (fun hB10 => ?_) (fun a w h => ?_)
    · refine g_no h rfl rfl rfl rfl hB10 rfl (by decide) (fun a h => ?_)
      refine g_no h rfl rfl rfl rfl hB10 rfl (by decide) (fun a h => ?_)
      refine g_no h rfl rfl rfl rfl hB10 rfl (by decide) (fun a h => ?_)
      refine s_x h rfl rfl (by decide) (x_pick (u' := undef) h.k rfl rfl (fun _ => rfl) (fun hh => absurd (hB10.symm.trans hh) (by decide))) (fun a h => ?_)
      exact (h.mid 3 rfl).val (by first | rfl | (rw [hB10]; first | rfl | simp))
    · refine g_yes h rfl rfl rfl rfl hB10 ?_
      refine sMV h (fun a h => ?_)
      refine g_yes h rfl rfl rfl rfl hB10 ?_
      refine s_x h rfl rfl (by decide) (x_len h.k rfl Try.underlying22 rfl) (fun a h => ?_)
      refine g_yes h rfl rfl rfl rfl hB10 ?_
      refine s_x h rfl rfl (by decide) (x_bin h.k rfl rfl rfl ib_gtr) (fun a h => ?_)
      refine s_x h rfl rfl (by decide) (x_pick (u' := undef) h.k rfl rfl (fun hh => absurd (hB10.symm.trans hh) (by decide)) (fun _ => rfl)) (fun a h => ?_)
      exact (h.mid 3 rfl).val (by first | rfl | (rw [hB10]; first | rfl | simp))
    refine l_end ?_
    refine c_cond h rfl (fun hb => ?_) (fun hb => ?_)
    · rw [if_pos hb] at hf
      refine c_rs ?_
      refine sAV h (fun a h => ?_)
      refine l_end ?_
      refine wp_ret ?_
      refine e_thenR ?_
      rw [← Option.some.inj hf]
      exact r_ret1 h rfl (rv_tmp h rfl) ⟨_, [], _, rfl, ⟨rfl, rfl, trivial⟩, rfl, (Up.refl _ _ _), (h.m.pick [1] _ (by decide) rfl)⟩
    · rw [if_neg (by rw [hb]; decide)] at hf
      refine wp_skip ?_
      refine e_thenN ?_
      refine c_rs ?_
      refine s_x h rfl rfl (by decide) (x_faddr h.k rfl Try.underlying33 rfl sz_Suint8 rfl) (fun a h => ?_)
      refine s_x h rfl rfl (by decide) (x_ld h.k rfl Try.underlying22 rfl rfl ((h.m.cell (i := 0) rfl 0).trans (cell_oneE (X := []) (Z := k6 ++ (([.int .i64 a0.2.2.1] : List Value) ++ ([.slice A13 a0.2.2.2.length c14]))) (off := 0) (u := .slice A3 a0.1.length c4) (by simp only [List.append_assoc, List.cons_append, List.nil_append, List.append_nil]) rfl))) (fun a h => ?_)
      refine s_x h rfl rfl (by decide) (x_faddr h.k rfl Try.underlying33 rfl sz_A32_uint8 rfl) (fun a h => ?_)
      refine s_x h rfl rfl (by decide) (x_ldR h.k rfl ag_A32_uint8 rfl k6 ((hs8).len.trans (by rw [hl9]; rfl)) (h.m.rangeMid (i := 0) (off := 1) (X := [.slice A3 a0.1.length c4]) (Y := k6) (Z := ([.int .i64 a0.2.2.1] : List Value) ++ ([.slice A13 a0.2.2.2.length c14])) rfl (by simp only [List.append_assoc, List.cons_append, List.nil_append, List.append_nil]) rfl)) (fun a h => ?_)
      refine s_x h rfl rfl (by decide) (x_faddr h.k rfl Try.underlying33 rfl sz_int rfl) (fun a h => ?_)
      refine s_x h rfl rfl (by decide) (x_ld h.k rfl Try.underlying3 rfl rfl ((h.m.cell (i := 0) rfl 33).trans (cell_oneE (X := ([.slice A3 a0.1.length c4] : List Value) ++ (k6)) (Z := [.slice A13 a0.2.2.2.length c14]) (off := 33) (u := .int .i64 a0.2.2.1) (by simp only [List.append_assoc, List.cons_append, List.nil_append, List.append_nil]) (show (([.slice A3 a0.1.length c4] : List Value) ++ (k6) : List Value).length = 33 from by simp only [List.length_append, List.length_cons, List.length_nil, (show (k6 : List Value).length = 32 from ((hs8).len.trans (by rw [hl9]; rfl)))])))) (fun a h => ?_)
      refine s_x h rfl rfl (by decide) (x_faddr h.k rfl Try.underlying33 rfl sz_Suint8 rfl) (fun a h => ?_)
      refine s_x h rfl rfl (by decide) (x_ld h.k rfl Try.underlying22 rfl rfl ((h.m.cell (i := 0) rfl 34).trans (cell_oneE (X := ([.slice A3 a0.1.length c4] : List Value) ++ (k6 ++ ([.int .i64 a0.2.2.1]))) (Z := []) (off := 34) (u := .slice A13 a0.2.2.2.length c14) (by simp only [List.append_assoc, List.cons_append, List.nil_append, List.append_nil]) (show (([.slice A3 a0.1.length c4] : List Value) ++ (k6 ++ ([.int .i64 a0.2.2.1])) : List Value).length = 34 from by simp only [List.length_append, List.length_cons, List.length_nil, (show (k6 : List Value).length = 32 from ((hs8).len.trans (by rw [hl9]; rfl)))])))) (fun a h => ?_)
      obtain ⟨x24, h25, hf⟩ := bsome hf
      have hX := cred_Seal_ok Fu (S0 := snapAll _) A3 c4 a0.1 (hs5.mono (h.m.leAll (i := 1) rfl)) k6 a0.2.1 ((tyA 32 ty8).mono (h.m.leAll (i := 1) rfl) (show (tyA 32 ty8).rep S0 k6 a0.2.1 from ⟨hs8, hl9⟩)) a0.2.2.1 hr12 A13 c14 a0.2.2.2 (hs15.mono (h.m.leAll (i := 1) rfl)) _ h25 _ h.startAll
      refine q_callX hX h rfl rfl rfl (by decide) Try.func13 rfl rfl rfl (fun a w v L1 S1 hR hb1 h => ?_)
      obtain ⟨A27, c28, cs29, rfl, rfl, hq30, hr31, _⟩ := hR
      have hq32 := hq30.fl (S' := S0) fl_8
      refine sMV h (fun a h => ?_)
      refine s_x h rfl rfl (by decide) (x_ext h.k rfl rfl rfl) (fun a h => ?_)
      refine s_x h rfl rfl (by decide) (x_ext h.k rfl rfl rfl) (fun a h => ?_)
      refine sAV h (fun a h => ?_)
      refine sAV h (fun a h => ?_)
      refine l_end ?_
      refine c_rs ?_
      refine s_x h rfl rfl (by decide) (x_faddr h.k rfl Try.underlying33 rfl sz_Suint8 rfl) (fun a h => ?_)
      refine s_x h rfl rfl (by decide) (x_ld h.k rfl Try.underlying22 rfl rfl ((h.m.cell (i := 1) rfl 0).trans (cell_oneE (X := []) (Z := k6 ++ (([.int .i64 a0.2.2.1] : List Value) ++ ([.slice A13 a0.2.2.2.length c14]))) (off := 0) (u := .slice A3 a0.1.length c4) (by simp only [List.append_assoc, List.cons_append, List.nil_append, List.append_nil]) rfl))) (fun a h => ?_)
      refine s_x h rfl rfl (by decide) (x_faddr h.k rfl Try.underlying33 rfl sz_A32_uint8 rfl) (fun a h => ?_)
      refine s_x h rfl rfl (by decide) (x_ldR h.k rfl ag_A32_uint8 rfl k6 ((hs8).len.trans (by rw [hl9]; rfl)) (h.m.rangeMid (i := 1) (off := 1) (X := [.slice A3 a0.1.length c4]) (Y := k6) (Z := ([.int .i64 a0.2.2.1] : List Value) ++ ([.slice A13 a0.2.2.2.length c14])) rfl (by simp only [List.append_assoc, List.cons_append, List.nil_append, List.append_nil]) rfl)) (fun a h => ?_)
      refine s_x h rfl rfl (by decide) (x_faddr h.k rfl Try.underlying33 rfl sz_int rfl) (fun a h => ?_)
      refine s_x h rfl rfl (by decide) (x_ld h.k rfl Try.underlying3 rfl rfl ((h.m.cell (i := 1) rfl 33).trans (cell_oneE (X := ([.slice A3 a0.1.length c4] : List Value) ++ (k6)) (Z := [.slice A13 a0.2.2.2.length c14]) (off := 33) (u := .int .i64 a0.2.2.1) (by simp only [List.append_assoc, List.cons_append, List.nil_append, List.append_nil]) (show (([.slice A3 a0.1.length c4] : List Value) ++ (k6) : List Value).length = 33 from by simp only [List.length_append, List.length_cons, List.length_nil, (show (k6 : List Value).length = 32 from ((hs8).len.trans (by rw [hl9]; rfl)))])))) (fun a h => ?_)
      refine s_x h rfl rfl (by decide) (x_faddr h.k rfl Try.underlying33 rfl sz_Suint8 rfl) (fun a h => ?_)
      refine s_x h rfl rfl (by decide) (x_ld h.k rfl Try.underlying22 rfl rfl ((h.m.cell (i := 1) rfl 34).trans (cell_oneE (X := ([.slice A3 a0.1.length c4] : List Value) ++ (k6 ++ ([.int .i64 a0.2.2.1]))) (Z := []) (off := 34) (u := .slice A13 a0.2.2.2.length c14) (by simp only [List.append_assoc, List.cons_append, List.nil_append, List.append_nil]) (show (([.slice A3 a0.1.length c4] : List Value) ++ (k6 ++ ([.int .i64 a0.2.2.1])) : List Value).length = 34 from by simp only [List.length_append, List.length_cons, List.length_nil, (show (k6 : List Value).length = 32 from ((hs8).len.trans (by rw [hl9]; rfl)))])))) (fun a h => ?_)
      obtain ⟨x33, h34, hf⟩ := bsome hf
      have hX := chatelaineref22_Seal_ok Fu (S0 := snapAll _) A3 c4 a0.1 (hs5.mono (h.m.leAll (i := 2) rfl)) k6 a0.2.1 ((tyA 32 ty8).mono (h.m.leAll (i := 2) rfl) (show (tyA 32 ty8).rep S0 k6 a0.2.1 from ⟨hs8, hl9⟩)) a0.2.2.1 hr12 A13 c14 a0.2.2.2 (hs15.mono (h.m.leAll (i := 2) rfl)) _ h34 _ h.startAll
      refine q_callX hX h rfl rfl rfl (by decide) Try.func14 rfl rfl rfl (fun a w v L1 S1 hR hb1 h => ?_)
      obtain ⟨A36, c37, cs38, rfl, rfl, hq39, hr40, _⟩ := hR
      have hq41 := hq39.fl (S' := S0) fl_8
      refine sMV h (fun a h => ?_)
      refine s_x h rfl rfl (by decide) (x_ext h.k rfl rfl rfl) (fun a h => ?_)
      refine s_x h rfl rfl (by decide) (x_ext h.k rfl rfl rfl) (fun a h => ?_)
      refine sAV h (fun a h => ?_)
      refine sAV h (fun a h => ?_)
      refine l_end ?_
      refine wp_seq ?_
      refine c_rs ?_
      refine sMV h (fun a h => ?_)
      refine sMV h (fun a h => ?_)
      obtain ⟨x42, h43, hf⟩ := bsome hf
      have hX := chatelaineref01_Same_ok Fu (S0 := snapAll _) A27 c28 x24.1 (h.m.rowAll (i := 1) rfl (j := 3) rfl hq32) A36 c37 x33.1 (h.m.rowAll (i := 0) rfl (j := 3) rfl hq41) _ h43 _ h.startAll
      refine q_callX hX h rfl rfl rfl (by decide) Try.func12 rfl rfl rfl (fun a w v L1 S1 hR hb1 h => ?_)
      obtain ⟨rfl, rfl, _⟩ := hR
      refine s_x h rfl rfl (by decide) (x_not h.k rfl rfl) (fun a h => ?_)
      refine sMV h (fun a h => ?_)
      refine q_grp h 4 (t := 58) 62 ((!x42) || (decide (x24.2 ≠ x33.2))) rfl (fun hB4 => ?_) (fun hB4 => ?_) (fun a w h => ?_)
      · refine g_no h rfl rfl rfl rfl hB4 rfl (by decide) (fun a h => ?_)
        refine g_no h rfl rfl rfl rfl hB4 rfl (by decide) (fun a h => ?_)
        refine g_no h rfl rfl rfl rfl hB4 rfl (by decide) (fun a h => ?_)
        refine s_x h rfl rfl (by decide) (x_pick (u' := undef) h.k rfl rfl (fun _ => rfl) (fun hh => absurd (hB4.symm.trans hh) (by decide))) (fun a h => ?_)
        exact (h.mid 3 rfl).val (by first | rfl | (rw [hB4]; first | rfl | simp))
      · refine g_yes h rfl rfl rfl rfl hB4 ?_
        refine sMV h (fun a h => ?_)
        refine g_yes h rfl rfl rfl rfl hB4 ?_
        refine sMV h (fun a h => ?_)
        refine g_yes h rfl rfl rfl rfl hB4 ?_
        refine s_x h rfl rfl (by decide) (x_bin h.k rfl rfl rfl ib_neq) (fun a h => ?_)
        refine s_x h rfl rfl (by decide) (x_pick (u' := undef) h.k rfl rfl (fun hh => absurd (hB4.symm.trans hh) (by decide)) (fun _ => rfl)) (fun a h => ?_)
        exact (h.mid 3 rfl).val (by first | rfl | (rw [hB4]; first | rfl | simp))
      refine l_end ?_
      refine c_cond h rfl (fun hb => ?_) (fun hb => ?_)
      · rw [if_pos hb] at hf
        refine c_rs ?_
        refine sAV h (fun a h => ?_)
        refine l_end ?_
        refine wp_ret ?_
        refine e_thenR ?_
        rw [← Option.some.inj hf]
        exact r_ret1 h rfl (rv_tmp h rfl) ⟨_, [], _, rfl, ⟨rfl, rfl, trivial⟩, rfl, (Up.refl _ _ _), (h.m.pick [3] _ (by decide) rfl)⟩
      · rw [if_neg (by rw [hb]; decide)] at hf
        refine wp_skip ?_
        refine e_thenN ?_
        refine c_rs ?_
        refine s_x h rfl rfl (by decide) (x_faddr h.k rfl Try.underlying33 rfl sz_Suint8 rfl) (fun a h => ?_)
        refine s_x h rfl rfl (by decide) (x_ld h.k rfl Try.underlying22 rfl rfl ((h.m.cell (i := 2) rfl 0).trans (cell_oneE (X := []) (Z := k6 ++ (([.int .i64 a0.2.2.1] : List Value) ++ ([.slice A13 a0.2.2.2.length c14]))) (off := 0) (u := .slice A3 a0.1.length c4) (by simp only [List.append_assoc, List.cons_append, List.nil_append, List.append_nil]) rfl))) (fun a h => ?_)
        refine s_x h rfl rfl (by decide) (x_faddr h.k rfl Try.underlying33 rfl sz_A32_uint8 rfl) (fun a h => ?_)
        refine s_x h rfl rfl (by decide) (x_ldR h.k rfl ag_A32_uint8 rfl k6 ((hs8).len.trans (by rw [hl9]; rfl)) (h.m.rangeMid (i := 2) (off := 1) (X := [.slice A3 a0.1.length c4]) (Y := k6) (Z := ([.int .i64 a0.2.2.1] : List Value) ++ ([.slice A13 a0.2.2.2.length c14])) rfl (by simp only [List.append_assoc, List.cons_append, List.nil_append, List.append_nil]) rfl)) (fun a h => ?_)
        refine s_x h rfl rfl (by decide) (x_faddr h.k rfl Try.underlying33 rfl sz_int rfl) (fun a h => ?_)
        refine s_x h rfl rfl (by decide) (x_ld h.k rfl Try.underlying3 rfl rfl ((h.m.cell (i := 2) rfl 33).trans (cell_oneE (X := ([.slice A3 a0.1.length c4] : List Value) ++ (k6)) (Z := [.slice A13 a0.2.2.2.length c14]) (off := 33) (u := .int .i64 a0.2.2.1) (by simp only [List.append_assoc, List.cons_append, List.nil_append, List.append_nil]) (show (([.slice A3 a0.1.length c4] : List Value) ++ (k6) : List Value).length = 33 from by simp only [List.length_append, List.length_cons, List.length_nil, (show (k6 : List Value).length = 32 from ((hs8).len.trans (by rw [hl9]; rfl)))])))) (fun a h => ?_)
        refine sMV h (fun a h => ?_)
        obtain ⟨x47, h48, hf⟩ := bsome hf
        have h := h.pick [3, 0, 1, 2] (by decide) rfl
        have hX := cred_Open_ok Fu (S0 := S0) A3 c4 a0.1 hs5 k6 a0.2.1 (⟨hs8, hl9⟩) a0.2.2.1 hr12 Aa1 ca1 a1 hsa1 _ h48 _ (h.sub (Ls := []))
        refine q_callY (Ls := []) hX h (Up.refl _ _ _) rfl rfl rfl (by decide) Try.func15 rfl rfl rfl (fun a w v L1 S50 hR le52 up51 h => ?_)
        obtain ⟨A53, c54, rfl, rfl, hs55, hr56, _⟩ := hR
        refine sMV h (fun a h => ?_)
        refine s_x h rfl rfl (by decide) (x_ext h.k rfl rfl rfl) (fun a h => ?_)
        refine s_x h rfl rfl (by decide) (x_ext h.k rfl rfl rfl) (fun a h => ?_)
        refine sAV h (fun a h => ?_)
        refine sAV h (fun a h => ?_)
        refine l_end ?_
        refine wp_seq ?_
        refine wp_block ?_
        refine c_rs ?_
        refine s_x h rfl rfl (by decide) (x_faddr h.k rfl Try.underlying33 rfl sz_Suint8 rfl) (fun a h => ?_)
        refine s_x h rfl rfl (by decide) (x_ld h.k rfl Try.underlying22 rfl rfl ((h.m.cell (i := 3) rfl 0).trans (cell_oneE (X := []) (Z := k6 ++ (([.int .i64 a0.2.2.1] : List Value) ++ ([.slice A13 a0.2.2.2.length c14]))) (off := 0) (u := .slice A3 a0.1.length c4) (by simp only [List.append_assoc, List.cons_append, List.nil_append, List.append_nil]) rfl))) (fun a h => ?_)
        obtain ⟨x57, h58, hf⟩ := bsome hf
        have hX := chatelaineref22_Right_ok Fu (S0 := snapAll _) A3 c4 a0.1 ((hs5.mono le52).mono (h.m.leAll (i := 0) rfl)) _ h58 _ h.startAll
        refine q_callX hX h rfl rfl rfl (by decide) Try.func9 rfl rfl rfl (fun a w v L1 S1 hR hb1 h => ?_)
        obtain ⟨rfl, rfl, _⟩ := hR
        refine s_x h rfl rfl (by decide) (x_not h.k rfl rfl) (fun a h => ?_)
        refine sAV h (fun a h => ?_)
        refine l_end ?_
        refine c_cond h rfl (fun hb => ?_) (fun hb => ?_)
        · rw [if_pos hb] at hf
          refine c_rs ?_
          refine sMV h (fun a h => ?_)
          refine s_x h rfl rfl (by decide) (x_bin h.k rfl rfl rfl ib_eql) (fun a h => ?_)
          refine sMV h (fun a h => ?_)
          refine q_grp h 4 (t := 81) 85 ((decide (x47.2 = 30)) && (decide ((x47.1.length : Int) = 0))) rfl (fun hB2 => ?_) (fun hB2 => ?_) (fun a w h => ?_)
          · refine g_yes h rfl rfl rfl rfl hB2 ?_
            refine sMV h (fun a h => ?_)
            refine g_yes h rfl rfl rfl rfl hB2 ?_
            refine s_x h rfl rfl (by decide) (x_len h.k rfl Try.underlying22 rfl) (fun a h => ?_)
            refine g_yes h rfl rfl rfl rfl hB2 ?_
            refine s_x h rfl rfl (by decide) (x_bin h.k rfl rfl rfl ib_eql) (fun a h => ?_)
            refine s_x h rfl rfl (by decide) (x_pick (u' := undef) h.k rfl rfl (fun _ => rfl) (fun hh => absurd (hB2.symm.trans hh) (by decide))) (fun a h => ?_)
            exact (h.mid 3 rfl).val (by first | rfl | (rw [hB2]; first | rfl | simp))
          · refine g_no h rfl rfl rfl rfl hB2 rfl (by decide) (fun a h => ?_)
            refine g_no h rfl rfl rfl rfl hB2 rfl (by decide) (fun a h => ?_)
            refine g_no h rfl rfl rfl rfl hB2 rfl (by decide) (fun a h => ?_)
            refine s_x h rfl rfl (by decide) (x_pick (u' := undef) h.k rfl rfl (fun hh => absurd (hB2.symm.trans hh) (by decide)) (fun _ => rfl)) (fun a h => ?_)
            exact (h.mid 3 rfl).val (by first | rfl | (rw [hB2]; first | rfl | simp))
          refine sAV h (fun a h => ?_)
          refine l_end ?_
          refine wp_ret ?_
          refine e_blkR ?_
          refine e_thenR ?_
          obtain rfl := Option.some.inj hf
          exact r_ret1 h rfl (rv_tmp h rfl) ⟨_, [], _, rfl, ⟨rfl, rfl, trivial⟩, rfl, up51, (h.m.pick [0] _ (by decide) rfl)⟩
        · rw [if_neg (by rw [hb]; decide)] at hf
          refine c_rs ?_
          refine s_x h rfl rfl (by decide) (x_faddr h.k rfl Try.underlying33 rfl sz_int rfl) (fun a h => ?_)
          refine s_x h rfl rfl (by decide) (x_ld h.k rfl Try.underlying3 rfl rfl ((h.m.cell (i := 3) rfl 33).trans (cell_oneE (X := ([.slice A3 a0.1.length c4] : List Value) ++ (k6)) (Z := [.slice A13 a0.2.2.2.length c14]) (off := 33) (u := .int .i64 a0.2.2.1) (by simp only [List.append_assoc, List.cons_append, List.nil_append, List.append_nil]) (show (([.slice A3 a0.1.length c4] : List Value) ++ (k6) : List Value).length = 33 from by simp only [List.length_append, List.length_cons, List.length_nil, (show (k6 : List Value).length = 32 from (((hs8.mono le52)).len.trans (by rw [hl9]; rfl)))])))) (fun a h => ?_)
          refine s_x h rfl rfl (by decide) (x_bin h.k rfl rfl rfl ib_lss) (fun a h => ?_)
          refine sMV h (fun a h => ?_)
          refine q_grp h 4 (t := 90) 94 ((decide (a0.2.2.1 < 0)) || (decide (64 < a0.2.2.1))) rfl (fun hB3 => ?_) (fun hB3 => ?_) (fun a w h => ?_)
          · refine g_no h rfl rfl rfl rfl hB3 rfl (by decide) (fun a h => ?_)
            refine g_no h rfl rfl rfl rfl hB3 rfl (by decide) (fun a h => ?_)
            refine g_no h rfl rfl rfl rfl hB3 rfl (by decide) (fun a h => ?_)
            refine s_x h rfl rfl (by decide) (x_pick (u' := undef) h.k rfl rfl (fun _ => rfl) (fun hh => absurd (hB3.symm.trans hh) (by decide))) (fun a h => ?_)
            exact (h.mid 3 rfl).val (by first | rfl | (rw [hB3]; first | rfl | simp))
          · refine g_yes h rfl rfl rfl rfl hB3 ?_
            refine s_x h rfl rfl (by decide) (x_faddr h.k rfl Try.underlying33 rfl sz_int rfl) (fun a h => ?_)
            refine g_yes h rfl rfl rfl rfl hB3 ?_
            refine s_x h rfl rfl (by decide) (x_ld h.k rfl Try.underlying3 rfl rfl ((h.m.cell (i := 3) rfl 33).trans (cell_oneE (X := ([.slice A3 a0.1.length c4] : List Value) ++ (k6)) (Z := [.slice A13 a0.2.2.2.length c14]) (off := 33) (u := .int .i64 a0.2.2.1) (by simp only [List.append_assoc, List.cons_append, List.nil_append, List.append_nil]) (show (([.slice A3 a0.1.length c4] : List Value) ++ (k6) : List Value).length = 33 from by simp only [List.length_append, List.length_cons, List.length_nil, (show (k6 : List Value).length = 32 from (((hs8.mono le52)).len.trans (by rw [hl9]; rfl)))])))) (fun a h => ?_)
            refine g_yes h rfl rfl rfl rfl hB3 ?_
            refine s_x h rfl rfl (by decide) (x_bin h.k rfl rfl rfl ib_gtr) (fun a h => ?_)
            refine s_x h rfl rfl (by decide) (x_pick (u' := undef) h.k rfl rfl (fun hh => absurd (hB3.symm.trans hh) (by decide)) (fun _ => rfl)) (fun a h => ?_)
            exact (h.mid 3 rfl).val (by first | rfl | (rw [hB3]; first | rfl | simp))
          refine sMV h (fun a h => ?_)
          refine q_grp h 4 (t := 95) 99 (((decide (a0.2.2.1 < 0)) || (decide (64 < a0.2.2.1))) || (decide ((a1.length : Int) ≠ 48))) rfl (fun hB8 => ?_) (fun hB8 => ?_) (fun a w h => ?_)
          · refine g_no h rfl rfl rfl rfl hB8 rfl (by decide) (fun a h => ?_)
            refine g_no h rfl rfl rfl rfl hB8 rfl (by decide) (fun a h => ?_)
            refine g_no h rfl rfl rfl rfl hB8 rfl (by decide) (fun a h => ?_)
            refine s_x h rfl rfl (by decide) (x_pick (u' := undef) h.k rfl rfl (fun _ => rfl) (fun hh => absurd (hB8.symm.trans hh) (by decide))) (fun a h => ?_)
            exact (h.mid 3 rfl).val (by first | rfl | (rw [hB8]; first | rfl | simp))
          · refine g_yes h rfl rfl rfl rfl hB8 ?_
            refine sMV h (fun a h => ?_)
            refine g_yes h rfl rfl rfl rfl hB8 ?_
            refine s_x h rfl rfl (by decide) (x_len h.k rfl Try.underlying22 rfl) (fun a h => ?_)
            refine g_yes h rfl rfl rfl rfl hB8 ?_
            refine s_x h rfl rfl (by decide) (x_bin h.k rfl rfl rfl ib_neq) (fun a h => ?_)
            refine s_x h rfl rfl (by decide) (x_pick (u' := undef) h.k rfl rfl (fun hh => absurd (hB8.symm.trans hh) (by decide)) (fun _ => rfl)) (fun a h => ?_)
            exact (h.mid 3 rfl).val (by first | rfl | (rw [hB8]; first | rfl | simp))
          refine sAV h (fun a h => ?_)
          refine l_end ?_
          refine c_cond h rfl (fun hb => ?_) (fun hb => ?_)
          · rw [if_pos hb] at hf
            refine c_rs ?_
            refine sMV h (fun a h => ?_)
            refine s_x h rfl rfl (by decide) (x_bin h.k rfl rfl rfl ib_eql) (fun a h => ?_)
            refine sMV h (fun a h => ?_)
            refine q_grp h 4 (t := 102) 106 ((decide (x47.2 = 2)) && (decide ((x47.1.length : Int) = 0))) rfl (fun hB2 => ?_) (fun hB2 => ?_) (fun a w h => ?_)
            · refine g_yes h rfl rfl rfl rfl hB2 ?_
              refine sMV h (fun a h => ?_)
              refine g_yes h rfl rfl rfl rfl hB2 ?_
              refine s_x h rfl rfl (by decide) (x_len h.k rfl Try.underlying22 rfl) (fun a h => ?_)
              refine g_yes h rfl rfl rfl rfl hB2 ?_
              refine s_x h rfl rfl (by decide) (x_bin h.k rfl rfl rfl ib_eql) (fun a h => ?_)
              refine s_x h rfl rfl (by decide) (x_pick (u' := undef) h.k rfl rfl (fun _ => rfl) (fun hh => absurd (hB2.symm.trans hh) (by decide))) (fun a h => ?_)
              exact (h.mid 3 rfl).val (by first | rfl | (rw [hB2]; first | rfl | simp))
            · refine g_no h rfl rfl rfl rfl hB2 rfl (by decide) (fun a h => ?_)
              refine g_no h rfl rfl rfl rfl hB2 rfl (by decide) (fun a h => ?_)
              refine g_no h rfl rfl rfl rfl hB2 rfl (by decide) (fun a h => ?_)
              refine s_x h rfl rfl (by decide) (x_pick (u' := undef) h.k rfl rfl (fun hh => absurd (hB2.symm.trans hh) (by decide)) (fun _ => rfl)) (fun a h => ?_)
              exact (h.mid 3 rfl).val (by first | rfl | (rw [hB2]; first | rfl | simp))
            refine sAV h (fun a h => ?_)
            refine l_end ?_
            refine wp_ret ?_
            refine e_blkR ?_
            refine e_thenR ?_
            obtain rfl := Option.some.inj hf
            exact r_ret1 h rfl (rv_tmp h rfl) ⟨_, [], _, rfl, ⟨rfl, rfl, trivial⟩, rfl, up51, (h.m.pick [0] _ (by decide) rfl)⟩
          · rw [if_neg (by rw [hb]; decide)] at hf
            refine c_rs ?_
            refine sMV h (fun a h => ?_)
            refine s_x h rfl rfl (by decide) (x_bin h.k rfl rfl rfl ib_eql) (fun a h => ?_)
            refine sAV h (fun a h => ?_)
            refine l_end ?_
            refine c_cond h rfl (fun hb => ?_) (fun hb => ?_)
            · rw [if_pos (of_decide_eq_true hb)] at hf
              refine c_rs ?_
              refine sMV h (fun a h => ?_)
              refine s_x h rfl rfl (by decide) (x_len h.k rfl Try.underlying22 rfl) (fun a h => ?_)
              refine s_x h rfl rfl (by decide) (x_bin h.k rfl rfl rfl ib_eql) (fun a h => ?_)
              refine sAV h (fun a h => ?_)
              refine l_end ?_
              refine wp_ret ?_
              refine e_blkR ?_
              refine e_thenR ?_
              obtain rfl := Option.some.inj hf
              exact r_ret1 h rfl (rv_tmp h rfl) ⟨_, [], _, rfl, ⟨rfl, rfl, trivial⟩, rfl, up51, (h.m.pick [0] _ (by decide) rfl)⟩
            · rw [if_neg (of_decide_eq_false hb)] at hf
              refine wp_skip ?_
              refine e_blkN ?_
              refine e_thenN ?_
              refine c_rs ?_
              refine s_x h rfl rfl (by decide) (x_faddr h.k rfl Try.underlying33 rfl sz_Suint8 rfl) (fun a h => ?_)
              refine s_x h rfl rfl (by decide) (x_ld h.k rfl Try.underlying22 rfl rfl ((h.m.cell (i := 3) rfl 0).trans (cell_oneE (X := []) (Z := k6 ++ (([.int .i64 a0.2.2.1] : List Value) ++ ([.slice A13 a0.2.2.2.length c14]))) (off := 0) (u := .slice A3 a0.1.length c4) (by simp only [List.append_assoc, List.cons_append, List.nil_append, List.append_nil]) rfl))) (fun a h => ?_)
              refine s_x h rfl rfl (by decide) (x_faddr h.k rfl Try.underlying33 rfl sz_A32_uint8 rfl) (fun a h => ?_)
              refine s_x h rfl rfl (by decide) (x_ldR h.k rfl ag_A32_uint8 rfl k6 (((hs8.mono le52)).len.trans (by rw [hl9]; rfl)) (h.m.rangeMid (i := 3) (off := 1) (X := [.slice A3 a0.1.length c4]) (Y := k6) (Z := ([.int .i64 a0.2.2.1] : List Value) ++ ([.slice A13 a0.2.2.2.length c14])) rfl (by simp only [List.append_assoc, List.cons_append, List.nil_append, List.append_nil]) rfl)) (fun a h => ?_)
              refine s_x h rfl rfl (by decide) (x_faddr h.k rfl Try.underlying33 rfl sz_int rfl) (fun a h => ?_)
              refine s_x h rfl rfl (by decide) (x_ld h.k rfl Try.underlying3 rfl rfl ((h.m.cell (i := 3) rfl 33).trans (cell_oneE (X := ([.slice A3 a0.1.length c4] : List Value) ++ (k6)) (Z := [.slice A13 a0.2.2.2.length c14]) (off := 33) (u := .int .i64 a0.2.2.1) (by simp only [List.append_assoc, List.cons_append, List.nil_append, List.append_nil]) (show (([.slice A3 a0.1.length c4] : List Value) ++ (k6) : List Value).length = 33 from by simp only [List.length_append, List.length_cons, List.length_nil, (show (k6 : List Value).length = 32 from (((hs8.mono le52)).len.trans (by rw [hl9]; rfl)))])))) (fun a h => ?_)
              refine sMV h (fun a h => ?_)
              obtain ⟨x68, h69, hf⟩ := bsome hf
              have hX := chatelaineref22_Seal_ok Fu (S0 := snapAll _) A3 c4 a0.1 ((hs5.mono le52).mono (h.m.leAll (i := 0) rfl)) k6 a0.2.1 ((tyA 32 ty8).mono (h.m.leAll (i := 0) rfl) (show (tyA 32 ty8).rep S50 k6 a0.2.1 from ⟨(hs8.mono le52), hl9⟩)) a0.2.2.1 hr12 A53 c54 x47.1 (hs55.mono (h.m.leAll (i := 0) rfl)) _ h69 _ h.startAll
              refine q_callX hX h rfl rfl rfl (by decide) Try.func14 rfl rfl rfl (fun a w v L1 S1 hR hb1 h => ?_)
              obtain ⟨A71, c72, cs73, rfl, rfl, hq74, hr75, _⟩ := hR
              have hq76 := hq74.fl (S' := S50) fl_8
              refine sMV h (fun a h => ?_)
              refine s_x h rfl rfl (by decide) (x_ext h.k rfl rfl rfl) (fun a h => ?_)
              refine s_x h rfl rfl (by decide) (x_ext h.k rfl rfl rfl) (fun a h => ?_)
              refine sAV h (fun a h => ?_)
              refine sAV h (fun a h => ?_)
              refine l_end ?_
              refine c_rs ?_
              refine sMV h (fun a h => ?_)
              refine s_x h rfl rfl (by decide) (x_bin h.k rfl rfl rfl ib_eql) (fun a h => ?_)
              refine sMV h (fun a h => ?_)
              refine q_grp h 3 (t := 126) 129 ((decide (x47.2 = 0)) && (decide (x68.2 = 0))) rfl (fun hB2 => ?_) (fun hB2 => ?_) (fun a w h => ?_)
              · refine g_yes h rfl rfl rfl rfl hB2 ?_
                refine sMV h (fun a h => ?_)
                refine g_yes h rfl rfl rfl rfl hB2 ?_
                refine s_x h rfl rfl (by decide) (x_bin h.k rfl rfl rfl ib_eql) (fun a h => ?_)
                refine s_x h rfl rfl (by decide) (x_pick (u' := undef) h.k rfl rfl (fun _ => rfl) (fun hh => absurd (hB2.symm.trans hh) (by decide))) (fun a h => ?_)
                exact (h.mid 2 rfl).val (by first | rfl | (rw [hB2]; first | rfl | simp))
              · refine g_no h rfl rfl rfl rfl hB2 rfl (by decide) (fun a h => ?_)
                refine g_no h rfl rfl rfl rfl hB2 rfl (by decide) (fun a h => ?_)
                refine s_x h rfl rfl (by decide) (x_pick (u' := undef) h.k rfl rfl (fun hh => absurd (hB2.symm.trans hh) (by decide)) (fun _ => rfl)) (fun a h => ?_)
                exact (h.mid 2 rfl).val (by first | rfl | (rw [hB2]; first | rfl | simp))
              refine sMV h (fun a h => ?_)
              obtain ⟨z80, hz79, hf⟩ := bsome hf
              refine q_grp h 4 (t := 130) 134 z80 rfl (fun hB6 => ?_) (fun hB6 => ?_) (fun a w h => ?_)
              · rw [if_pos hB6] at hz79
                refine g_yes h rfl rfl rfl rfl hB6 ?_
                refine sMV h (fun a h => ?_)
                refine g_yes h rfl rfl rfl rfl hB6 ?_
                refine sMV h (fun a h => ?_)
                refine g_yes h rfl rfl rfl rfl hB6 ?_
                obtain ⟨x82, h83, hz79⟩ := bsome hz79
                have hX := chatelaineref01_Same_ok Fu (S0 := snapAll _) A71 c72 x68.1 (h.m.rowAll (i := 0) rfl (j := 1) rfl hq76) Aa1 ca1 a1 ((hsa1.mono le52).mono (h.m.leAll (i := 1) rfl)) _ h83 _ h.startAll
                refine q_callX hX h rfl rfl rfl (by decide) Try.func12 rfl rfl rfl (fun a w v L1 S1 hR hb1 h => ?_)
                obtain ⟨rfl, rfl, _⟩ := hR
                refine s_x h rfl rfl (by decide) (x_pick (u' := undef) h.k rfl rfl (fun _ => rfl) (fun hh => absurd (hB6.symm.trans hh) (by decide))) (fun a h => ?_)
                exact (h.mid 3 rfl).val (by rw [Option.some.inj hz79])
              · refine g_no h rfl rfl rfl rfl hB6 rfl (by decide) (fun a h => ?_)
                refine g_no h rfl rfl rfl rfl hB6 rfl (by decide) (fun a h => ?_)
                refine g_no h rfl rfl rfl rfl hB6 rfl (by decide) (fun a h => ?_)
                rw [if_neg (by rw [hB6]; decide)] at hz79
                refine s_x h rfl rfl (by decide) (x_pick (u' := undef) h.k rfl rfl (fun hh => absurd (hB6.symm.trans hh) (by decide)) (fun _ => rfl)) (fun a h => ?_)
                exact (h.mid 3 rfl).val (by rw [Option.some.inj hz79])
              refine sAV h (fun a h => ?_)
              refine l_end ?_
              refine wp_ret ?_
              rw [← Option.some.inj hf]
              exact r_ret1 h rfl (rv_tmp h rfl) ⟨_, [], _, rfl, ⟨rfl, rfl, trivial⟩, rfl, up51, (h.m.pick [1] _ (by decide) rfl)⟩
end Go.Proofs.Ythaoiajbgadcjaa
