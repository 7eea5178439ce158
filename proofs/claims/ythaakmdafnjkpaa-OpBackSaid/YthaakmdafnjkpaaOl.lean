/- Ol: Go functions as plain functions, and that they are so (written by xt.py). -/
import Derived.Test.YthaakmdafnjkpaaOp
import Derived.Test.YthaakmdafnjkpaaOr
set_option linter.unusedVariables false
set_option linter.unusedSimpArgs false
namespace Go.Proofs.Ythaakmdafnjkpaa
open Go.RowKit
def chatelainelaw29_awake (Fu : Nat) : Option Bool :=
  (op_Put Fu (6, 1, 0, 0, 0, [], []) 64).bind fun x1 => some ((decide (x1.2 = 0)) && (decide ((x1.1.length : Int) = 15)))
set_option maxRecDepth 100000 in
set_option maxHeartbeats 2000000 in
theorem chatelainelaw29_awake_ok (Fu : Nat) {S0 : Snap}  (r : Bool) (hf : chatelainelaw29_awake Fu = some r) (w0 : World) (hm : Mem w0 (ownL ([] ++ [.sn S0])) ([] ++ [.sn S0]) w0) :
    Calls Try.prog 13 #[] w0 (Ret w0 S0 [] (fun v L1 S1 => v = .bool r ∧ L1 = [] ∧ True)) := by
  unfold chatelainelaw29_awake at hf
  refine c_enterM Try.func13 rfl 15 rfl (by simp) _ hm _ rfl (fun a h => ?_)
  refine c_rs ?_ -- region 0
  refine s_assign h rfl _ rfl rfl (by decide) rfl (fun a h => ?_)
  refine l_end ?_
  refine c_rs ?_ -- region 1
  refine s_x h rfl rfl (by decide) (x_build h.k rfl [(0, .int .i64 6), (1, .int .i64 1)] rfl ([.int .i64 6, .int .i64 1, .int .i64 0, .int .i64 0, .int .i64 0, .slice none 0 0, .slice none 0 0]) (by kernel_rfl)) (fun a h => ?_)
  obtain ⟨x1, h2, hf⟩ := bsome hf
  have hX := op_Put_ok Fu (S0 := snapAll _) ([.int .i64 6, .int .i64 1, .int .i64 0, .int .i64 0, .int .i64 0, .slice none 0 0, .slice none 0 0]) (6, 1, 0, 0, 0, [], []) ((tyP tyI (tyP tyI (tyP tyI (tyP tyI (tyP tyI (tyP (tyL ty8) (tyL ty8))))))).mono (h.m.leAll (i := 0) rfl) (show (tyP tyI (tyP tyI (tyP tyI (tyP tyI (tyP tyI (tyP (tyL ty8) (tyL ty8))))))).rep S0 ([.int .i64 6, .int .i64 1, .int .i64 0, .int .i64 0, .int .i64 0, .slice none 0 0, .slice none 0 0]) (6, 1, 0, 0, 0, [], []) from ⟨[.int .i64 6], [.int .i64 1, .int .i64 0, .int .i64 0, .int .i64 0, .slice none 0 0, .slice none 0 0], rfl, ⟨rfl, (show r64 6 from ⟨by decide, by decide⟩)⟩, ⟨[.int .i64 1], [.int .i64 0, .int .i64 0, .int .i64 0, .slice none 0 0, .slice none 0 0], rfl, ⟨rfl, (show r64 1 from ⟨by decide, by decide⟩)⟩, ⟨[.int .i64 0], [.int .i64 0, .int .i64 0, .slice none 0 0, .slice none 0 0], rfl, ⟨rfl, (show r64 0 from ⟨by decide, by decide⟩)⟩, ⟨[.int .i64 0], [.int .i64 0, .slice none 0 0, .slice none 0 0], rfl, ⟨rfl, (show r64 0 from ⟨by decide, by decide⟩)⟩, ⟨[.int .i64 0], [.slice none 0 0, .slice none 0 0], rfl, ⟨rfl, (show r64 0 from ⟨by decide, by decide⟩)⟩, ⟨[.slice none 0 0], [.slice none 0 0], rfl, ⟨_, _, rfl, (slS.nil ty8 _)⟩, ⟨_, _, rfl, (slS.nil ty8 _)⟩⟩⟩⟩⟩⟩⟩)) 64 (show r64 64 from ⟨by decide, by decide⟩) _ h2 _ h.startAll
  refine q_callX hX h rfl rfl rfl (by decide) Try.func14 rfl rfl rfl (fun a w v L1 S1 hR hb1 h => ?_)
  obtain ⟨A4, c5, cs6, rfl, rfl, hq7, hr8, _⟩ := hR
  have hq9 := hq7.fl (S' := S0) fl_8
  refine s_move h rfl _ rfl rfl (by decide) rfl (fun a h => ?_)
  refine s_x h rfl rfl (by decide) (x_ext h.k rfl rfl rfl) (fun a h => ?_)
  refine s_x h rfl rfl (by decide) (x_ext h.k rfl rfl rfl) (fun a h => ?_)
  refine s_assign h rfl _ rfl rfl (by decide) rfl (fun a h => ?_)
  refine s_assign h rfl _ rfl rfl (by decide) rfl (fun a h => ?_)
  refine l_end ?_
  refine c_rs ?_ -- region 2
  refine s_move h rfl _ rfl rfl (by decide) rfl (fun a h => ?_)
  refine s_x h rfl rfl (by decide) (x_bin h.k rfl rfl rfl ib_eql) (fun a h => ?_)
  refine s_move h rfl _ rfl rfl (by decide) rfl (fun a h => ?_)
  refine q_grp h 4 (t := 10) 14 ((decide (x1.2 = 0)) && (decide ((x1.1.length : Int) = 15))) rfl (fun hB2 => ?_) (fun hB2 => ?_) (fun a w h => ?_)
  · refine g_yes h rfl rfl rfl rfl hB2 ?_
    refine s_move h rfl _ rfl rfl (by decide) rfl (fun a h => ?_)
    refine g_yes h rfl rfl rfl rfl hB2 ?_
    have hr12 : r64 (x1.1.length : Int) := len_r (h.m.rowLen (i := 0) rfl)
    refine s_x h rfl rfl (by decide) (x_len h.k rfl Try.underlying22 rfl) (fun a h => ?_)
    refine g_yes h rfl rfl rfl rfl hB2 ?_
    refine s_x h rfl rfl (by decide) (x_bin h.k rfl rfl rfl ib_eql) (fun a h => ?_)
    refine s_x h rfl rfl (by decide) (x_pick (u' := undef) h.k rfl rfl (fun _ => rfl) (fun hh => absurd (hB2.symm.trans hh) (by decide))) (fun a h => ?_)
    exact (h.mid 3 rfl).val (by first | rfl | (rw [hB2]; first | rfl | simp))
  · refine g_no h rfl rfl rfl rfl hB2 rfl (by decide) (fun a h => ?_)
    refine g_no h rfl rfl rfl rfl hB2 rfl (by decide) (fun a h => ?_)
    refine g_no h rfl rfl rfl rfl hB2 rfl (by decide) (fun a h => ?_)
    refine s_x h rfl rfl (by decide) (x_pick (u' := undef) h.k rfl rfl (fun hh => absurd (hB2.symm.trans hh) (by decide)) (fun _ => rfl)) (fun a h => ?_)
    exact (h.mid 3 rfl).val (by first | rfl | (rw [hB2]; first | rfl | simp))
  refine s_assign h rfl _ rfl rfl (by decide) rfl (fun a h => ?_)
  refine l_end ?_
  refine wp_ret ?_
  obtain rfl := Option.some.inj hf
  exact r_ret1 h rfl (rv_tmp h rfl) ⟨_, [], _, rfl, ⟨rfl, rfl, trivial⟩, rfl, (Up.refl _ _ _), (h.m.pick [1] _ (by decide) rfl)⟩
def en_api_Record (x : Int × Int × Int × Int × Int × Int) : List Value := [.int .i64 x.1, .int .i64 x.2.1, .int .i64 x.2.2.1, .int .i64 x.2.2.2.1, .int .i64 x.2.2.2.2.1, .int .i64 x.2.2.2.2.2]
theorem gd_api_Record : Try.prog.eqGuardType Try.prog.depth 31 = false := by kernel_rfl
theorem eqs_api_Record (w : World) (x y : Int × Int × Int × Int × Int × Int) : (Op.equalIn 10000 31 (.agg (en_api_Record x).toArray) (.agg (en_api_Record y).toArray)).run Try.prog w = .ok (decide (x = y)) w := by
  have hq : Try.prog.stoodInHeld 31 = false := by kernel_rfl
  rw [run_equalIn_struct w 9999 _ _ _ (by simp only [Program.fieldsOf, Try.underlying31]) hq]
  simp only [Program.fieldsOf, Try.underlying31]
  refine Eq.trans (b := .ok ((x.1 == y.1) && ((x.2.1 == y.2.1) && ((x.2.2.1 == y.2.2.1) && ((x.2.2.2.1 == y.2.2.2.1) && ((x.2.2.2.2.1 == y.2.2.2.2.1) && ((x.2.2.2.2.2 == y.2.2.2.2.2) && true)))))) w) ?_ ?_
  · refine eqf_cons' (by decide) (part_one w Try.underlying3 rfl _ _ _ rfl) (part_one w Try.underlying3 rfl _ _ _ rfl) (run_equalIn_int w 9998 _ .i64 .i64 _ _ Try.underlying3) ?_
    refine eqf_cons' (by decide) (part_one w Try.underlying3 rfl _ _ _ rfl) (part_one w Try.underlying3 rfl _ _ _ rfl) (run_equalIn_int w 9998 _ .i64 .i64 _ _ Try.underlying3) ?_
    refine eqf_cons' (by decide) (part_one w Try.underlying3 rfl _ _ _ rfl) (part_one w Try.underlying3 rfl _ _ _ rfl) (run_equalIn_int w 9998 _ .i64 .i64 _ _ Try.underlying3) ?_
    refine eqf_cons' (by decide) (part_one w Try.underlying3 rfl _ _ _ rfl) (part_one w Try.underlying3 rfl _ _ _ rfl) (run_equalIn_int w 9998 _ .i64 .i64 _ _ Try.underlying3) ?_
    refine eqf_cons' (by decide) (part_one w Try.underlying3 rfl _ _ _ rfl) (part_one w Try.underlying3 rfl _ _ _ rfl) (run_equalIn_int w 9998 _ .i64 .i64 _ _ Try.underlying3) ?_
    refine eqf_cons' (by decide) (part_one w Try.underlying3 rfl _ _ _ rfl) (part_one w Try.underlying3 rfl _ _ _ rfl) (run_equalIn_int w 9998 _ .i64 .i64 _ _ Try.underlying3) ?_
    exact eqf_nil'
  · refine congrArg (fun b => Result.ok b w) ?_
    obtain ⟨x0, x1, x2, x3, x4, x5⟩ := x
    obtain ⟨y0, y1, y2, y3, y4, y5⟩ := y
    rw [Bool.eq_iff_iff]
    simp
def chatelainelaw29_OpPuts (Fu : Nat) (a0 : Int × Int × Int × Int × Int × (List UInt8) × (List UInt8)) (a1 : Int) (a2 : Int) : Option Bool :=
  (chatelainelaw29_awake Fu).bind fun x25 => if (!x25) = true then (some false) else (if ((decide (300 < (a0.2.2.2.2.2.1.length : Int))) || (decide (600 < (a0.2.2.2.2.2.2.length : Int)))) = true then (some true) else ((op_Put Fu a0 a1).bind fun x30 => (op_Right Fu a0 a1).bind fun x39 => (chatelaineref29_Right Fu a0 a1).bind fun x42 => (if (!(x39 == x42)) = true then some true else (op_Record Fu a0 a2).bind fun x47 => some (!(decide (x47 = (a2, a0.1, a0.2.1, a0.2.2.1, a0.2.2.2.1, a0.2.2.2.2.1))))).bind fun z45 => (if z45 = true then some true else (op_Same Fu a0 a0).bind fun x70 => some (!x70)).bind fun z68 => if z68 = true then (some false) else ((op_Changes Fu a0.1).bind fun x73 => (if (!(x73 == ((((decide (1 ≤ a0.1)) && (decide (a0.1 ≤ 10))) && (decide (a0.1 ≠ 6))) && (decide (a0.1 ≠ 7))))) = true then some true else (op_Draws Fu a0.1).bind fun x85 => some (!(x85 == (((decide (2 ≤ a0.1)) && (decide (a0.1 ≤ 5))) || (decide (a0.1 = 10)))))).bind fun z83 => if z83 = true then (some false) else ((chatelaineref29_Right Fu a0 a1).bind fun x92 => if (!x92) = true then (some ((decide (x30.2 = 2)) && (decide ((x30.1.length : Int) = 0)))) else ((if x30.2 = 0 then (chatelaineref29_Put Fu a0).bind fun x101 => (chatelaineref01_Same Fu x30.1 x101).bind fun x109 => some x109 else some false).bind fun z99 => some z99)))))
set_option maxRecDepth 100000 in
set_option maxHeartbeats 2000000 in
theorem chatelainelaw29_OpPuts_ok (Fu : Nat) {S0 : Snap} (csa0 : List Value) (a0 : Int × Int × Int × Int × Int × (List UInt8) × (List UInt8)) (hsa0 : (tyP tyI (tyP tyI (tyP tyI (tyP tyI (tyP tyI (tyP (tyL ty8) (tyL ty8))))))).rep S0 csa0 a0) (a1 : Int) (hra1 : r64 a1) (a2 : Int) (hra2 : r64 a2) (r : Bool) (hf : chatelainelaw29_OpPuts Fu a0 a1 a2 = some r) (w0 : World) (hm : Mem w0 (ownL ([] ++ [.sn S0])) ([] ++ [.sn S0]) w0) :
    Calls Try.prog 3 #[.agg csa0.toArray, .int .i64 a1, .int .i64 a2] w0 (Ret w0 S0 [] (fun v L1 S1 => v = .bool r ∧ L1 = [] ∧ True)) := by
  unfold chatelainelaw29_OpPuts at hf
  obtain ⟨k1, k2, rfl, ⟨rfl, hr3⟩, ⟨k4, k5, rfl, ⟨rfl, hr6⟩, ⟨k7, k8, rfl, ⟨rfl, hr9⟩, ⟨k10, k11, rfl, ⟨rfl, hr12⟩, ⟨k13, k14, rfl, ⟨rfl, hr15⟩, ⟨k16, k17, rfl, ⟨A18, c19, rfl, hs20⟩, ⟨A21, c22, rfl, hs23⟩⟩⟩⟩⟩⟩⟩ := hsa0
  refine c_enterM Try.func3 rfl 112 rfl (by simp) _ hm _ rfl (fun a h => ?_)
  refine c_rs ?_ -- region 0
  refine s_box h rfl rfl rfl (by decide) rfl (cs := [.int .i64 a0.1, .int .i64 a0.2.1, .int .i64 a0.2.2.1, .int .i64 a0.2.2.2.1, .int .i64 a0.2.2.2.2.1, .slice A18 a0.2.2.2.2.2.1.length c19, .slice A21 a0.2.2.2.2.2.2.length c22]) (by rfl) (fun a w g24 h => ?_)
  refine s_assign h rfl _ rfl rfl (by decide) rfl (fun a h => ?_)
  refine l_end ?_
  refine wp_seq ?_
  refine c_rs ?_ -- region 1
  obtain ⟨x25, h26, hf⟩ := bsome hf
  have hX := chatelainelaw29_awake_ok Fu (S0 := snapAll _)  _ h26 _ h.startAll
  refine q_callX hX h rfl rfl rfl (by decide) Try.func13 rfl rfl rfl (fun a w v L1 S1 hR hb1 h => ?_)
  obtain ⟨rfl, rfl, _⟩ := hR
  refine s_x h rfl rfl (by decide) (x_not h.k rfl rfl) (fun a h => ?_)
  refine l_end ?_
  refine c_cond h rfl (fun hb => ?_) (fun hb => ?_)
  · rw [if_pos hb] at hf
    refine c_rs ?_ -- region 2
    refine s_assign h rfl _ rfl rfl (by decide) rfl (fun a h => ?_)
    refine l_end ?_
    refine wp_ret ?_
    refine e_thenR ?_
    rw [← Option.some.inj hf]
    exact r_ret1 h rfl (rv_tmp h rfl) ⟨_, [], _, rfl, ⟨rfl, rfl, trivial⟩, rfl, (Up.refl _ _ _), (h.m.pick [1] _ (by decide) rfl)⟩
  · rw [if_neg (by rw [hb]; decide)] at hf
    refine wp_skip ?_
    refine e_thenN ?_
    refine wp_seq ?_
    refine c_rs ?_ -- region 3
    refine s_x h rfl rfl (by decide) (x_faddr h.k rfl Try.underlying24 rfl sz_Suint8 rfl) (fun a h => ?_)
    refine s_x h rfl rfl (by decide) (x_ld h.k rfl Try.underlying22 rfl rfl ((h.m.cell (i := 0) rfl 5).trans rfl)) (fun a h => ?_)
    refine s_x h rfl rfl (by decide) (x_len h.k rfl Try.underlying22 rfl) (fun a h => ?_)
    refine s_x h rfl rfl (by decide) (x_bin h.k rfl rfl rfl ib_gtr) (fun a h => ?_)
    refine s_move h rfl _ rfl rfl (by decide) rfl (fun a h => ?_)
    refine q_grp h 5 (t := 16) 21 ((decide (300 < (a0.2.2.2.2.2.1.length : Int))) || (decide (600 < (a0.2.2.2.2.2.2.length : Int)))) rfl (fun hB4 => ?_) (fun hB4 => ?_) (fun a w h => ?_)
    · refine g_no h rfl rfl rfl rfl hB4 rfl (by decide) (fun a h => ?_)
      refine g_no h rfl rfl rfl rfl hB4 rfl (by decide) (fun a h => ?_)
      refine g_no h rfl rfl rfl rfl hB4 rfl (by decide) (fun a h => ?_)
      refine g_no h rfl rfl rfl rfl hB4 rfl (by decide) (fun a h => ?_)
      refine s_x h rfl rfl (by decide) (x_pick (u' := undef) h.k rfl rfl (fun _ => rfl) (fun hh => absurd (hB4.symm.trans hh) (by decide))) (fun a h => ?_)
      exact (h.mid 4 rfl).val (by first | rfl | (rw [hB4]; first | rfl | simp))
    · refine g_yes h rfl rfl rfl rfl hB4 ?_
      refine s_x h rfl rfl (by decide) (x_faddr h.k rfl Try.underlying24 rfl sz_Suint8 rfl) (fun a h => ?_)
      refine g_yes h rfl rfl rfl rfl hB4 ?_
      refine s_x h rfl rfl (by decide) (x_ld h.k rfl Try.underlying22 rfl rfl ((h.m.cell (i := 0) rfl 6).trans rfl)) (fun a h => ?_)
      refine g_yes h rfl rfl rfl rfl hB4 ?_
      refine s_x h rfl rfl (by decide) (x_len h.k rfl Try.underlying22 rfl) (fun a h => ?_)
      refine g_yes h rfl rfl rfl rfl hB4 ?_
      refine s_x h rfl rfl (by decide) (x_bin h.k rfl rfl rfl ib_gtr) (fun a h => ?_)
      refine s_x h rfl rfl (by decide) (x_pick (u' := undef) h.k rfl rfl (fun hh => absurd (hB4.symm.trans hh) (by decide)) (fun _ => rfl)) (fun a h => ?_)
      exact (h.mid 4 rfl).val (by first | rfl | (rw [hB4]; first | rfl | simp))
    refine l_end ?_
    refine c_cond h rfl (fun hb => ?_) (fun hb => ?_)
    · rw [if_pos hb] at hf
      refine c_rs ?_ -- region 4
      refine s_assign h rfl _ rfl rfl (by decide) rfl (fun a h => ?_)
      refine l_end ?_
      refine wp_ret ?_
      refine e_thenR ?_
      rw [← Option.some.inj hf]
      exact r_ret1 h rfl (rv_tmp h rfl) ⟨_, [], _, rfl, ⟨rfl, rfl, trivial⟩, rfl, (Up.refl _ _ _), (h.m.pick [1] _ (by decide) rfl)⟩
    · rw [if_neg (by rw [hb]; decide)] at hf
      refine wp_skip ?_
      refine e_thenN ?_
      refine c_rs ?_ -- region 5
      refine s_x h rfl rfl (by decide) (x_ldR h.k rfl ag_api_Op rfl ([.int .i64 a0.1, .int .i64 a0.2.1, .int .i64 a0.2.2.1, .int .i64 a0.2.2.2.1, .int .i64 a0.2.2.2.2.1, .slice A18 a0.2.2.2.2.2.1.length c19, .slice A21 a0.2.2.2.2.2.2.length c22]) rfl (h.m.range0 (i := 0) rfl)) (fun a h => ?_)
      refine s_move h rfl _ rfl rfl (by decide) rfl (fun a h => ?_)
      obtain ⟨x30, h31, hf⟩ := bsome hf
      have hX := op_Put_ok Fu (S0 := snapAll _) ([.int .i64 a0.1, .int .i64 a0.2.1, .int .i64 a0.2.2.1, .int .i64 a0.2.2.2.1, .int .i64 a0.2.2.2.2.1, .slice A18 a0.2.2.2.2.2.1.length c19, .slice A21 a0.2.2.2.2.2.2.length c22]) a0 ((tyP tyI (tyP tyI (tyP tyI (tyP tyI (tyP tyI (tyP (tyL ty8) (tyL ty8))))))).mono (h.m.leAll (i := 1) rfl) (show (tyP tyI (tyP tyI (tyP tyI (tyP tyI (tyP tyI (tyP (tyL ty8) (tyL ty8))))))).rep S0 ([.int .i64 a0.1, .int .i64 a0.2.1, .int .i64 a0.2.2.1, .int .i64 a0.2.2.2.1, .int .i64 a0.2.2.2.2.1, .slice A18 a0.2.2.2.2.2.1.length c19, .slice A21 a0.2.2.2.2.2.2.length c22]) a0 from ⟨[.int .i64 a0.1], [.int .i64 a0.2.1, .int .i64 a0.2.2.1, .int .i64 a0.2.2.2.1, .int .i64 a0.2.2.2.2.1, .slice A18 a0.2.2.2.2.2.1.length c19, .slice A21 a0.2.2.2.2.2.2.length c22], rfl, ⟨rfl, hr3⟩, ⟨[.int .i64 a0.2.1], [.int .i64 a0.2.2.1, .int .i64 a0.2.2.2.1, .int .i64 a0.2.2.2.2.1, .slice A18 a0.2.2.2.2.2.1.length c19, .slice A21 a0.2.2.2.2.2.2.length c22], rfl, ⟨rfl, hr6⟩, ⟨[.int .i64 a0.2.2.1], [.int .i64 a0.2.2.2.1, .int .i64 a0.2.2.2.2.1, .slice A18 a0.2.2.2.2.2.1.length c19, .slice A21 a0.2.2.2.2.2.2.length c22], rfl, ⟨rfl, hr9⟩, ⟨[.int .i64 a0.2.2.2.1], [.int .i64 a0.2.2.2.2.1, .slice A18 a0.2.2.2.2.2.1.length c19, .slice A21 a0.2.2.2.2.2.2.length c22], rfl, ⟨rfl, hr12⟩, ⟨[.int .i64 a0.2.2.2.2.1], [.slice A18 a0.2.2.2.2.2.1.length c19, .slice A21 a0.2.2.2.2.2.2.length c22], rfl, ⟨rfl, hr15⟩, ⟨[.slice A18 a0.2.2.2.2.2.1.length c19], [.slice A21 a0.2.2.2.2.2.2.length c22], rfl, ⟨_, _, rfl, hs20⟩, ⟨_, _, rfl, hs23⟩⟩⟩⟩⟩⟩⟩)) a1 hra1 _ h31 _ h.startAll
      refine q_callX hX h rfl rfl rfl (by decide) Try.func14 rfl rfl rfl (fun a w v L1 S1 hR hb1 h => ?_)
      obtain ⟨A33, c34, cs35, rfl, rfl, hq36, hr37, _⟩ := hR
      have hq38 := hq36.fl (S' := S0) fl_8
      refine s_move h rfl _ rfl rfl (by decide) rfl (fun a h => ?_)
      refine s_x h rfl rfl (by decide) (x_ext h.k rfl rfl rfl) (fun a h => ?_)
      refine s_x h rfl rfl (by decide) (x_ext h.k rfl rfl rfl) (fun a h => ?_)
      refine s_assign h rfl _ rfl rfl (by decide) rfl (fun a h => ?_)
      refine s_assign h rfl _ rfl rfl (by decide) rfl (fun a h => ?_)
      refine l_end ?_
      refine wp_seq ?_
      refine wp_seq ?_
      -- region 6 draws
      obtain ⟨x39, h40, hf⟩ := bsome hf
      obtain ⟨x42, h43, hf⟩ := bsome hf
      obtain ⟨z45, hz46, hf⟩ := bsome hf
      obtain ⟨z68, hz69, hf⟩ := bsome hf
      refine c_fin (fun a w => St 112 w0 (ownL ([] ++ [.sn S0])) [(1, .int .i64 a1), (3, .pointer (some ⟨g24, 0, none⟩)), (7, .slice A33 x30.1.length c34), (8, .int .i64 x30.2), (58, .bool z68)] [.box g24 24 ([.int .i64 a0.1, .int .i64 a0.2.1, .int .i64 a0.2.2.1, .int .i64 a0.2.2.2.1, .int .i64 a0.2.2.2.2.1, .slice A18 a0.2.2.2.2.2.1.length c19, .slice A21 a0.2.2.2.2.2.2.length c22]), .row (.slice A33 x30.1.length c34) 5 1 x30.1.length cs35, .sn S0] a w) ?_ (fun a w h => ?_)
      · refine d_start h (Mem _ _ _) 31 31 rfl (by kernel_rfl) (fun _ _ _ _ _ h => h) (fun _ h => h) (fun Q a w HE HN h HS => ?_)
        refine d_take h HS HN 0 rfl (by kernel_rfl) (by kernel_rfl) (by kernel_rfl) (by kernel_rfl) (by kernel_rfl) rfl rfl (by decide) (fun w' hw => x_ldR h.k rfl ag_api_Op rfl ([.int .i64 a0.1, .int .i64 a0.2.1, .int .i64 a0.2.2.1, .int .i64 a0.2.2.2.1, .int .i64 a0.2.2.2.2.1, .slice A18 a0.2.2.2.2.2.1.length c19, .slice A21 a0.2.2.2.2.2.2.length c22]) rfl (hw.range0 (i := 1) rfl)) (fun a h => ?_)
        refine d_takeP h (fun _ => HS) HN 1 rfl (by kernel_rfl) (by kernel_rfl) (by kernel_rfl) (by decide) rfl rfl (by decide) (fun w' => x_move h.k _ rfl rfl) (fun a h => ?_)
        refine d_take h HS HN 3 rfl (by kernel_rfl) (by kernel_rfl) (by kernel_rfl) (by kernel_rfl) (by kernel_rfl) rfl rfl (by decide) (fun w' hw => x_ldR h.k rfl ag_api_Op rfl ([.int .i64 a0.1, .int .i64 a0.2.1, .int .i64 a0.2.2.1, .int .i64 a0.2.2.2.1, .int .i64 a0.2.2.2.2.1, .slice A18 a0.2.2.2.2.2.1.length c19, .slice A21 a0.2.2.2.2.2.2.length c22]) rfl (hw.range0 (i := 1) rfl)) (fun a h => ?_)
        refine d_takeP h (fun _ => HS) HN 4 rfl (by kernel_rfl) (by kernel_rfl) (by kernel_rfl) (by decide) rfl rfl (by decide) (fun w' => x_move h.k _ rfl rfl) (fun a h => ?_)
        refine d_alone 2 rfl (by kernel_rfl) (fun K hK => ?_)
        have hX := op_Right_ok Fu (S0 := snapAll _) ([.int .i64 a0.1, .int .i64 a0.2.1, .int .i64 a0.2.2.1, .int .i64 a0.2.2.2.1, .int .i64 a0.2.2.2.2.1, .slice A18 a0.2.2.2.2.2.1.length c19, .slice A21 a0.2.2.2.2.2.2.length c22]) a0 ((tyP tyI (tyP tyI (tyP tyI (tyP tyI (tyP tyI (tyP (tyL ty8) (tyL ty8))))))).mono (h.m.leAll (i := 2) rfl) (show (tyP tyI (tyP tyI (tyP tyI (tyP tyI (tyP tyI (tyP (tyL ty8) (tyL ty8))))))).rep S0 ([.int .i64 a0.1, .int .i64 a0.2.1, .int .i64 a0.2.2.1, .int .i64 a0.2.2.2.1, .int .i64 a0.2.2.2.2.1, .slice A18 a0.2.2.2.2.2.1.length c19, .slice A21 a0.2.2.2.2.2.2.length c22]) a0 from ⟨[.int .i64 a0.1], [.int .i64 a0.2.1, .int .i64 a0.2.2.1, .int .i64 a0.2.2.2.1, .int .i64 a0.2.2.2.2.1, .slice A18 a0.2.2.2.2.2.1.length c19, .slice A21 a0.2.2.2.2.2.2.length c22], rfl, ⟨rfl, hr3⟩, ⟨[.int .i64 a0.2.1], [.int .i64 a0.2.2.1, .int .i64 a0.2.2.2.1, .int .i64 a0.2.2.2.2.1, .slice A18 a0.2.2.2.2.2.1.length c19, .slice A21 a0.2.2.2.2.2.2.length c22], rfl, ⟨rfl, hr6⟩, ⟨[.int .i64 a0.2.2.1], [.int .i64 a0.2.2.2.1, .int .i64 a0.2.2.2.2.1, .slice A18 a0.2.2.2.2.2.1.length c19, .slice A21 a0.2.2.2.2.2.2.length c22], rfl, ⟨rfl, hr9⟩, ⟨[.int .i64 a0.2.2.2.1], [.int .i64 a0.2.2.2.2.1, .slice A18 a0.2.2.2.2.2.1.length c19, .slice A21 a0.2.2.2.2.2.2.length c22], rfl, ⟨rfl, hr12⟩, ⟨[.int .i64 a0.2.2.2.2.1], [.slice A18 a0.2.2.2.2.2.1.length c19, .slice A21 a0.2.2.2.2.2.2.length c22], rfl, ⟨rfl, hr15⟩, ⟨[.slice A18 a0.2.2.2.2.2.1.length c19], [.slice A21 a0.2.2.2.2.2.2.length c22], rfl, ⟨_, _, rfl, hs20⟩, ⟨_, _, rfl, hs23⟩⟩⟩⟩⟩⟩⟩)) a1 hra1 _ h40 _ h.startAll
        refine q_callX hX h rfl rfl rfl (by decide) Try.func15 rfl rfl rfl (fun a w v L1 S1 hR hb1 h => ?_)
        obtain ⟨rfl, rfl, _⟩ := hR
        refine hK _ _ (fun _ _ => HS.ext hb1) ?_
        replace HS := HS.ext hb1
        clear hK
        refine d_alone 5 rfl (by kernel_rfl) (fun K hK => ?_)
        have hX := chatelaineref29_Right_ok Fu (S0 := snapAll _) ([.int .i64 a0.1, .int .i64 a0.2.1, .int .i64 a0.2.2.1, .int .i64 a0.2.2.2.1, .int .i64 a0.2.2.2.2.1, .slice A18 a0.2.2.2.2.2.1.length c19, .slice A21 a0.2.2.2.2.2.2.length c22]) a0 ((tyP tyI (tyP tyI (tyP tyI (tyP tyI (tyP tyI (tyP (tyL ty8) (tyL ty8))))))).mono (h.m.leAll (i := 2) rfl) (show (tyP tyI (tyP tyI (tyP tyI (tyP tyI (tyP tyI (tyP (tyL ty8) (tyL ty8))))))).rep S0 ([.int .i64 a0.1, .int .i64 a0.2.1, .int .i64 a0.2.2.1, .int .i64 a0.2.2.2.1, .int .i64 a0.2.2.2.2.1, .slice A18 a0.2.2.2.2.2.1.length c19, .slice A21 a0.2.2.2.2.2.2.length c22]) a0 from ⟨[.int .i64 a0.1], [.int .i64 a0.2.1, .int .i64 a0.2.2.1, .int .i64 a0.2.2.2.1, .int .i64 a0.2.2.2.2.1, .slice A18 a0.2.2.2.2.2.1.length c19, .slice A21 a0.2.2.2.2.2.2.length c22], rfl, ⟨rfl, hr3⟩, ⟨[.int .i64 a0.2.1], [.int .i64 a0.2.2.1, .int .i64 a0.2.2.2.1, .int .i64 a0.2.2.2.2.1, .slice A18 a0.2.2.2.2.2.1.length c19, .slice A21 a0.2.2.2.2.2.2.length c22], rfl, ⟨rfl, hr6⟩, ⟨[.int .i64 a0.2.2.1], [.int .i64 a0.2.2.2.1, .int .i64 a0.2.2.2.2.1, .slice A18 a0.2.2.2.2.2.1.length c19, .slice A21 a0.2.2.2.2.2.2.length c22], rfl, ⟨rfl, hr9⟩, ⟨[.int .i64 a0.2.2.2.1], [.int .i64 a0.2.2.2.2.1, .slice A18 a0.2.2.2.2.2.1.length c19, .slice A21 a0.2.2.2.2.2.2.length c22], rfl, ⟨rfl, hr12⟩, ⟨[.int .i64 a0.2.2.2.2.1], [.slice A18 a0.2.2.2.2.2.1.length c19, .slice A21 a0.2.2.2.2.2.2.length c22], rfl, ⟨rfl, hr15⟩, ⟨[.slice A18 a0.2.2.2.2.2.1.length c19], [.slice A21 a0.2.2.2.2.2.2.length c22], rfl, ⟨_, _, rfl, hs20⟩, ⟨_, _, rfl, hs23⟩⟩⟩⟩⟩⟩⟩)) a1 hra1 _ h43 _ h.startAll
        refine q_callX hX h rfl rfl rfl (by decide) Try.func16 rfl rfl rfl (fun a w v L1 S1 hR hb1 h => ?_)
        obtain ⟨rfl, rfl, _⟩ := hR
        refine hK _ _ (fun _ _ => HS.ext hb1) ?_
        replace HS := HS.ext hb1
        clear hK
        refine d_takeP h (fun _ => HS) HN 6 rfl (by kernel_rfl) (by kernel_rfl) (by kernel_rfl) (by decide) rfl rfl (by decide) (fun w' => x_neqB h.k rfl Try.underlying4 rfl rfl) (fun a h => ?_)
        refine d_takeP h (fun _ => HS) HN 7 rfl (by kernel_rfl) (by kernel_rfl) (by kernel_rfl) (by decide) rfl rfl (by decide) (fun w' => x_move h.k _ rfl rfl) (fun a h => ?_)
        refine d_split (t := 35) h rfl (fun hB7 => ?_) (fun hB7 => ?_)
        · rw [if_pos hB7] at hz46
          refine d_takeNP h (fun _ => HS) HN 8 rfl (by kernel_rfl) (by kernel_rfl) (by kernel_rfl) (by decide) (by rw [g_want h rfl rfl rfl rfl hB7]; rfl) rfl (by decide) (fun a h => ?_)
          refine d_takeNP h (fun _ => HS) HN 9 rfl (by kernel_rfl) (by kernel_rfl) (by kernel_rfl) (by decide) (by rw [g_want h rfl rfl rfl rfl hB7]; rfl) rfl (by decide) (fun a h => ?_)
          refine d_takeNP h (fun _ => HS) HN 10 rfl (by kernel_rfl) (by kernel_rfl) (by kernel_rfl) (by decide) (by rw [g_want h rfl rfl rfl rfl hB7]; rfl) rfl (by decide) (fun a h => ?_)
          refine d_takeNP h (fun _ => HS) HN 11 rfl (by kernel_rfl) (by kernel_rfl) (by kernel_rfl) (by decide) (by rw [g_want h rfl rfl rfl rfl hB7]; rfl) rfl (by decide) (fun a h => ?_)
          refine d_takeNP h (fun _ => HS) HN 12 rfl (by kernel_rfl) (by kernel_rfl) (by kernel_rfl) (by decide) (by rw [g_want h rfl rfl rfl rfl hB7]; rfl) rfl (by decide) (fun a h => ?_)
          refine d_takeNP h (fun _ => HS) HN 13 rfl (by kernel_rfl) (by kernel_rfl) (by kernel_rfl) (by decide) (by rw [g_want h rfl rfl rfl rfl hB7]; rfl) rfl (by decide) (fun a h => ?_)
          refine d_takeNP h (fun _ => HS) HN 14 rfl (by kernel_rfl) (by kernel_rfl) (by kernel_rfl) (by decide) (by rw [g_want h rfl rfl rfl rfl hB7]; rfl) rfl (by decide) (fun a h => ?_)
          refine d_takeNP h (fun _ => HS) HN 15 rfl (by kernel_rfl) (by kernel_rfl) (by kernel_rfl) (by decide) (by rw [g_want h rfl rfl rfl rfl hB7]; rfl) rfl (by decide) (fun a h => ?_)
          refine d_takeNP h (fun _ => HS) HN 16 rfl (by kernel_rfl) (by kernel_rfl) (by kernel_rfl) (by decide) (by rw [g_want h rfl rfl rfl rfl hB7]; rfl) rfl (by decide) (fun a h => ?_)
          refine d_takeNP h (fun _ => HS) HN 17 rfl (by kernel_rfl) (by kernel_rfl) (by kernel_rfl) (by decide) (by rw [g_want h rfl rfl rfl rfl hB7]; rfl) rfl (by decide) (fun a h => ?_)
          refine d_takeNP h (fun _ => HS) HN 18 rfl (by kernel_rfl) (by kernel_rfl) (by kernel_rfl) (by decide) (by rw [g_want h rfl rfl rfl rfl hB7]; rfl) rfl (by decide) (fun a h => ?_)
          refine d_takeNP h (fun _ => HS) HN 19 rfl (by kernel_rfl) (by kernel_rfl) (by kernel_rfl) (by decide) (by rw [g_want h rfl rfl rfl rfl hB7]; rfl) rfl (by decide) (fun a h => ?_)
          refine d_takeNP h (fun _ => HS) HN 20 rfl (by kernel_rfl) (by kernel_rfl) (by kernel_rfl) (by decide) (by rw [g_want h rfl rfl rfl rfl hB7]; rfl) rfl (by decide) (fun a h => ?_)
          refine d_takeNP h (fun _ => HS) HN 21 rfl (by kernel_rfl) (by kernel_rfl) (by kernel_rfl) (by decide) (by rw [g_want h rfl rfl rfl rfl hB7]; rfl) rfl (by decide) (fun a h => ?_)
          refine d_takeNP h (fun _ => HS) HN 22 rfl (by kernel_rfl) (by kernel_rfl) (by kernel_rfl) (by decide) (by rw [g_want h rfl rfl rfl rfl hB7]; rfl) rfl (by decide) (fun a h => ?_)
          refine d_takeNP h (fun _ => HS) HN 23 rfl (by kernel_rfl) (by kernel_rfl) (by kernel_rfl) (by decide) (by rw [g_want h rfl rfl rfl rfl hB7]; rfl) rfl (by decide) (fun a h => ?_)
          refine d_takeP h (fun _ => HS) HN 24 rfl (by kernel_rfl) (by kernel_rfl) (by kernel_rfl) (by decide) rfl rfl (by decide) (fun w' => x_pick (v := .bool z45) (u' := undef) h.k rfl rfl (fun _ => by rw [← Option.some.inj hz46]; rfl) (fun hh => absurd (hB7.symm.trans hh) (by decide))) (fun a h => ?_)
          refine d_takeP h (fun _ => HS) HN 25 rfl (by kernel_rfl) (by kernel_rfl) (by kernel_rfl) (by decide) rfl rfl (by decide) (fun w' => x_move h.k _ rfl rfl) (fun a h => ?_)
          refine d_split (t := 53) h rfl (fun hB25 => ?_) (fun hB25 => ?_)
          · rw [if_pos hB25] at hz69
            refine d_takeNP h (fun _ => HS) HN 26 rfl (by kernel_rfl) (by kernel_rfl) (by kernel_rfl) (by decide) (by rw [g_want h rfl rfl rfl rfl hB25]; rfl) rfl (by decide) (fun a h => ?_)
            refine d_takeNP h (fun _ => HS) HN 27 rfl (by kernel_rfl) (by kernel_rfl) (by kernel_rfl) (by decide) (by rw [g_want h rfl rfl rfl rfl hB25]; rfl) rfl (by decide) (fun a h => ?_)
            refine d_takeNP h (fun _ => HS) HN 28 rfl (by kernel_rfl) (by kernel_rfl) (by kernel_rfl) (by decide) (by rw [g_want h rfl rfl rfl rfl hB25]; rfl) rfl (by decide) (fun a h => ?_)
            refine d_takeNP h (fun _ => HS) HN 29 rfl (by kernel_rfl) (by kernel_rfl) (by kernel_rfl) (by decide) (by rw [g_want h rfl rfl rfl rfl hB25]; rfl) rfl (by decide) (fun a h => ?_)
            refine d_takeP h (fun _ => HS) HN 30 rfl (by kernel_rfl) (by kernel_rfl) (by kernel_rfl) (by decide) rfl rfl (by decide) (fun w' => x_pick (v := .bool z68) (u' := undef) h.k rfl rfl (fun _ => by rw [← Option.some.inj hz69]; rfl) (fun hh => absurd (hB25.symm.trans hh) (by decide))) (fun a h => ?_)
            refine d_done (by kernel_rfl) (HE _ _ ?_) _
            refine e_thenN ?_
            have h := h.pick [1, 0, 2] (by decide) rfl
            exact h.has (by exact ⟨rfl, rfl, rfl, rfl, rfl, trivial⟩)
          · rw [if_neg (by rw [hB25]; decide)] at hz69
            obtain ⟨x70, h71, hz69⟩ := bsome hz69
            refine d_takeY h HS HN 26 rfl (by kernel_rfl) (by kernel_rfl) (by kernel_rfl) (by kernel_rfl) (by kernel_rfl) (by rw [g_want h rfl rfl rfl rfl hB25]; rfl) rfl (by decide) (fun w' hw => x_ldR h.k rfl ag_api_Op rfl ([.int .i64 a0.1, .int .i64 a0.2.1, .int .i64 a0.2.2.1, .int .i64 a0.2.2.2.1, .int .i64 a0.2.2.2.2.1, .slice A18 a0.2.2.2.2.2.1.length c19, .slice A21 a0.2.2.2.2.2.2.length c22]) rfl (hw.range0 (i := 1) rfl)) (fun a h => ?_)
            refine d_takeY h HS HN 27 rfl (by kernel_rfl) (by kernel_rfl) (by kernel_rfl) (by kernel_rfl) (by kernel_rfl) (by rw [g_want h rfl rfl rfl rfl hB25]; rfl) rfl (by decide) (fun w' hw => x_ldR h.k rfl ag_api_Op rfl ([.int .i64 a0.1, .int .i64 a0.2.1, .int .i64 a0.2.2.1, .int .i64 a0.2.2.2.1, .int .i64 a0.2.2.2.2.1, .slice A18 a0.2.2.2.2.2.1.length c19, .slice A21 a0.2.2.2.2.2.2.length c22]) rfl (hw.range0 (i := 1) rfl)) (fun a h => ?_)
            refine d_alone 28 rfl (by kernel_rfl) (fun K hK => ?_)
            refine g_yes (j := 25) (t := 53) h rfl rfl rfl rfl hB25 ?_
            have hX := op_Same_ok Fu (S0 := snapAll _) ([.int .i64 a0.1, .int .i64 a0.2.1, .int .i64 a0.2.2.1, .int .i64 a0.2.2.2.1, .int .i64 a0.2.2.2.2.1, .slice A18 a0.2.2.2.2.2.1.length c19, .slice A21 a0.2.2.2.2.2.2.length c22]) a0 ((tyP tyI (tyP tyI (tyP tyI (tyP tyI (tyP tyI (tyP (tyL ty8) (tyL ty8))))))).mono (h.m.leAll (i := 2) rfl) (show (tyP tyI (tyP tyI (tyP tyI (tyP tyI (tyP tyI (tyP (tyL ty8) (tyL ty8))))))).rep S0 ([.int .i64 a0.1, .int .i64 a0.2.1, .int .i64 a0.2.2.1, .int .i64 a0.2.2.2.1, .int .i64 a0.2.2.2.2.1, .slice A18 a0.2.2.2.2.2.1.length c19, .slice A21 a0.2.2.2.2.2.2.length c22]) a0 from ⟨[.int .i64 a0.1], [.int .i64 a0.2.1, .int .i64 a0.2.2.1, .int .i64 a0.2.2.2.1, .int .i64 a0.2.2.2.2.1, .slice A18 a0.2.2.2.2.2.1.length c19, .slice A21 a0.2.2.2.2.2.2.length c22], rfl, ⟨rfl, hr3⟩, ⟨[.int .i64 a0.2.1], [.int .i64 a0.2.2.1, .int .i64 a0.2.2.2.1, .int .i64 a0.2.2.2.2.1, .slice A18 a0.2.2.2.2.2.1.length c19, .slice A21 a0.2.2.2.2.2.2.length c22], rfl, ⟨rfl, hr6⟩, ⟨[.int .i64 a0.2.2.1], [.int .i64 a0.2.2.2.1, .int .i64 a0.2.2.2.2.1, .slice A18 a0.2.2.2.2.2.1.length c19, .slice A21 a0.2.2.2.2.2.2.length c22], rfl, ⟨rfl, hr9⟩, ⟨[.int .i64 a0.2.2.2.1], [.int .i64 a0.2.2.2.2.1, .slice A18 a0.2.2.2.2.2.1.length c19, .slice A21 a0.2.2.2.2.2.2.length c22], rfl, ⟨rfl, hr12⟩, ⟨[.int .i64 a0.2.2.2.2.1], [.slice A18 a0.2.2.2.2.2.1.length c19, .slice A21 a0.2.2.2.2.2.2.length c22], rfl, ⟨rfl, hr15⟩, ⟨[.slice A18 a0.2.2.2.2.2.1.length c19], [.slice A21 a0.2.2.2.2.2.2.length c22], rfl, ⟨_, _, rfl, hs20⟩, ⟨_, _, rfl, hs23⟩⟩⟩⟩⟩⟩⟩)) ([.int .i64 a0.1, .int .i64 a0.2.1, .int .i64 a0.2.2.1, .int .i64 a0.2.2.2.1, .int .i64 a0.2.2.2.2.1, .slice A18 a0.2.2.2.2.2.1.length c19, .slice A21 a0.2.2.2.2.2.2.length c22]) a0 ((tyP tyI (tyP tyI (tyP tyI (tyP tyI (tyP tyI (tyP (tyL ty8) (tyL ty8))))))).mono (h.m.leAll (i := 2) rfl) (show (tyP tyI (tyP tyI (tyP tyI (tyP tyI (tyP tyI (tyP (tyL ty8) (tyL ty8))))))).rep S0 ([.int .i64 a0.1, .int .i64 a0.2.1, .int .i64 a0.2.2.1, .int .i64 a0.2.2.2.1, .int .i64 a0.2.2.2.2.1, .slice A18 a0.2.2.2.2.2.1.length c19, .slice A21 a0.2.2.2.2.2.2.length c22]) a0 from ⟨[.int .i64 a0.1], [.int .i64 a0.2.1, .int .i64 a0.2.2.1, .int .i64 a0.2.2.2.1, .int .i64 a0.2.2.2.2.1, .slice A18 a0.2.2.2.2.2.1.length c19, .slice A21 a0.2.2.2.2.2.2.length c22], rfl, ⟨rfl, hr3⟩, ⟨[.int .i64 a0.2.1], [.int .i64 a0.2.2.1, .int .i64 a0.2.2.2.1, .int .i64 a0.2.2.2.2.1, .slice A18 a0.2.2.2.2.2.1.length c19, .slice A21 a0.2.2.2.2.2.2.length c22], rfl, ⟨rfl, hr6⟩, ⟨[.int .i64 a0.2.2.1], [.int .i64 a0.2.2.2.1, .int .i64 a0.2.2.2.2.1, .slice A18 a0.2.2.2.2.2.1.length c19, .slice A21 a0.2.2.2.2.2.2.length c22], rfl, ⟨rfl, hr9⟩, ⟨[.int .i64 a0.2.2.2.1], [.int .i64 a0.2.2.2.2.1, .slice A18 a0.2.2.2.2.2.1.length c19, .slice A21 a0.2.2.2.2.2.2.length c22], rfl, ⟨rfl, hr12⟩, ⟨[.int .i64 a0.2.2.2.2.1], [.slice A18 a0.2.2.2.2.2.1.length c19, .slice A21 a0.2.2.2.2.2.2.length c22], rfl, ⟨rfl, hr15⟩, ⟨[.slice A18 a0.2.2.2.2.2.1.length c19], [.slice A21 a0.2.2.2.2.2.2.length c22], rfl, ⟨_, _, rfl, hs20⟩, ⟨_, _, rfl, hs23⟩⟩⟩⟩⟩⟩⟩)) _ h71 _ h.startAll
            refine q_callX hX h rfl rfl rfl (by decide) Try.func18 rfl rfl rfl (fun a w v L1 S1 hR hb1 h => ?_)
            obtain ⟨rfl, rfl, _⟩ := hR
            refine hK _ _ (fun _ _ => HS.ext hb1) ?_
            replace HS := HS.ext hb1
            clear hK
            refine d_takeP h (fun _ => HS) HN 29 rfl (by kernel_rfl) (by kernel_rfl) (by kernel_rfl) (by decide) (by rw [g_want h rfl rfl rfl rfl hB25]; rfl) rfl (by decide) (fun w' => x_not h.k rfl rfl) (fun a h => ?_)
            refine d_takeP h (fun _ => HS) HN 30 rfl (by kernel_rfl) (by kernel_rfl) (by kernel_rfl) (by decide) rfl rfl (by decide) (fun w' => x_pick (v := .bool z68) (u' := undef) h.k rfl rfl (fun hh => absurd (hB25.symm.trans hh) (by decide)) (fun _ => by rw [← Option.some.inj hz69]; rfl)) (fun a h => ?_)
            refine d_done (by kernel_rfl) (HE _ _ ?_) _
            refine e_thenN ?_
            have h := h.pick [1, 0, 2] (by decide) rfl
            exact h.has (by exact ⟨rfl, rfl, rfl, rfl, rfl, trivial⟩)
        · rw [if_neg (by rw [hB7]; decide)] at hz46
          obtain ⟨x47, h48, hz46⟩ := bsome hz46
          refine d_takeY h HS HN 8 rfl (by kernel_rfl) (by kernel_rfl) (by kernel_rfl) (by kernel_rfl) (by kernel_rfl) (by rw [g_want h rfl rfl rfl rfl hB7]; rfl) rfl (by decide) (fun w' hw => x_ldR h.k rfl ag_api_Op rfl ([.int .i64 a0.1, .int .i64 a0.2.1, .int .i64 a0.2.2.1, .int .i64 a0.2.2.2.1, .int .i64 a0.2.2.2.2.1, .slice A18 a0.2.2.2.2.2.1.length c19, .slice A21 a0.2.2.2.2.2.2.length c22]) rfl (hw.range0 (i := 1) rfl)) (fun a h => ?_)
          refine d_takeP h (fun _ => HS) HN 9 rfl (by kernel_rfl) (by kernel_rfl) (by kernel_rfl) (by decide) (by rw [g_want h rfl rfl rfl rfl hB7]; rfl) rfl (by decide) (fun w' => x_move h.k _ rfl rfl) (fun a h => ?_)
          refine d_takeP h (fun _ => HS) HN 11 rfl (by kernel_rfl) (by kernel_rfl) (by kernel_rfl) (by decide) (by rw [g_want h rfl rfl rfl rfl hB7]; rfl) rfl (by decide) (fun w' => x_move h.k _ rfl rfl) (fun a h => ?_)
          refine d_takeP h (fun _ => HS) HN 12 rfl (by kernel_rfl) (by kernel_rfl) (by kernel_rfl) (by decide) (by rw [g_want h rfl rfl rfl rfl hB7]; rfl) rfl (by decide) (fun w' => x_faddr h.k rfl Try.underlying24 rfl sz_int rfl) (fun a h => ?_)
          refine d_takeY h HS HN 13 rfl (by kernel_rfl) (by kernel_rfl) (by kernel_rfl) (by kernel_rfl) (by kernel_rfl) (by rw [g_want h rfl rfl rfl rfl hB7]; rfl) rfl (by decide) (fun w' hw => x_ld h.k rfl Try.underlying3 rfl rfl ((hw.cell (i := 1) rfl 0).trans rfl)) (fun a h => ?_)
          refine d_takeP h (fun _ => HS) HN 14 rfl (by kernel_rfl) (by kernel_rfl) (by kernel_rfl) (by decide) (by rw [g_want h rfl rfl rfl rfl hB7]; rfl) rfl (by decide) (fun w' => x_faddr h.k rfl Try.underlying24 rfl sz_int rfl) (fun a h => ?_)
          refine d_takeY h HS HN 15 rfl (by kernel_rfl) (by kernel_rfl) (by kernel_rfl) (by kernel_rfl) (by kernel_rfl) (by rw [g_want h rfl rfl rfl rfl hB7]; rfl) rfl (by decide) (fun w' hw => x_ld h.k rfl Try.underlying3 rfl rfl ((hw.cell (i := 1) rfl 1).trans rfl)) (fun a h => ?_)
          refine d_takeP h (fun _ => HS) HN 16 rfl (by kernel_rfl) (by kernel_rfl) (by kernel_rfl) (by decide) (by rw [g_want h rfl rfl rfl rfl hB7]; rfl) rfl (by decide) (fun w' => x_faddr h.k rfl Try.underlying24 rfl sz_int rfl) (fun a h => ?_)
          refine d_takeY h HS HN 17 rfl (by kernel_rfl) (by kernel_rfl) (by kernel_rfl) (by kernel_rfl) (by kernel_rfl) (by rw [g_want h rfl rfl rfl rfl hB7]; rfl) rfl (by decide) (fun w' hw => x_ld h.k rfl Try.underlying3 rfl rfl ((hw.cell (i := 1) rfl 2).trans rfl)) (fun a h => ?_)
          refine d_takeP h (fun _ => HS) HN 18 rfl (by kernel_rfl) (by kernel_rfl) (by kernel_rfl) (by decide) (by rw [g_want h rfl rfl rfl rfl hB7]; rfl) rfl (by decide) (fun w' => x_faddr h.k rfl Try.underlying24 rfl sz_int rfl) (fun a h => ?_)
          refine d_takeY h HS HN 19 rfl (by kernel_rfl) (by kernel_rfl) (by kernel_rfl) (by kernel_rfl) (by kernel_rfl) (by rw [g_want h rfl rfl rfl rfl hB7]; rfl) rfl (by decide) (fun w' hw => x_ld h.k rfl Try.underlying3 rfl rfl ((hw.cell (i := 1) rfl 3).trans rfl)) (fun a h => ?_)
          refine d_takeP h (fun _ => HS) HN 20 rfl (by kernel_rfl) (by kernel_rfl) (by kernel_rfl) (by decide) (by rw [g_want h rfl rfl rfl rfl hB7]; rfl) rfl (by decide) (fun w' => x_faddr h.k rfl Try.underlying24 rfl sz_int rfl) (fun a h => ?_)
          refine d_takeY h HS HN 21 rfl (by kernel_rfl) (by kernel_rfl) (by kernel_rfl) (by kernel_rfl) (by kernel_rfl) (by rw [g_want h rfl rfl rfl rfl hB7]; rfl) rfl (by decide) (fun w' hw => x_ld h.k rfl Try.underlying3 rfl rfl ((hw.cell (i := 1) rfl 4).trans rfl)) (fun a h => ?_)
          refine d_takeP h (fun _ => HS) HN 22 rfl (by kernel_rfl) (by kernel_rfl) (by kernel_rfl) (by decide) (by rw [g_want h rfl rfl rfl rfl hB7]; rfl) rfl (by decide) (fun w' => x_build h.k rfl [(0, .int .i64 a2), (1, .int .i64 a0.1), (2, .int .i64 a0.2.1), (3, .int .i64 a0.2.2.1), (4, .int .i64 a0.2.2.2.1), (5, .int .i64 a0.2.2.2.2.1)] rfl ([.int .i64 a2, .int .i64 a0.1, .int .i64 a0.2.1, .int .i64 a0.2.2.1, .int .i64 a0.2.2.2.1, .int .i64 a0.2.2.2.2.1]) (by kernel_rfl)) (fun a h => ?_)
          refine d_alone 10 rfl (by kernel_rfl) (fun K hK => ?_)
          refine g_yes (j := 7) (t := 35) h rfl rfl rfl rfl hB7 ?_
          have hX := op_Record_ok Fu (S0 := snapAll _) ([.int .i64 a0.1, .int .i64 a0.2.1, .int .i64 a0.2.2.1, .int .i64 a0.2.2.2.1, .int .i64 a0.2.2.2.2.1, .slice A18 a0.2.2.2.2.2.1.length c19, .slice A21 a0.2.2.2.2.2.2.length c22]) a0 ((tyP tyI (tyP tyI (tyP tyI (tyP tyI (tyP tyI (tyP (tyL ty8) (tyL ty8))))))).mono (h.m.leAll (i := 2) rfl) (show (tyP tyI (tyP tyI (tyP tyI (tyP tyI (tyP tyI (tyP (tyL ty8) (tyL ty8))))))).rep S0 ([.int .i64 a0.1, .int .i64 a0.2.1, .int .i64 a0.2.2.1, .int .i64 a0.2.2.2.1, .int .i64 a0.2.2.2.2.1, .slice A18 a0.2.2.2.2.2.1.length c19, .slice A21 a0.2.2.2.2.2.2.length c22]) a0 from ⟨[.int .i64 a0.1], [.int .i64 a0.2.1, .int .i64 a0.2.2.1, .int .i64 a0.2.2.2.1, .int .i64 a0.2.2.2.2.1, .slice A18 a0.2.2.2.2.2.1.length c19, .slice A21 a0.2.2.2.2.2.2.length c22], rfl, ⟨rfl, hr3⟩, ⟨[.int .i64 a0.2.1], [.int .i64 a0.2.2.1, .int .i64 a0.2.2.2.1, .int .i64 a0.2.2.2.2.1, .slice A18 a0.2.2.2.2.2.1.length c19, .slice A21 a0.2.2.2.2.2.2.length c22], rfl, ⟨rfl, hr6⟩, ⟨[.int .i64 a0.2.2.1], [.int .i64 a0.2.2.2.1, .int .i64 a0.2.2.2.2.1, .slice A18 a0.2.2.2.2.2.1.length c19, .slice A21 a0.2.2.2.2.2.2.length c22], rfl, ⟨rfl, hr9⟩, ⟨[.int .i64 a0.2.2.2.1], [.int .i64 a0.2.2.2.2.1, .slice A18 a0.2.2.2.2.2.1.length c19, .slice A21 a0.2.2.2.2.2.2.length c22], rfl, ⟨rfl, hr12⟩, ⟨[.int .i64 a0.2.2.2.2.1], [.slice A18 a0.2.2.2.2.2.1.length c19, .slice A21 a0.2.2.2.2.2.2.length c22], rfl, ⟨rfl, hr15⟩, ⟨[.slice A18 a0.2.2.2.2.2.1.length c19], [.slice A21 a0.2.2.2.2.2.2.length c22], rfl, ⟨_, _, rfl, hs20⟩, ⟨_, _, rfl, hs23⟩⟩⟩⟩⟩⟩⟩)) a2 hra2 _ h48 _ h.startAll
          refine q_callX hX h rfl rfl rfl (by decide) Try.func17 rfl rfl rfl (fun a w v L1 S1 hR hb1 h => ?_)
          obtain ⟨k50, rfl, rfl, hv51, _⟩ := hR
          obtain ⟨k52, k53, rfl, ⟨rfl, hr54⟩, ⟨k55, k56, rfl, ⟨rfl, hr57⟩, ⟨k58, k59, rfl, ⟨rfl, hr60⟩, ⟨k61, k62, rfl, ⟨rfl, hr63⟩, ⟨k64, k65, rfl, ⟨rfl, hr66⟩, ⟨rfl, hr67⟩⟩⟩⟩⟩⟩ := hv51
          refine hK _ _ (fun _ _ => HS.ext hb1) ?_
          replace HS := HS.ext hb1
          clear hK
          refine d_takeP h (fun _ => HS) HN 23 rfl (by kernel_rfl) (by kernel_rfl) (by kernel_rfl) (by decide) (by rw [g_want h rfl rfl rfl rfl hB7]; rfl) rfl (by decide) (fun w' => x_neqS h.k rfl rfl rfl gd_api_Record (eqs_api_Record _ x47 (a2, a0.1, a0.2.1, a0.2.2.1, a0.2.2.2.1, a0.2.2.2.2.1))) (fun a h => ?_)
          refine d_takeP h (fun _ => HS) HN 24 rfl (by kernel_rfl) (by kernel_rfl) (by kernel_rfl) (by decide) rfl rfl (by decide) (fun w' => x_pick (v := .bool z45) (u' := undef) h.k rfl rfl (fun hh => absurd (hB7.symm.trans hh) (by decide)) (fun _ => by rw [← Option.some.inj hz46]; rfl)) (fun a h => ?_)
          refine d_takeP h (fun _ => HS) HN 25 rfl (by kernel_rfl) (by kernel_rfl) (by kernel_rfl) (by decide) rfl rfl (by decide) (fun w' => x_move h.k _ rfl rfl) (fun a h => ?_)
          refine d_split (t := 53) h rfl (fun hB25 => ?_) (fun hB25 => ?_)
          · rw [if_pos hB25] at hz69
            refine d_takeNP h (fun _ => HS) HN 26 rfl (by kernel_rfl) (by kernel_rfl) (by kernel_rfl) (by decide) (by rw [g_want h rfl rfl rfl rfl hB25]; rfl) rfl (by decide) (fun a h => ?_)
            refine d_takeNP h (fun _ => HS) HN 27 rfl (by kernel_rfl) (by kernel_rfl) (by kernel_rfl) (by decide) (by rw [g_want h rfl rfl rfl rfl hB25]; rfl) rfl (by decide) (fun a h => ?_)
            refine d_takeNP h (fun _ => HS) HN 28 rfl (by kernel_rfl) (by kernel_rfl) (by kernel_rfl) (by decide) (by rw [g_want h rfl rfl rfl rfl hB25]; rfl) rfl (by decide) (fun a h => ?_)
            refine d_takeNP h (fun _ => HS) HN 29 rfl (by kernel_rfl) (by kernel_rfl) (by kernel_rfl) (by decide) (by rw [g_want h rfl rfl rfl rfl hB25]; rfl) rfl (by decide) (fun a h => ?_)
            refine d_takeP h (fun _ => HS) HN 30 rfl (by kernel_rfl) (by kernel_rfl) (by kernel_rfl) (by decide) rfl rfl (by decide) (fun w' => x_pick (v := .bool z68) (u' := undef) h.k rfl rfl (fun _ => by rw [← Option.some.inj hz69]; rfl) (fun hh => absurd (hB25.symm.trans hh) (by decide))) (fun a h => ?_)
            refine d_done (by kernel_rfl) (HE _ _ ?_) _
            refine e_thenN ?_
            have h := h.pick [1, 0, 2] (by decide) rfl
            exact h.has (by exact ⟨rfl, rfl, rfl, rfl, rfl, trivial⟩)
          · rw [if_neg (by rw [hB25]; decide)] at hz69
            obtain ⟨x70, h71, hz69⟩ := bsome hz69
            refine d_takeY h HS HN 26 rfl (by kernel_rfl) (by kernel_rfl) (by kernel_rfl) (by kernel_rfl) (by kernel_rfl) (by rw [g_want h rfl rfl rfl rfl hB25]; rfl) rfl (by decide) (fun w' hw => x_ldR h.k rfl ag_api_Op rfl ([.int .i64 a0.1, .int .i64 a0.2.1, .int .i64 a0.2.2.1, .int .i64 a0.2.2.2.1, .int .i64 a0.2.2.2.2.1, .slice A18 a0.2.2.2.2.2.1.length c19, .slice A21 a0.2.2.2.2.2.2.length c22]) rfl (hw.range0 (i := 1) rfl)) (fun a h => ?_)
            refine d_takeY h HS HN 27 rfl (by kernel_rfl) (by kernel_rfl) (by kernel_rfl) (by kernel_rfl) (by kernel_rfl) (by rw [g_want h rfl rfl rfl rfl hB25]; rfl) rfl (by decide) (fun w' hw => x_ldR h.k rfl ag_api_Op rfl ([.int .i64 a0.1, .int .i64 a0.2.1, .int .i64 a0.2.2.1, .int .i64 a0.2.2.2.1, .int .i64 a0.2.2.2.2.1, .slice A18 a0.2.2.2.2.2.1.length c19, .slice A21 a0.2.2.2.2.2.2.length c22]) rfl (hw.range0 (i := 1) rfl)) (fun a h => ?_)
            refine d_alone 28 rfl (by kernel_rfl) (fun K hK => ?_)
            refine g_yes (j := 25) (t := 53) h rfl rfl rfl rfl hB25 ?_
            have hX := op_Same_ok Fu (S0 := snapAll _) ([.int .i64 a0.1, .int .i64 a0.2.1, .int .i64 a0.2.2.1, .int .i64 a0.2.2.2.1, .int .i64 a0.2.2.2.2.1, .slice A18 a0.2.2.2.2.2.1.length c19, .slice A21 a0.2.2.2.2.2.2.length c22]) a0 ((tyP tyI (tyP tyI (tyP tyI (tyP tyI (tyP tyI (tyP (tyL ty8) (tyL ty8))))))).mono (h.m.leAll (i := 2) rfl) (show (tyP tyI (tyP tyI (tyP tyI (tyP tyI (tyP tyI (tyP (tyL ty8) (tyL ty8))))))).rep S0 ([.int .i64 a0.1, .int .i64 a0.2.1, .int .i64 a0.2.2.1, .int .i64 a0.2.2.2.1, .int .i64 a0.2.2.2.2.1, .slice A18 a0.2.2.2.2.2.1.length c19, .slice A21 a0.2.2.2.2.2.2.length c22]) a0 from ⟨[.int .i64 a0.1], [.int .i64 a0.2.1, .int .i64 a0.2.2.1, .int .i64 a0.2.2.2.1, .int .i64 a0.2.2.2.2.1, .slice A18 a0.2.2.2.2.2.1.length c19, .slice A21 a0.2.2.2.2.2.2.length c22], rfl, ⟨rfl, hr3⟩, ⟨[.int .i64 a0.2.1], [.int .i64 a0.2.2.1, .int .i64 a0.2.2.2.1, .int .i64 a0.2.2.2.2.1, .slice A18 a0.2.2.2.2.2.1.length c19, .slice A21 a0.2.2.2.2.2.2.length c22], rfl, ⟨rfl, hr6⟩, ⟨[.int .i64 a0.2.2.1], [.int .i64 a0.2.2.2.1, .int .i64 a0.2.2.2.2.1, .slice A18 a0.2.2.2.2.2.1.length c19, .slice A21 a0.2.2.2.2.2.2.length c22], rfl, ⟨rfl, hr9⟩, ⟨[.int .i64 a0.2.2.2.1], [.int .i64 a0.2.2.2.2.1, .slice A18 a0.2.2.2.2.2.1.length c19, .slice A21 a0.2.2.2.2.2.2.length c22], rfl, ⟨rfl, hr12⟩, ⟨[.int .i64 a0.2.2.2.2.1], [.slice A18 a0.2.2.2.2.2.1.length c19, .slice A21 a0.2.2.2.2.2.2.length c22], rfl, ⟨rfl, hr15⟩, ⟨[.slice A18 a0.2.2.2.2.2.1.length c19], [.slice A21 a0.2.2.2.2.2.2.length c22], rfl, ⟨_, _, rfl, hs20⟩, ⟨_, _, rfl, hs23⟩⟩⟩⟩⟩⟩⟩)) ([.int .i64 a0.1, .int .i64 a0.2.1, .int .i64 a0.2.2.1, .int .i64 a0.2.2.2.1, .int .i64 a0.2.2.2.2.1, .slice A18 a0.2.2.2.2.2.1.length c19, .slice A21 a0.2.2.2.2.2.2.length c22]) a0 ((tyP tyI (tyP tyI (tyP tyI (tyP tyI (tyP tyI (tyP (tyL ty8) (tyL ty8))))))).mono (h.m.leAll (i := 2) rfl) (show (tyP tyI (tyP tyI (tyP tyI (tyP tyI (tyP tyI (tyP (tyL ty8) (tyL ty8))))))).rep S0 ([.int .i64 a0.1, .int .i64 a0.2.1, .int .i64 a0.2.2.1, .int .i64 a0.2.2.2.1, .int .i64 a0.2.2.2.2.1, .slice A18 a0.2.2.2.2.2.1.length c19, .slice A21 a0.2.2.2.2.2.2.length c22]) a0 from ⟨[.int .i64 a0.1], [.int .i64 a0.2.1, .int .i64 a0.2.2.1, .int .i64 a0.2.2.2.1, .int .i64 a0.2.2.2.2.1, .slice A18 a0.2.2.2.2.2.1.length c19, .slice A21 a0.2.2.2.2.2.2.length c22], rfl, ⟨rfl, hr3⟩, ⟨[.int .i64 a0.2.1], [.int .i64 a0.2.2.1, .int .i64 a0.2.2.2.1, .int .i64 a0.2.2.2.2.1, .slice A18 a0.2.2.2.2.2.1.length c19, .slice A21 a0.2.2.2.2.2.2.length c22], rfl, ⟨rfl, hr6⟩, ⟨[.int .i64 a0.2.2.1], [.int .i64 a0.2.2.2.1, .int .i64 a0.2.2.2.2.1, .slice A18 a0.2.2.2.2.2.1.length c19, .slice A21 a0.2.2.2.2.2.2.length c22], rfl, ⟨rfl, hr9⟩, ⟨[.int .i64 a0.2.2.2.1], [.int .i64 a0.2.2.2.2.1, .slice A18 a0.2.2.2.2.2.1.length c19, .slice A21 a0.2.2.2.2.2.2.length c22], rfl, ⟨rfl, hr12⟩, ⟨[.int .i64 a0.2.2.2.2.1], [.slice A18 a0.2.2.2.2.2.1.length c19, .slice A21 a0.2.2.2.2.2.2.length c22], rfl, ⟨rfl, hr15⟩, ⟨[.slice A18 a0.2.2.2.2.2.1.length c19], [.slice A21 a0.2.2.2.2.2.2.length c22], rfl, ⟨_, _, rfl, hs20⟩, ⟨_, _, rfl, hs23⟩⟩⟩⟩⟩⟩⟩)) _ h71 _ h.startAll
            refine q_callX hX h rfl rfl rfl (by decide) Try.func18 rfl rfl rfl (fun a w v L1 S1 hR hb1 h => ?_)
            obtain ⟨rfl, rfl, _⟩ := hR
            refine hK _ _ (fun _ _ => HS.ext hb1) ?_
            replace HS := HS.ext hb1
            clear hK
            refine d_takeP h (fun _ => HS) HN 29 rfl (by kernel_rfl) (by kernel_rfl) (by kernel_rfl) (by decide) (by rw [g_want h rfl rfl rfl rfl hB25]; rfl) rfl (by decide) (fun w' => x_not h.k rfl rfl) (fun a h => ?_)
            refine d_takeP h (fun _ => HS) HN 30 rfl (by kernel_rfl) (by kernel_rfl) (by kernel_rfl) (by decide) rfl rfl (by decide) (fun w' => x_pick (v := .bool z68) (u' := undef) h.k rfl rfl (fun hh => absurd (hB25.symm.trans hh) (by decide)) (fun _ => by rw [← Option.some.inj hz69]; rfl)) (fun a h => ?_)
            refine d_done (by kernel_rfl) (HE _ _ ?_) _
            refine e_thenN ?_
            have h := h.pick [1, 0, 2] (by decide) rfl
            exact h.has (by exact ⟨rfl, rfl, rfl, rfl, rfl, trivial⟩)
      refine e_thenN ?_
      refine c_cond h rfl (fun hb => ?_) (fun hb => ?_)
      · rw [if_pos hb] at hf
        refine c_rs ?_ -- region 7
        refine s_assign h rfl _ rfl rfl (by decide) rfl (fun a h => ?_)
        refine l_end ?_
        refine wp_ret ?_
        refine e_thenR ?_
        rw [← Option.some.inj hf]
        exact r_ret1 h rfl (rv_tmp h rfl) ⟨_, [], _, rfl, ⟨rfl, rfl, trivial⟩, rfl, (Up.refl _ _ _), (h.m.pick [2] _ (by decide) rfl)⟩
      · rw [if_neg (by rw [hb]; decide)] at hf
        refine wp_skip ?_
        refine e_thenN ?_
        refine c_rs ?_ -- region 8
        refine s_x h rfl rfl (by decide) (x_faddr h.k rfl Try.underlying24 rfl sz_int rfl) (fun a h => ?_)
        refine s_x h rfl rfl (by decide) (x_ld h.k rfl Try.underlying3 rfl rfl ((h.m.cell (i := 0) rfl 0).trans rfl)) (fun a h => ?_)
        refine s_assign h rfl _ rfl rfl (by decide) rfl (fun a h => ?_)
        refine l_end ?_
        refine wp_seq ?_
        refine c_rs ?_ -- region 9
        refine s_move h rfl _ rfl rfl (by decide) rfl (fun a h => ?_)
        obtain ⟨x73, h74, hf⟩ := bsome hf
        have hX := op_Changes_ok Fu (S0 := snapAll _) a0.1 hr3 _ h74 _ h.startAll
        refine q_callX hX h rfl rfl rfl (by decide) Try.func19 rfl rfl rfl (fun a w v L1 S1 hR hb1 h => ?_)
        obtain ⟨rfl, rfl, _⟩ := hR
        refine s_move h rfl _ rfl rfl (by decide) rfl (fun a h => ?_)
        refine s_x h rfl rfl (by decide) (x_bin h.k rfl rfl rfl ib_geq) (fun a h => ?_)
        refine s_move h rfl _ rfl rfl (by decide) rfl (fun a h => ?_)
        refine q_grp h 3 (t := 65) 68 ((decide (1 ≤ a0.1)) && (decide (a0.1 ≤ 10))) rfl (fun hB4 => ?_) (fun hB4 => ?_) (fun a w h => ?_)
        · refine g_yes h rfl rfl rfl rfl hB4 ?_
          refine s_move h rfl _ rfl rfl (by decide) rfl (fun a h => ?_)
          refine g_yes h rfl rfl rfl rfl hB4 ?_
          refine s_x h rfl rfl (by decide) (x_bin h.k rfl rfl rfl ib_leq) (fun a h => ?_)
          refine s_x h rfl rfl (by decide) (x_pick (u' := undef) h.k rfl rfl (fun _ => rfl) (fun hh => absurd (hB4.symm.trans hh) (by decide))) (fun a h => ?_)
          exact (h.mid 2 rfl).val (by first | rfl | (rw [hB4]; first | rfl | simp))
        · refine g_no h rfl rfl rfl rfl hB4 rfl (by decide) (fun a h => ?_)
          refine g_no h rfl rfl rfl rfl hB4 rfl (by decide) (fun a h => ?_)
          refine s_x h rfl rfl (by decide) (x_pick (u' := undef) h.k rfl rfl (fun hh => absurd (hB4.symm.trans hh) (by decide)) (fun _ => rfl)) (fun a h => ?_)
          exact (h.mid 2 rfl).val (by first | rfl | (rw [hB4]; first | rfl | simp))
        refine s_move h rfl _ rfl rfl (by decide) rfl (fun a h => ?_)
        refine q_grp h 3 (t := 69) 72 (((decide (1 ≤ a0.1)) && (decide (a0.1 ≤ 10))) && (decide (a0.1 ≠ 6))) rfl (fun hB8 => ?_) (fun hB8 => ?_) (fun a w h => ?_)
        · refine g_yes h rfl rfl rfl rfl hB8 ?_
          refine s_move h rfl _ rfl rfl (by decide) rfl (fun a h => ?_)
          refine g_yes h rfl rfl rfl rfl hB8 ?_
          refine s_x h rfl rfl (by decide) (x_bin h.k rfl rfl rfl ib_neq) (fun a h => ?_)
          refine s_x h rfl rfl (by decide) (x_pick (u' := undef) h.k rfl rfl (fun _ => rfl) (fun hh => absurd (hB8.symm.trans hh) (by decide))) (fun a h => ?_)
          exact (h.mid 2 rfl).val (by first | rfl | (rw [hB8]; first | rfl | simp))
        · refine g_no h rfl rfl rfl rfl hB8 rfl (by decide) (fun a h => ?_)
          refine g_no h rfl rfl rfl rfl hB8 rfl (by decide) (fun a h => ?_)
          refine s_x h rfl rfl (by decide) (x_pick (u' := undef) h.k rfl rfl (fun hh => absurd (hB8.symm.trans hh) (by decide)) (fun _ => rfl)) (fun a h => ?_)
          exact (h.mid 2 rfl).val (by first | rfl | (rw [hB8]; first | rfl | simp))
        refine s_move h rfl _ rfl rfl (by decide) rfl (fun a h => ?_)
        refine q_grp h 3 (t := 73) 76 ((((decide (1 ≤ a0.1)) && (decide (a0.1 ≤ 10))) && (decide (a0.1 ≠ 6))) && (decide (a0.1 ≠ 7))) rfl (fun hB12 => ?_) (fun hB12 => ?_) (fun a w h => ?_)
        · refine g_yes h rfl rfl rfl rfl hB12 ?_
          refine s_move h rfl _ rfl rfl (by decide) rfl (fun a h => ?_)
          refine g_yes h rfl rfl rfl rfl hB12 ?_
          refine s_x h rfl rfl (by decide) (x_bin h.k rfl rfl rfl ib_neq) (fun a h => ?_)
          refine s_x h rfl rfl (by decide) (x_pick (u' := undef) h.k rfl rfl (fun _ => rfl) (fun hh => absurd (hB12.symm.trans hh) (by decide))) (fun a h => ?_)
          exact (h.mid 2 rfl).val (by first | rfl | (rw [hB12]; first | rfl | simp))
        · refine g_no h rfl rfl rfl rfl hB12 rfl (by decide) (fun a h => ?_)
          refine g_no h rfl rfl rfl rfl hB12 rfl (by decide) (fun a h => ?_)
          refine s_x h rfl rfl (by decide) (x_pick (u' := undef) h.k rfl rfl (fun hh => absurd (hB12.symm.trans hh) (by decide)) (fun _ => rfl)) (fun a h => ?_)
          exact (h.mid 2 rfl).val (by first | rfl | (rw [hB12]; first | rfl | simp))
        refine s_x h rfl rfl (by decide) (x_neqB h.k rfl Try.underlying4 rfl rfl) (fun a h => ?_)
        refine s_move h rfl _ rfl rfl (by decide) rfl (fun a h => ?_)
        obtain ⟨z83, hz82, hf⟩ := bsome hf
        refine q_grp h 14 (t := 78) 92 z83 rfl (fun hB17 => ?_) (fun hB17 => ?_) (fun a w h => ?_)
        · refine g_no h rfl rfl rfl rfl hB17 rfl (by decide) (fun a h => ?_)
          refine g_no h rfl rfl rfl rfl hB17 rfl (by decide) (fun a h => ?_)
          refine g_no h rfl rfl rfl rfl hB17 rfl (by decide) (fun a h => ?_)
          refine g_no h rfl rfl rfl rfl hB17 rfl (by decide) (fun a h => ?_)
          refine g_no h rfl rfl rfl rfl hB17 rfl (by decide) (fun a h => ?_)
          refine g_off h rfl rfl rfl rfl rfl (by decide) (fun a h => ?_)
          refine g_off h rfl rfl rfl rfl rfl (by decide) (fun a h => ?_)
          refine g_no h rfl rfl rfl rfl hB17 rfl (by decide) (fun a h => ?_)
          refine g_no h rfl rfl rfl rfl hB17 rfl (by decide) (fun a h => ?_)
          refine g_off h rfl rfl rfl rfl rfl (by decide) (fun a h => ?_)
          refine g_off h rfl rfl rfl rfl rfl (by decide) (fun a h => ?_)
          refine g_no h rfl rfl rfl rfl hB17 rfl (by decide) (fun a h => ?_)
          refine g_no h rfl rfl rfl rfl hB17 rfl (by decide) (fun a h => ?_)
          rw [if_pos hB17] at hz82
          refine s_x h rfl rfl (by decide) (x_pick (u' := undef) h.k rfl rfl (fun _ => rfl) (fun hh => absurd (hB17.symm.trans hh) (by decide))) (fun a h => ?_)
          exact (h.mid 13 rfl).val (by rw [Option.some.inj hz82])
        · rw [if_neg (by rw [hB17]; decide)] at hz82
          refine g_yes h rfl rfl rfl rfl hB17 ?_
          refine s_move h rfl _ rfl rfl (by decide) rfl (fun a h => ?_)
          refine g_yes h rfl rfl rfl rfl hB17 ?_
          obtain ⟨x85, h86, hz82⟩ := bsome hz82
          have hX := op_Draws_ok Fu (S0 := snapAll _) a0.1 hr3 _ h86 _ h.startAll
          refine q_callX hX h rfl rfl rfl (by decide) Try.func20 rfl rfl rfl (fun a w v L1 S1 hR hb1 h => ?_)
          obtain ⟨rfl, rfl, _⟩ := hR
          refine g_yes h rfl rfl rfl rfl hB17 ?_
          refine s_move h rfl _ rfl rfl (by decide) rfl (fun a h => ?_)
          refine g_yes h rfl rfl rfl rfl hB17 ?_
          refine s_x h rfl rfl (by decide) (x_bin h.k rfl rfl rfl ib_geq) (fun a h => ?_)
          refine g_yes h rfl rfl rfl rfl hB17 ?_
          refine s_move h rfl _ rfl rfl (by decide) rfl (fun a h => ?_)
          refine q_grp h 3 (t := 83) 86 ((decide (2 ≤ a0.1)) && (decide (a0.1 ≤ 5))) rfl (fun hB22 => ?_) (fun hB22 => ?_) (fun a w h => ?_)
          · refine g_yes h rfl rfl rfl rfl hB22 ?_
            refine s_move h rfl _ rfl rfl (by decide) rfl (fun a h => ?_)
            refine g_yes h rfl rfl rfl rfl hB22 ?_
            refine s_x h rfl rfl (by decide) (x_bin h.k rfl rfl rfl ib_leq) (fun a h => ?_)
            refine g_yes h rfl rfl rfl rfl hB17 ?_
            refine s_x h rfl rfl (by decide) (x_pick (u' := undef) h.k rfl rfl (fun _ => rfl) (fun hh => absurd (hB22.symm.trans hh) (by decide))) (fun a h => ?_)
            exact (h.mid 2 rfl).val (by first | rfl | (rw [hB22]; first | rfl | simp))
          · refine g_no h rfl rfl rfl rfl hB22 rfl (by decide) (fun a h => ?_)
            refine g_no h rfl rfl rfl rfl hB22 rfl (by decide) (fun a h => ?_)
            refine g_yes h rfl rfl rfl rfl hB17 ?_
            refine s_x h rfl rfl (by decide) (x_pick (u' := undef) h.k rfl rfl (fun hh => absurd (hB22.symm.trans hh) (by decide)) (fun _ => rfl)) (fun a h => ?_)
            exact (h.mid 2 rfl).val (by first | rfl | (rw [hB22]; first | rfl | simp))
          refine g_yes h rfl rfl rfl rfl hB17 ?_
          refine s_move h rfl _ rfl rfl (by decide) rfl (fun a h => ?_)
          refine q_grp h 3 (t := 87) 90 (((decide (2 ≤ a0.1)) && (decide (a0.1 ≤ 5))) || (decide (a0.1 = 10))) rfl (fun hB26 => ?_) (fun hB26 => ?_) (fun a w h => ?_)
          · refine g_no h rfl rfl rfl rfl hB26 rfl (by decide) (fun a h => ?_)
            refine g_no h rfl rfl rfl rfl hB26 rfl (by decide) (fun a h => ?_)
            refine g_yes h rfl rfl rfl rfl hB17 ?_
            refine s_x h rfl rfl (by decide) (x_pick (u' := undef) h.k rfl rfl (fun _ => rfl) (fun hh => absurd (hB26.symm.trans hh) (by decide))) (fun a h => ?_)
            exact (h.mid 2 rfl).val (by first | rfl | (rw [hB26]; first | rfl | simp))
          · refine g_yes h rfl rfl rfl rfl hB26 ?_
            refine s_move h rfl _ rfl rfl (by decide) rfl (fun a h => ?_)
            refine g_yes h rfl rfl rfl rfl hB26 ?_
            refine s_x h rfl rfl (by decide) (x_bin h.k rfl rfl rfl ib_eql) (fun a h => ?_)
            refine g_yes h rfl rfl rfl rfl hB17 ?_
            refine s_x h rfl rfl (by decide) (x_pick (u' := undef) h.k rfl rfl (fun hh => absurd (hB26.symm.trans hh) (by decide)) (fun _ => rfl)) (fun a h => ?_)
            exact (h.mid 2 rfl).val (by first | rfl | (rw [hB26]; first | rfl | simp))
          refine g_yes h rfl rfl rfl rfl hB17 ?_
          refine s_x h rfl rfl (by decide) (x_neqB h.k rfl Try.underlying4 rfl rfl) (fun a h => ?_)
          refine s_x h rfl rfl (by decide) (x_pick (u' := undef) h.k rfl rfl (fun hh => absurd (hB17.symm.trans hh) (by decide)) (fun _ => rfl)) (fun a h => ?_)
          exact (h.mid 9 rfl).val (by rw [Option.some.inj hz82])
        refine l_end ?_
        refine c_cond h rfl (fun hb => ?_) (fun hb => ?_)
        · rw [if_pos hb] at hf
          refine c_rs ?_ -- region 10
          refine s_assign h rfl _ rfl rfl (by decide) rfl (fun a h => ?_)
          refine l_end ?_
          refine wp_ret ?_
          refine e_thenR ?_
          rw [← Option.some.inj hf]
          exact r_ret1 h rfl (rv_tmp h rfl) ⟨_, [], _, rfl, ⟨rfl, rfl, trivial⟩, rfl, (Up.refl _ _ _), (h.m.pick [2] _ (by decide) rfl)⟩
        · rw [if_neg (by rw [hb]; decide)] at hf
          refine wp_skip ?_
          refine e_thenN ?_
          refine wp_seq ?_
          refine c_rs ?_ -- region 11
          refine s_x h rfl rfl (by decide) (x_ldR h.k rfl ag_api_Op rfl ([.int .i64 a0.1, .int .i64 a0.2.1, .int .i64 a0.2.2.1, .int .i64 a0.2.2.2.1, .int .i64 a0.2.2.2.2.1, .slice A18 a0.2.2.2.2.2.1.length c19, .slice A21 a0.2.2.2.2.2.2.length c22]) rfl (h.m.range0 (i := 0) rfl)) (fun a h => ?_)
          refine s_move h rfl _ rfl rfl (by decide) rfl (fun a h => ?_)
          obtain ⟨x92, h93, hf⟩ := bsome hf
          have hX := chatelaineref29_Right_ok Fu (S0 := snapAll _) ([.int .i64 a0.1, .int .i64 a0.2.1, .int .i64 a0.2.2.1, .int .i64 a0.2.2.2.1, .int .i64 a0.2.2.2.2.1, .slice A18 a0.2.2.2.2.2.1.length c19, .slice A21 a0.2.2.2.2.2.2.length c22]) a0 ((tyP tyI (tyP tyI (tyP tyI (tyP tyI (tyP tyI (tyP (tyL ty8) (tyL ty8))))))).mono (h.m.leAll (i := 2) rfl) (show (tyP tyI (tyP tyI (tyP tyI (tyP tyI (tyP tyI (tyP (tyL ty8) (tyL ty8))))))).rep S0 ([.int .i64 a0.1, .int .i64 a0.2.1, .int .i64 a0.2.2.1, .int .i64 a0.2.2.2.1, .int .i64 a0.2.2.2.2.1, .slice A18 a0.2.2.2.2.2.1.length c19, .slice A21 a0.2.2.2.2.2.2.length c22]) a0 from ⟨[.int .i64 a0.1], [.int .i64 a0.2.1, .int .i64 a0.2.2.1, .int .i64 a0.2.2.2.1, .int .i64 a0.2.2.2.2.1, .slice A18 a0.2.2.2.2.2.1.length c19, .slice A21 a0.2.2.2.2.2.2.length c22], rfl, ⟨rfl, hr3⟩, ⟨[.int .i64 a0.2.1], [.int .i64 a0.2.2.1, .int .i64 a0.2.2.2.1, .int .i64 a0.2.2.2.2.1, .slice A18 a0.2.2.2.2.2.1.length c19, .slice A21 a0.2.2.2.2.2.2.length c22], rfl, ⟨rfl, hr6⟩, ⟨[.int .i64 a0.2.2.1], [.int .i64 a0.2.2.2.1, .int .i64 a0.2.2.2.2.1, .slice A18 a0.2.2.2.2.2.1.length c19, .slice A21 a0.2.2.2.2.2.2.length c22], rfl, ⟨rfl, hr9⟩, ⟨[.int .i64 a0.2.2.2.1], [.int .i64 a0.2.2.2.2.1, .slice A18 a0.2.2.2.2.2.1.length c19, .slice A21 a0.2.2.2.2.2.2.length c22], rfl, ⟨rfl, hr12⟩, ⟨[.int .i64 a0.2.2.2.2.1], [.slice A18 a0.2.2.2.2.2.1.length c19, .slice A21 a0.2.2.2.2.2.2.length c22], rfl, ⟨rfl, hr15⟩, ⟨[.slice A18 a0.2.2.2.2.2.1.length c19], [.slice A21 a0.2.2.2.2.2.2.length c22], rfl, ⟨_, _, rfl, hs20⟩, ⟨_, _, rfl, hs23⟩⟩⟩⟩⟩⟩⟩)) a1 hra1 _ h93 _ h.startAll
          refine q_callX hX h rfl rfl rfl (by decide) Try.func16 rfl rfl rfl (fun a w v L1 S1 hR hb1 h => ?_)
          obtain ⟨rfl, rfl, _⟩ := hR
          refine s_x h rfl rfl (by decide) (x_not h.k rfl rfl) (fun a h => ?_)
          refine l_end ?_
          refine c_cond h rfl (fun hb => ?_) (fun hb => ?_)
          · rw [if_pos hb] at hf
            refine c_rs ?_ -- region 12
            refine s_move h rfl _ rfl rfl (by decide) rfl (fun a h => ?_)
            refine s_x h rfl rfl (by decide) (x_bin h.k rfl rfl rfl ib_eql) (fun a h => ?_)
            refine s_move h rfl _ rfl rfl (by decide) rfl (fun a h => ?_)
            refine q_grp h 4 (t := 99) 103 ((decide (x30.2 = 2)) && (decide ((x30.1.length : Int) = 0))) rfl (fun hB2 => ?_) (fun hB2 => ?_) (fun a w h => ?_)
            · refine g_yes h rfl rfl rfl rfl hB2 ?_
              refine s_move h rfl _ rfl rfl (by decide) rfl (fun a h => ?_)
              refine g_yes h rfl rfl rfl rfl hB2 ?_
              have hr97 : r64 (x30.1.length : Int) := len_r (h.m.rowLen (i := 1) rfl)
              refine s_x h rfl rfl (by decide) (x_len h.k rfl Try.underlying22 rfl) (fun a h => ?_)
              refine g_yes h rfl rfl rfl rfl hB2 ?_
              refine s_x h rfl rfl (by decide) (x_bin h.k rfl rfl rfl ib_eql) (fun a h => ?_)
              refine s_x h rfl rfl (by decide) (x_pick (u' := undef) h.k rfl rfl (fun _ => rfl) (fun hh => absurd (hB2.symm.trans hh) (by decide))) (fun a h => ?_)
              exact (h.mid 3 rfl).val (by first | rfl | (rw [hB2]; first | rfl | simp))
            · refine g_no h rfl rfl rfl rfl hB2 rfl (by decide) (fun a h => ?_)
              refine g_no h rfl rfl rfl rfl hB2 rfl (by decide) (fun a h => ?_)
              refine g_no h rfl rfl rfl rfl hB2 rfl (by decide) (fun a h => ?_)
              refine s_x h rfl rfl (by decide) (x_pick (u' := undef) h.k rfl rfl (fun hh => absurd (hB2.symm.trans hh) (by decide)) (fun _ => rfl)) (fun a h => ?_)
              exact (h.mid 3 rfl).val (by first | rfl | (rw [hB2]; first | rfl | simp))
            refine s_assign h rfl _ rfl rfl (by decide) rfl (fun a h => ?_)
            refine l_end ?_
            refine wp_ret ?_
            refine e_thenR ?_
            obtain rfl := Option.some.inj hf
            exact r_ret1 h rfl (rv_tmp h rfl) ⟨_, [], _, rfl, ⟨rfl, rfl, trivial⟩, rfl, (Up.refl _ _ _), (h.m.pick [2] _ (by decide) rfl)⟩
          · rw [if_neg (by rw [hb]; decide)] at hf
            refine wp_skip ?_
            refine e_thenN ?_
            refine c_rs ?_ -- region 13
            refine s_move h rfl _ rfl rfl (by decide) rfl (fun a h => ?_)
            refine s_x h rfl rfl (by decide) (x_bin h.k rfl rfl rfl ib_eql) (fun a h => ?_)
            refine s_move h rfl _ rfl rfl (by decide) rfl (fun a h => ?_)
            obtain ⟨z99, hz98, hf⟩ := bsome hf
            refine q_grp h 5 (t := 106) 111 z99 rfl (fun hB2 => ?_) (fun hB2 => ?_) (fun a w h => ?_)
            · rw [if_pos (of_decide_eq_true hB2)] at hz98
              refine g_yes h rfl rfl rfl rfl hB2 ?_
              refine s_move h rfl _ rfl rfl (by decide) rfl (fun a h => ?_)
              refine g_yes h rfl rfl rfl rfl hB2 ?_
              refine s_x h rfl rfl (by decide) (x_ldR h.k rfl ag_api_Op rfl ([.int .i64 a0.1, .int .i64 a0.2.1, .int .i64 a0.2.2.1, .int .i64 a0.2.2.2.1, .int .i64 a0.2.2.2.2.1, .slice A18 a0.2.2.2.2.2.1.length c19, .slice A21 a0.2.2.2.2.2.2.length c22]) rfl (h.m.range0 (i := 0) rfl)) (fun a h => ?_)
              refine g_yes h rfl rfl rfl rfl hB2 ?_
              obtain ⟨x101, h102, hz98⟩ := bsome hz98
              have hX := chatelaineref29_Put_ok Fu (S0 := snapAll _) ([.int .i64 a0.1, .int .i64 a0.2.1, .int .i64 a0.2.2.1, .int .i64 a0.2.2.2.1, .int .i64 a0.2.2.2.2.1, .slice A18 a0.2.2.2.2.2.1.length c19, .slice A21 a0.2.2.2.2.2.2.length c22]) a0 ((tyP tyI (tyP tyI (tyP tyI (tyP tyI (tyP tyI (tyP (tyL ty8) (tyL ty8))))))).mono (h.m.leAll (i := 2) rfl) (show (tyP tyI (tyP tyI (tyP tyI (tyP tyI (tyP tyI (tyP (tyL ty8) (tyL ty8))))))).rep S0 ([.int .i64 a0.1, .int .i64 a0.2.1, .int .i64 a0.2.2.1, .int .i64 a0.2.2.2.1, .int .i64 a0.2.2.2.2.1, .slice A18 a0.2.2.2.2.2.1.length c19, .slice A21 a0.2.2.2.2.2.2.length c22]) a0 from ⟨[.int .i64 a0.1], [.int .i64 a0.2.1, .int .i64 a0.2.2.1, .int .i64 a0.2.2.2.1, .int .i64 a0.2.2.2.2.1, .slice A18 a0.2.2.2.2.2.1.length c19, .slice A21 a0.2.2.2.2.2.2.length c22], rfl, ⟨rfl, hr3⟩, ⟨[.int .i64 a0.2.1], [.int .i64 a0.2.2.1, .int .i64 a0.2.2.2.1, .int .i64 a0.2.2.2.2.1, .slice A18 a0.2.2.2.2.2.1.length c19, .slice A21 a0.2.2.2.2.2.2.length c22], rfl, ⟨rfl, hr6⟩, ⟨[.int .i64 a0.2.2.1], [.int .i64 a0.2.2.2.1, .int .i64 a0.2.2.2.2.1, .slice A18 a0.2.2.2.2.2.1.length c19, .slice A21 a0.2.2.2.2.2.2.length c22], rfl, ⟨rfl, hr9⟩, ⟨[.int .i64 a0.2.2.2.1], [.int .i64 a0.2.2.2.2.1, .slice A18 a0.2.2.2.2.2.1.length c19, .slice A21 a0.2.2.2.2.2.2.length c22], rfl, ⟨rfl, hr12⟩, ⟨[.int .i64 a0.2.2.2.2.1], [.slice A18 a0.2.2.2.2.2.1.length c19, .slice A21 a0.2.2.2.2.2.2.length c22], rfl, ⟨rfl, hr15⟩, ⟨[.slice A18 a0.2.2.2.2.2.1.length c19], [.slice A21 a0.2.2.2.2.2.2.length c22], rfl, ⟨_, _, rfl, hs20⟩, ⟨_, _, rfl, hs23⟩⟩⟩⟩⟩⟩⟩)) _ h102 _ h.startAll
              refine q_callX hX h rfl rfl rfl (by decide) Try.func22 rfl rfl rfl (fun a w v L1 S1 hR hb1 h => ?_)
              obtain ⟨A104, c105, cs106, rfl, rfl, hq107, _⟩ := hR
              have hq108 := hq107.fl (S' := S0) fl_8
              refine g_yes h rfl rfl rfl rfl hB2 ?_
              obtain ⟨x109, h110, hz98⟩ := bsome hz98
              have hX := chatelaineref01_Same_ok Fu (S0 := snapAll _) A33 c34 x30.1 (h.m.rowAll (i := 2) rfl (j := 3) rfl hq38) A104 c105 x101 (h.m.rowAll (i := 0) rfl (j := 3) rfl hq108) _ h110 _ h.startAll
              refine q_callX hX h rfl rfl rfl (by decide) Try.func21 rfl rfl rfl (fun a w v L1 S1 hR hb1 h => ?_)
              obtain ⟨rfl, rfl, _⟩ := hR
              refine s_x h rfl rfl (by decide) (x_pick (u' := undef) h.k rfl rfl (fun _ => rfl) (fun hh => absurd (hB2.symm.trans hh) (by decide))) (fun a h => ?_)
              have h := h.pick [1, 2, 3] (by decide) rfl
              exact (h.mid 4 rfl).val (by rw [Option.some.inj hz98])
            · refine g_no h rfl rfl rfl rfl hB2 rfl (by decide) (fun a h => ?_)
              refine g_no h rfl rfl rfl rfl hB2 rfl (by decide) (fun a h => ?_)
              refine g_no h rfl rfl rfl rfl hB2 rfl (by decide) (fun a h => ?_)
              refine g_no h rfl rfl rfl rfl hB2 rfl (by decide) (fun a h => ?_)
              rw [if_neg (of_decide_eq_false hB2)] at hz98
              refine s_x h rfl rfl (by decide) (x_pick (u' := undef) h.k rfl rfl (fun hh => absurd (hB2.symm.trans hh) (by decide)) (fun _ => rfl)) (fun a h => ?_)
              exact (h.mid 4 rfl).val (by rw [Option.some.inj hz98])
            refine s_assign h rfl _ rfl rfl (by decide) rfl (fun a h => ?_)
            refine l_end ?_
            refine wp_ret ?_
            rw [← Option.some.inj hf]
            exact r_ret1 h rfl (rv_tmp h rfl) ⟨_, [], _, rfl, ⟨rfl, rfl, trivial⟩, rfl, (Up.refl _ _ _), (h.m.pick [2] _ (by decide) rfl)⟩
def chatelainelaw29_OpTakes (Fu : Nat) (a0 : List UInt8) (a1 : Int) : Option Bool :=
  (chatelainelaw29_awake Fu).bind fun x1 => if (!x1) = true then (some false) else (if 600 < (a0.length : Int) then (some true) else ((op_Take Fu a0 a1).bind fun x4 => (chatelaineref29_Take Fu a0 a1).bind fun x37 => (if x4.2 = x37.2 then (chatelaineref29_Same Fu x4.1 x37.1).bind fun x73 => some x73 else some false).bind fun z71 => some z71))
set_option maxRecDepth 100000 in
set_option maxHeartbeats 2000000 in
theorem chatelainelaw29_OpTakes_ok (Fu : Nat) {S0 : Snap} (Aa0 : Option Addr) (ca0 : Nat) (a0 : List UInt8) (hsa0 : slS ty8 S0 Aa0 ca0 a0) (a1 : Int) (hra1 : r64 a1) (r : Bool) (hf : chatelainelaw29_OpTakes Fu a0 a1 = some r) (w0 : World) (hm : Mem w0 (ownL ([] ++ [.sn S0])) ([] ++ [.sn S0]) w0) :
    Calls Try.prog 4 #[.slice Aa0 a0.length ca0, .int .i64 a1] w0 (Ret w0 S0 [] (fun v L1 S1 => v = .bool r ∧ L1 = [] ∧ True)) := by
  unfold chatelainelaw29_OpTakes at hf
  refine c_enterM Try.func4 rfl 34 rfl (by simp) _ hm _ rfl (fun a h => ?_)
  refine c_rs ?_ -- region 0
  refine s_assign h rfl _ rfl rfl (by decide) rfl (fun a h => ?_)
  refine l_end ?_
  refine wp_seq ?_
  refine c_rs ?_ -- region 1
  obtain ⟨x1, h2, hf⟩ := bsome hf
  have hX := chatelainelaw29_awake_ok Fu (S0 := snapAll _)  _ h2 _ h.startAll
  refine q_callX hX h rfl rfl rfl (by decide) Try.func13 rfl rfl rfl (fun a w v L1 S1 hR hb1 h => ?_)
  obtain ⟨rfl, rfl, _⟩ := hR
  refine s_x h rfl rfl (by decide) (x_not h.k rfl rfl) (fun a h => ?_)
  refine l_end ?_
  refine c_cond h rfl (fun hb => ?_) (fun hb => ?_)
  · rw [if_pos hb] at hf
    refine c_rs ?_ -- region 2
    refine s_assign h rfl _ rfl rfl (by decide) rfl (fun a h => ?_)
    refine l_end ?_
    refine wp_ret ?_
    refine e_thenR ?_
    rw [← Option.some.inj hf]
    exact r_ret1 h rfl (rv_tmp h rfl) ⟨_, [], _, rfl, ⟨rfl, rfl, trivial⟩, rfl, (Up.refl _ _ _), h.m⟩
  · rw [if_neg (by rw [hb]; decide)] at hf
    refine wp_skip ?_
    refine e_thenN ?_
    refine wp_seq ?_
    refine c_rs ?_ -- region 3
    refine s_move h rfl _ rfl rfl (by decide) rfl (fun a h => ?_)
    refine s_x h rfl rfl (by decide) (x_len h.k rfl Try.underlying22 rfl) (fun a h => ?_)
    refine s_x h rfl rfl (by decide) (x_bin h.k rfl rfl rfl ib_gtr) (fun a h => ?_)
    refine l_end ?_
    refine c_cond h rfl (fun hb => ?_) (fun hb => ?_)
    · rw [if_pos (of_decide_eq_true hb)] at hf
      refine c_rs ?_ -- region 4
      refine s_assign h rfl _ rfl rfl (by decide) rfl (fun a h => ?_)
      refine l_end ?_
      refine wp_ret ?_
      refine e_thenR ?_
      rw [← Option.some.inj hf]
      exact r_ret1 h rfl (rv_tmp h rfl) ⟨_, [], _, rfl, ⟨rfl, rfl, trivial⟩, rfl, (Up.refl _ _ _), h.m⟩
    · rw [if_neg (of_decide_eq_false hb)] at hf
      refine wp_skip ?_
      refine e_thenN ?_
      refine c_rs ?_ -- region 5
      refine s_move h rfl _ rfl rfl (by decide) rfl (fun a h => ?_)
      refine s_move h rfl _ rfl rfl (by decide) rfl (fun a h => ?_)
      obtain ⟨x4, h5, hf⟩ := bsome hf
      have hX := op_Take_ok Fu (S0 := S0) Aa0 ca0 a0 hsa0 a1 hra1 _ h5 _ (h.sub (Ls := []))
      refine q_callY (Ls := []) hX h (Up.refl _ _ _) rfl rfl rfl (by decide) Try.func23 rfl rfl rfl (fun a w v L1 S7 hR le9 up8 h => ?_)
      obtain ⟨k10, rfl, rfl, hv11, hr35, _⟩ := hR
      obtain ⟨k12, k13, rfl, ⟨rfl, hr14⟩, ⟨k15, k16, rfl, ⟨rfl, hr17⟩, ⟨k18, k19, rfl, ⟨rfl, hr20⟩, ⟨k21, k22, rfl, ⟨rfl, hr23⟩, ⟨k24, k25, rfl, ⟨rfl, hr26⟩, ⟨k27, k28, rfl, ⟨A29, c30, rfl, hs31⟩, ⟨A32, c33, rfl, hs34⟩⟩⟩⟩⟩⟩⟩ := hv11
      refine s_move h rfl _ rfl rfl (by decide) rfl (fun a h => ?_)
      refine s_x h rfl rfl (by decide) (x_ext h.k rfl rfl rfl) (fun a h => ?_)
      refine s_x h rfl rfl (by decide) (x_ext h.k rfl rfl rfl) (fun a h => ?_)
      refine s_alloc h rfl rfl rfl (by decide) zi_api_Op rfl (fun a w g36 h => ?_)
      refine s_stW h rfl rfl rfl ag_api_Op rfl (es := [.int .i64 x4.1.1, .int .i64 x4.1.2.1, .int .i64 x4.1.2.2.1, .int .i64 x4.1.2.2.2.1, .int .i64 x4.1.2.2.2.2.1, .slice A29 x4.1.2.2.2.2.2.1.length c30, .slice A32 x4.1.2.2.2.2.2.2.length c33]) rfl rfl (by simp [Value.oneCell']) 0 rfl rfl (fun a w h => ?_)
      refine s_assign h rfl _ rfl rfl (by decide) rfl (fun a h => ?_)
      refine l_end ?_
      refine c_rs ?_ -- region 6
      refine s_move h rfl _ rfl rfl (by decide) rfl (fun a h => ?_)
      refine s_move h rfl _ rfl rfl (by decide) rfl (fun a h => ?_)
      obtain ⟨x37, h38, hf⟩ := bsome hf
      have h := h.pick [1, 0] (by decide) rfl
      have hX := chatelaineref29_Take_ok Fu (S0 := S7) Aa0 ca0 a0 (hsa0.mono le9) a1 hra1 _ h38 _ (h.sub (Ls := []))
      refine q_callY (Ls := []) hX h up8 rfl rfl rfl (by decide) Try.func24 rfl rfl rfl (fun a w v L1 S40 hR le42 up41 h => ?_)
      obtain ⟨k43, rfl, rfl, hv44, hr68, _⟩ := hR
      obtain ⟨k45, k46, rfl, ⟨rfl, hr47⟩, ⟨k48, k49, rfl, ⟨rfl, hr50⟩, ⟨k51, k52, rfl, ⟨rfl, hr53⟩, ⟨k54, k55, rfl, ⟨rfl, hr56⟩, ⟨k57, k58, rfl, ⟨rfl, hr59⟩, ⟨k60, k61, rfl, ⟨A62, c63, rfl, hs64⟩, ⟨A65, c66, rfl, hs67⟩⟩⟩⟩⟩⟩⟩ := hv44
      refine s_move h rfl _ rfl rfl (by decide) rfl (fun a h => ?_)
      refine s_x h rfl rfl (by decide) (x_ext h.k rfl rfl rfl) (fun a h => ?_)
      refine s_x h rfl rfl (by decide) (x_ext h.k rfl rfl rfl) (fun a h => ?_)
      refine s_alloc h rfl rfl rfl (by decide) zi_api_Op rfl (fun a w g69 h => ?_)
      refine s_stW h rfl rfl rfl ag_api_Op rfl (es := [.int .i64 x37.1.1, .int .i64 x37.1.2.1, .int .i64 x37.1.2.2.1, .int .i64 x37.1.2.2.2.1, .int .i64 x37.1.2.2.2.2.1, .slice A62 x37.1.2.2.2.2.2.1.length c63, .slice A65 x37.1.2.2.2.2.2.2.length c66]) rfl rfl (by simp [Value.oneCell']) 0 rfl rfl (fun a w h => ?_)
      refine s_assign h rfl _ rfl rfl (by decide) rfl (fun a h => ?_)
      refine l_end ?_
      refine c_rs ?_ -- region 7
      refine s_move h rfl _ rfl rfl (by decide) rfl (fun a h => ?_)
      refine s_move h rfl _ rfl rfl (by decide) rfl (fun a h => ?_)
      refine s_x h rfl rfl (by decide) (x_bin h.k rfl rfl rfl ib_eql) (fun a h => ?_)
      refine s_move h rfl _ rfl rfl (by decide) rfl (fun a h => ?_)
      obtain ⟨z71, hz70, hf⟩ := bsome hf
      refine q_grp h 4 (t := 29) 33 z71 rfl (fun hB3 => ?_) (fun hB3 => ?_) (fun a w h => ?_)
      · rw [if_pos (of_decide_eq_true hB3)] at hz70
        refine g_yes h rfl rfl rfl rfl hB3 ?_
        refine s_x h rfl rfl (by decide) (x_ldR h.k rfl ag_api_Op rfl ([.int .i64 x4.1.1, .int .i64 x4.1.2.1, .int .i64 x4.1.2.2.1, .int .i64 x4.1.2.2.2.1, .int .i64 x4.1.2.2.2.2.1, .slice A29 x4.1.2.2.2.2.2.1.length c30, .slice A32 x4.1.2.2.2.2.2.2.length c33]) rfl (h.m.range0 (i := 2) rfl)) (fun a h => ?_)
        refine g_yes h rfl rfl rfl rfl hB3 ?_
        refine s_x h rfl rfl (by decide) (x_ldR h.k rfl ag_api_Op rfl ([.int .i64 x37.1.1, .int .i64 x37.1.2.1, .int .i64 x37.1.2.2.1, .int .i64 x37.1.2.2.2.1, .int .i64 x37.1.2.2.2.2.1, .slice A62 x37.1.2.2.2.2.2.1.length c63, .slice A65 x37.1.2.2.2.2.2.2.length c66]) rfl (h.m.range0 (i := 0) rfl)) (fun a h => ?_)
        refine g_yes h rfl rfl rfl rfl hB3 ?_
        obtain ⟨x73, h74, hz70⟩ := bsome hz70
        have hX := chatelaineref29_Same_ok Fu (S0 := snapAll _) ([.int .i64 x4.1.1, .int .i64 x4.1.2.1, .int .i64 x4.1.2.2.1, .int .i64 x4.1.2.2.2.1, .int .i64 x4.1.2.2.2.2.1, .slice A29 x4.1.2.2.2.2.2.1.length c30, .slice A32 x4.1.2.2.2.2.2.2.length c33]) x4.1 ((tyP tyI (tyP tyI (tyP tyI (tyP tyI (tyP tyI (tyP (tyL ty8) (tyL ty8))))))).mono (h.m.leAll (i := 1) rfl) (show (tyP tyI (tyP tyI (tyP tyI (tyP tyI (tyP tyI (tyP (tyL ty8) (tyL ty8))))))).rep S40 ([.int .i64 x4.1.1, .int .i64 x4.1.2.1, .int .i64 x4.1.2.2.1, .int .i64 x4.1.2.2.2.1, .int .i64 x4.1.2.2.2.2.1, .slice A29 x4.1.2.2.2.2.2.1.length c30, .slice A32 x4.1.2.2.2.2.2.2.length c33]) x4.1 from ⟨[.int .i64 x4.1.1], [.int .i64 x4.1.2.1, .int .i64 x4.1.2.2.1, .int .i64 x4.1.2.2.2.1, .int .i64 x4.1.2.2.2.2.1, .slice A29 x4.1.2.2.2.2.2.1.length c30, .slice A32 x4.1.2.2.2.2.2.2.length c33], rfl, ⟨rfl, hr14⟩, ⟨[.int .i64 x4.1.2.1], [.int .i64 x4.1.2.2.1, .int .i64 x4.1.2.2.2.1, .int .i64 x4.1.2.2.2.2.1, .slice A29 x4.1.2.2.2.2.2.1.length c30, .slice A32 x4.1.2.2.2.2.2.2.length c33], rfl, ⟨rfl, hr17⟩, ⟨[.int .i64 x4.1.2.2.1], [.int .i64 x4.1.2.2.2.1, .int .i64 x4.1.2.2.2.2.1, .slice A29 x4.1.2.2.2.2.2.1.length c30, .slice A32 x4.1.2.2.2.2.2.2.length c33], rfl, ⟨rfl, hr20⟩, ⟨[.int .i64 x4.1.2.2.2.1], [.int .i64 x4.1.2.2.2.2.1, .slice A29 x4.1.2.2.2.2.2.1.length c30, .slice A32 x4.1.2.2.2.2.2.2.length c33], rfl, ⟨rfl, hr23⟩, ⟨[.int .i64 x4.1.2.2.2.2.1], [.slice A29 x4.1.2.2.2.2.2.1.length c30, .slice A32 x4.1.2.2.2.2.2.2.length c33], rfl, ⟨rfl, hr26⟩, ⟨[.slice A29 x4.1.2.2.2.2.2.1.length c30], [.slice A32 x4.1.2.2.2.2.2.2.length c33], rfl, ⟨_, _, rfl, (hs31.mono le42)⟩, ⟨_, _, rfl, (hs34.mono le42)⟩⟩⟩⟩⟩⟩⟩)) ([.int .i64 x37.1.1, .int .i64 x37.1.2.1, .int .i64 x37.1.2.2.1, .int .i64 x37.1.2.2.2.1, .int .i64 x37.1.2.2.2.2.1, .slice A62 x37.1.2.2.2.2.2.1.length c63, .slice A65 x37.1.2.2.2.2.2.2.length c66]) x37.1 ((tyP tyI (tyP tyI (tyP tyI (tyP tyI (tyP tyI (tyP (tyL ty8) (tyL ty8))))))).mono (h.m.leAll (i := 1) rfl) (show (tyP tyI (tyP tyI (tyP tyI (tyP tyI (tyP tyI (tyP (tyL ty8) (tyL ty8))))))).rep S40 ([.int .i64 x37.1.1, .int .i64 x37.1.2.1, .int .i64 x37.1.2.2.1, .int .i64 x37.1.2.2.2.1, .int .i64 x37.1.2.2.2.2.1, .slice A62 x37.1.2.2.2.2.2.1.length c63, .slice A65 x37.1.2.2.2.2.2.2.length c66]) x37.1 from ⟨[.int .i64 x37.1.1], [.int .i64 x37.1.2.1, .int .i64 x37.1.2.2.1, .int .i64 x37.1.2.2.2.1, .int .i64 x37.1.2.2.2.2.1, .slice A62 x37.1.2.2.2.2.2.1.length c63, .slice A65 x37.1.2.2.2.2.2.2.length c66], rfl, ⟨rfl, hr47⟩, ⟨[.int .i64 x37.1.2.1], [.int .i64 x37.1.2.2.1, .int .i64 x37.1.2.2.2.1, .int .i64 x37.1.2.2.2.2.1, .slice A62 x37.1.2.2.2.2.2.1.length c63, .slice A65 x37.1.2.2.2.2.2.2.length c66], rfl, ⟨rfl, hr50⟩, ⟨[.int .i64 x37.1.2.2.1], [.int .i64 x37.1.2.2.2.1, .int .i64 x37.1.2.2.2.2.1, .slice A62 x37.1.2.2.2.2.2.1.length c63, .slice A65 x37.1.2.2.2.2.2.2.length c66], rfl, ⟨rfl, hr53⟩, ⟨[.int .i64 x37.1.2.2.2.1], [.int .i64 x37.1.2.2.2.2.1, .slice A62 x37.1.2.2.2.2.2.1.length c63, .slice A65 x37.1.2.2.2.2.2.2.length c66], rfl, ⟨rfl, hr56⟩, ⟨[.int .i64 x37.1.2.2.2.2.1], [.slice A62 x37.1.2.2.2.2.2.1.length c63, .slice A65 x37.1.2.2.2.2.2.2.length c66], rfl, ⟨rfl, hr59⟩, ⟨[.slice A62 x37.1.2.2.2.2.2.1.length c63], [.slice A65 x37.1.2.2.2.2.2.2.length c66], rfl, ⟨_, _, rfl, hs64⟩, ⟨_, _, rfl, hs67⟩⟩⟩⟩⟩⟩⟩)) _ h74 _ h.startAll
        refine q_callX hX h rfl rfl rfl (by decide) Try.func25 rfl rfl rfl (fun a w v L1 S1 hR hb1 h => ?_)
        obtain ⟨rfl, rfl, _⟩ := hR
        refine s_x h rfl rfl (by decide) (x_pick (u' := undef) h.k rfl rfl (fun _ => rfl) (fun hh => absurd (hB3.symm.trans hh) (by decide))) (fun a h => ?_)
        exact (h.mid 3 rfl).val (by rw [Option.some.inj hz70])
      · refine g_no h rfl rfl rfl rfl hB3 rfl (by decide) (fun a h => ?_)
        refine g_no h rfl rfl rfl rfl hB3 rfl (by decide) (fun a h => ?_)
        refine g_no h rfl rfl rfl rfl hB3 rfl (by decide) (fun a h => ?_)
        rw [if_neg (of_decide_eq_false hB3)] at hz70
        refine s_x h rfl rfl (by decide) (x_pick (u' := undef) h.k rfl rfl (fun hh => absurd (hB3.symm.trans hh) (by decide)) (fun _ => rfl)) (fun a h => ?_)
        exact (h.mid 3 rfl).val (by rw [Option.some.inj hz70])
      refine s_assign h rfl _ rfl rfl (by decide) rfl (fun a h => ?_)
      refine l_end ?_
      refine wp_ret ?_
      rw [← Option.some.inj hf]
      exact r_ret1 h rfl (rv_tmp h rfl) ⟨_, [], _, rfl, ⟨rfl, rfl, trivial⟩, rfl, up41, (h.m.pick [1] _ (by decide) rfl)⟩
def chatelainelaw29_OpBack (Fu : Nat) (a0 : Int × Int × Int × Int × Int × (List UInt8) × (List UInt8)) (a1 : Int × Int × Int × Int × Int × (List UInt8) × (List UInt8)) (a2 : Int) : Option Bool :=
  (chatelainelaw29_awake Fu).bind fun x49 => if (!x49) = true then (some false) else (if ((((decide (300 < (a0.2.2.2.2.2.1.length : Int))) || (decide (600 < (a0.2.2.2.2.2.2.length : Int)))) || (decide (300 < (a1.2.2.2.2.2.1.length : Int)))) || (decide (600 < (a1.2.2.2.2.2.2.length : Int)))) = true then (some true) else ((op_Put Fu a0 a2).bind fun x58 => (op_Put Fu a1 a2).bind fun x67 => (op_Same Fu a0 a1).bind fun x76 => (chatelaineref29_Same Fu a0 a1).bind fun x79 => if (!(x76 == x79)) = true then (some false) else (if ((decide (x58.2 ≠ 0)) || (decide (x67.2 ≠ 0))) = true then (some (((decide (x58.2 ≠ 0)) && (decide ((x58.1.length : Int) = 0))) || ((decide (x67.2 ≠ 0)) && (decide ((x67.1.length : Int) = 0))))) else ((op_Take Fu x58.1 a2).bind fun x96 => (if x96.2 = 0 then (op_Same Fu x96.1 a0).bind fun x131 => some x131 else some false).bind fun z129 => (if z129 = true then (chatelaineref01_Same Fu x58.1 x67.1).bind fun x136 => (chatelaineref29_Same Fu a0 a1).bind fun x139 => some (x136 == x139) else some false).bind fun z134 => some z134))))
set_option maxRecDepth 100000 in
set_option maxHeartbeats 2000000 in
theorem chatelainelaw29_OpBack_ok (Fu : Nat) {S0 : Snap} (csa0 : List Value) (a0 : Int × Int × Int × Int × Int × (List UInt8) × (List UInt8)) (hsa0 : (tyP tyI (tyP tyI (tyP tyI (tyP tyI (tyP tyI (tyP (tyL ty8) (tyL ty8))))))).rep S0 csa0 a0) (csa1 : List Value) (a1 : Int × Int × Int × Int × Int × (List UInt8) × (List UInt8)) (hsa1 : (tyP tyI (tyP tyI (tyP tyI (tyP tyI (tyP tyI (tyP (tyL ty8) (tyL ty8))))))).rep S0 csa1 a1) (a2 : Int) (hra2 : r64 a2) (r : Bool) (hf : chatelainelaw29_OpBack Fu a0 a1 a2 = some r) (w0 : World) (hm : Mem w0 (ownL ([] ++ [.sn S0])) ([] ++ [.sn S0]) w0) :
    Calls Try.prog 5 #[.agg csa0.toArray, .agg csa1.toArray, .int .i64 a2] w0 (Ret w0 S0 [] (fun v L1 S1 => v = .bool r ∧ L1 = [] ∧ True)) := by
  unfold chatelainelaw29_OpBack at hf
  obtain ⟨k1, k2, rfl, ⟨rfl, hr3⟩, ⟨k4, k5, rfl, ⟨rfl, hr6⟩, ⟨k7, k8, rfl, ⟨rfl, hr9⟩, ⟨k10, k11, rfl, ⟨rfl, hr12⟩, ⟨k13, k14, rfl, ⟨rfl, hr15⟩, ⟨k16, k17, rfl, ⟨A18, c19, rfl, hs20⟩, ⟨A21, c22, rfl, hs23⟩⟩⟩⟩⟩⟩⟩ := hsa0
  obtain ⟨k24, k25, rfl, ⟨rfl, hr26⟩, ⟨k27, k28, rfl, ⟨rfl, hr29⟩, ⟨k30, k31, rfl, ⟨rfl, hr32⟩, ⟨k33, k34, rfl, ⟨rfl, hr35⟩, ⟨k36, k37, rfl, ⟨rfl, hr38⟩, ⟨k39, k40, rfl, ⟨A41, c42, rfl, hs43⟩, ⟨A44, c45, rfl, hs46⟩⟩⟩⟩⟩⟩⟩ := hsa1
  refine c_enterM Try.func5 rfl 100 rfl (by simp) _ hm _ rfl (fun a h => ?_)
  refine c_rs ?_ -- region 0
  refine s_box h rfl rfl rfl (by decide) rfl (cs := [.int .i64 a0.1, .int .i64 a0.2.1, .int .i64 a0.2.2.1, .int .i64 a0.2.2.2.1, .int .i64 a0.2.2.2.2.1, .slice A18 a0.2.2.2.2.2.1.length c19, .slice A21 a0.2.2.2.2.2.2.length c22]) (by rfl) (fun a w g47 h => ?_)
  refine s_box h rfl rfl rfl (by decide) rfl (cs := [.int .i64 a1.1, .int .i64 a1.2.1, .int .i64 a1.2.2.1, .int .i64 a1.2.2.2.1, .int .i64 a1.2.2.2.2.1, .slice A41 a1.2.2.2.2.2.1.length c42, .slice A44 a1.2.2.2.2.2.2.length c45]) (by rfl) (fun a w g48 h => ?_)
  refine s_assign h rfl _ rfl rfl (by decide) rfl (fun a h => ?_)
  refine l_end ?_
  refine wp_seq ?_
  refine c_rs ?_ -- region 1
  obtain ⟨x49, h50, hf⟩ := bsome hf
  have hX := chatelainelaw29_awake_ok Fu (S0 := snapAll _)  _ h50 _ h.startAll
  refine q_callX hX h rfl rfl rfl (by decide) Try.func13 rfl rfl rfl (fun a w v L1 S1 hR hb1 h => ?_)
  obtain ⟨rfl, rfl, _⟩ := hR
  refine s_x h rfl rfl (by decide) (x_not h.k rfl rfl) (fun a h => ?_)
  refine l_end ?_
  refine c_cond h rfl (fun hb => ?_) (fun hb => ?_)
  · rw [if_pos hb] at hf
    refine c_rs ?_ -- region 2
    refine s_assign h rfl _ rfl rfl (by decide) rfl (fun a h => ?_)
    refine l_end ?_
    refine wp_ret ?_
    refine e_thenR ?_
    rw [← Option.some.inj hf]
    exact r_ret1 h rfl (rv_tmp h rfl) ⟨_, [], _, rfl, ⟨rfl, rfl, trivial⟩, rfl, (Up.refl _ _ _), (h.m.pick [2] _ (by decide) rfl)⟩
  · rw [if_neg (by rw [hb]; decide)] at hf
    refine wp_skip ?_
    refine e_thenN ?_
    refine wp_seq ?_
    refine c_rs ?_ -- region 3
    refine s_x h rfl rfl (by decide) (x_faddr h.k rfl Try.underlying24 rfl sz_Suint8 rfl) (fun a h => ?_)
    refine s_x h rfl rfl (by decide) (x_ld h.k rfl Try.underlying22 rfl rfl ((h.m.cell (i := 1) rfl 5).trans rfl)) (fun a h => ?_)
    refine s_x h rfl rfl (by decide) (x_len h.k rfl Try.underlying22 rfl) (fun a h => ?_)
    refine s_x h rfl rfl (by decide) (x_bin h.k rfl rfl rfl ib_gtr) (fun a h => ?_)
    refine s_move h rfl _ rfl rfl (by decide) rfl (fun a h => ?_)
    refine q_grp h 5 (t := 19) 24 ((decide (300 < (a0.2.2.2.2.2.1.length : Int))) || (decide (600 < (a0.2.2.2.2.2.2.length : Int)))) rfl (fun hB4 => ?_) (fun hB4 => ?_) (fun a w h => ?_)
    · refine g_no h rfl rfl rfl rfl hB4 rfl (by decide) (fun a h => ?_)
      refine g_no h rfl rfl rfl rfl hB4 rfl (by decide) (fun a h => ?_)
      refine g_no h rfl rfl rfl rfl hB4 rfl (by decide) (fun a h => ?_)
      refine g_no h rfl rfl rfl rfl hB4 rfl (by decide) (fun a h => ?_)
      refine s_x h rfl rfl (by decide) (x_pick (u' := undef) h.k rfl rfl (fun _ => rfl) (fun hh => absurd (hB4.symm.trans hh) (by decide))) (fun a h => ?_)
      exact (h.mid 4 rfl).val (by first | rfl | (rw [hB4]; first | rfl | simp))
    · refine g_yes h rfl rfl rfl rfl hB4 ?_
      refine s_x h rfl rfl (by decide) (x_faddr h.k rfl Try.underlying24 rfl sz_Suint8 rfl) (fun a h => ?_)
      refine g_yes h rfl rfl rfl rfl hB4 ?_
      refine s_x h rfl rfl (by decide) (x_ld h.k rfl Try.underlying22 rfl rfl ((h.m.cell (i := 1) rfl 6).trans rfl)) (fun a h => ?_)
      refine g_yes h rfl rfl rfl rfl hB4 ?_
      refine s_x h rfl rfl (by decide) (x_len h.k rfl Try.underlying22 rfl) (fun a h => ?_)
      refine g_yes h rfl rfl rfl rfl hB4 ?_
      refine s_x h rfl rfl (by decide) (x_bin h.k rfl rfl rfl ib_gtr) (fun a h => ?_)
      refine s_x h rfl rfl (by decide) (x_pick (u' := undef) h.k rfl rfl (fun hh => absurd (hB4.symm.trans hh) (by decide)) (fun _ => rfl)) (fun a h => ?_)
      exact (h.mid 4 rfl).val (by first | rfl | (rw [hB4]; first | rfl | simp))
    refine s_move h rfl _ rfl rfl (by decide) rfl (fun a h => ?_)
    refine q_grp h 5 (t := 25) 30 (((decide (300 < (a0.2.2.2.2.2.1.length : Int))) || (decide (600 < (a0.2.2.2.2.2.2.length : Int)))) || (decide (300 < (a1.2.2.2.2.2.1.length : Int)))) rfl (fun hB10 => ?_) (fun hB10 => ?_) (fun a w h => ?_)
    · refine g_no h rfl rfl rfl rfl hB10 rfl (by decide) (fun a h => ?_)
      refine g_no h rfl rfl rfl rfl hB10 rfl (by decide) (fun a h => ?_)
      refine g_no h rfl rfl rfl rfl hB10 rfl (by decide) (fun a h => ?_)
      refine g_no h rfl rfl rfl rfl hB10 rfl (by decide) (fun a h => ?_)
      refine s_x h rfl rfl (by decide) (x_pick (u' := undef) h.k rfl rfl (fun _ => rfl) (fun hh => absurd (hB10.symm.trans hh) (by decide))) (fun a h => ?_)
      exact (h.mid 4 rfl).val (by first | rfl | (rw [hB10]; first | rfl | simp))
    · refine g_yes h rfl rfl rfl rfl hB10 ?_
      refine s_x h rfl rfl (by decide) (x_faddr h.k rfl Try.underlying24 rfl sz_Suint8 rfl) (fun a h => ?_)
      refine g_yes h rfl rfl rfl rfl hB10 ?_
      refine s_x h rfl rfl (by decide) (x_ld h.k rfl Try.underlying22 rfl rfl ((h.m.cell (i := 0) rfl 5).trans rfl)) (fun a h => ?_)
      refine g_yes h rfl rfl rfl rfl hB10 ?_
      refine s_x h rfl rfl (by decide) (x_len h.k rfl Try.underlying22 rfl) (fun a h => ?_)
      refine g_yes h rfl rfl rfl rfl hB10 ?_
      refine s_x h rfl rfl (by decide) (x_bin h.k rfl rfl rfl ib_gtr) (fun a h => ?_)
      refine s_x h rfl rfl (by decide) (x_pick (u' := undef) h.k rfl rfl (fun hh => absurd (hB10.symm.trans hh) (by decide)) (fun _ => rfl)) (fun a h => ?_)
      exact (h.mid 4 rfl).val (by first | rfl | (rw [hB10]; first | rfl | simp))
    refine s_move h rfl _ rfl rfl (by decide) rfl (fun a h => ?_)
    refine q_grp h 5 (t := 31) 36 ((((decide (300 < (a0.2.2.2.2.2.1.length : Int))) || (decide (600 < (a0.2.2.2.2.2.2.length : Int)))) || (decide (300 < (a1.2.2.2.2.2.1.length : Int)))) || (decide (600 < (a1.2.2.2.2.2.2.length : Int)))) rfl (fun hB16 => ?_) (fun hB16 => ?_) (fun a w h => ?_)
    · refine g_no h rfl rfl rfl rfl hB16 rfl (by decide) (fun a h => ?_)
      refine g_no h rfl rfl rfl rfl hB16 rfl (by decide) (fun a h => ?_)
      refine g_no h rfl rfl rfl rfl hB16 rfl (by decide) (fun a h => ?_)
      refine g_no h rfl rfl rfl rfl hB16 rfl (by decide) (fun a h => ?_)
      refine s_x h rfl rfl (by decide) (x_pick (u' := undef) h.k rfl rfl (fun _ => rfl) (fun hh => absurd (hB16.symm.trans hh) (by decide))) (fun a h => ?_)
      exact (h.mid 4 rfl).val (by first | rfl | (rw [hB16]; first | rfl | simp))
    · refine g_yes h rfl rfl rfl rfl hB16 ?_
      refine s_x h rfl rfl (by decide) (x_faddr h.k rfl Try.underlying24 rfl sz_Suint8 rfl) (fun a h => ?_)
      refine g_yes h rfl rfl rfl rfl hB16 ?_
      refine s_x h rfl rfl (by decide) (x_ld h.k rfl Try.underlying22 rfl rfl ((h.m.cell (i := 0) rfl 6).trans rfl)) (fun a h => ?_)
      refine g_yes h rfl rfl rfl rfl hB16 ?_
      refine s_x h rfl rfl (by decide) (x_len h.k rfl Try.underlying22 rfl) (fun a h => ?_)
      refine g_yes h rfl rfl rfl rfl hB16 ?_
      refine s_x h rfl rfl (by decide) (x_bin h.k rfl rfl rfl ib_gtr) (fun a h => ?_)
      refine s_x h rfl rfl (by decide) (x_pick (u' := undef) h.k rfl rfl (fun hh => absurd (hB16.symm.trans hh) (by decide)) (fun _ => rfl)) (fun a h => ?_)
      exact (h.mid 4 rfl).val (by first | rfl | (rw [hB16]; first | rfl | simp))
    refine l_end ?_
    refine c_cond h rfl (fun hb => ?_) (fun hb => ?_)
    · rw [if_pos hb] at hf
      refine c_rs ?_ -- region 4
      refine s_assign h rfl _ rfl rfl (by decide) rfl (fun a h => ?_)
      refine l_end ?_
      refine wp_ret ?_
      refine e_thenR ?_
      rw [← Option.some.inj hf]
      exact r_ret1 h rfl (rv_tmp h rfl) ⟨_, [], _, rfl, ⟨rfl, rfl, trivial⟩, rfl, (Up.refl _ _ _), (h.m.pick [2] _ (by decide) rfl)⟩
    · rw [if_neg (by rw [hb]; decide)] at hf
      refine wp_skip ?_
      refine e_thenN ?_
      refine c_rs ?_ -- region 5
      refine s_x h rfl rfl (by decide) (x_ldR h.k rfl ag_api_Op rfl ([.int .i64 a0.1, .int .i64 a0.2.1, .int .i64 a0.2.2.1, .int .i64 a0.2.2.2.1, .int .i64 a0.2.2.2.2.1, .slice A18 a0.2.2.2.2.2.1.length c19, .slice A21 a0.2.2.2.2.2.2.length c22]) rfl (h.m.range0 (i := 1) rfl)) (fun a h => ?_)
      refine s_move h rfl _ rfl rfl (by decide) rfl (fun a h => ?_)
      obtain ⟨x58, h59, hf⟩ := bsome hf
      have hX := op_Put_ok Fu (S0 := snapAll _) ([.int .i64 a0.1, .int .i64 a0.2.1, .int .i64 a0.2.2.1, .int .i64 a0.2.2.2.1, .int .i64 a0.2.2.2.2.1, .slice A18 a0.2.2.2.2.2.1.length c19, .slice A21 a0.2.2.2.2.2.2.length c22]) a0 ((tyP tyI (tyP tyI (tyP tyI (tyP tyI (tyP tyI (tyP (tyL ty8) (tyL ty8))))))).mono (h.m.leAll (i := 2) rfl) (show (tyP tyI (tyP tyI (tyP tyI (tyP tyI (tyP tyI (tyP (tyL ty8) (tyL ty8))))))).rep S0 ([.int .i64 a0.1, .int .i64 a0.2.1, .int .i64 a0.2.2.1, .int .i64 a0.2.2.2.1, .int .i64 a0.2.2.2.2.1, .slice A18 a0.2.2.2.2.2.1.length c19, .slice A21 a0.2.2.2.2.2.2.length c22]) a0 from ⟨[.int .i64 a0.1], [.int .i64 a0.2.1, .int .i64 a0.2.2.1, .int .i64 a0.2.2.2.1, .int .i64 a0.2.2.2.2.1, .slice A18 a0.2.2.2.2.2.1.length c19, .slice A21 a0.2.2.2.2.2.2.length c22], rfl, ⟨rfl, hr3⟩, ⟨[.int .i64 a0.2.1], [.int .i64 a0.2.2.1, .int .i64 a0.2.2.2.1, .int .i64 a0.2.2.2.2.1, .slice A18 a0.2.2.2.2.2.1.length c19, .slice A21 a0.2.2.2.2.2.2.length c22], rfl, ⟨rfl, hr6⟩, ⟨[.int .i64 a0.2.2.1], [.int .i64 a0.2.2.2.1, .int .i64 a0.2.2.2.2.1, .slice A18 a0.2.2.2.2.2.1.length c19, .slice A21 a0.2.2.2.2.2.2.length c22], rfl, ⟨rfl, hr9⟩, ⟨[.int .i64 a0.2.2.2.1], [.int .i64 a0.2.2.2.2.1, .slice A18 a0.2.2.2.2.2.1.length c19, .slice A21 a0.2.2.2.2.2.2.length c22], rfl, ⟨rfl, hr12⟩, ⟨[.int .i64 a0.2.2.2.2.1], [.slice A18 a0.2.2.2.2.2.1.length c19, .slice A21 a0.2.2.2.2.2.2.length c22], rfl, ⟨rfl, hr15⟩, ⟨[.slice A18 a0.2.2.2.2.2.1.length c19], [.slice A21 a0.2.2.2.2.2.2.length c22], rfl, ⟨_, _, rfl, hs20⟩, ⟨_, _, rfl, hs23⟩⟩⟩⟩⟩⟩⟩)) a2 hra2 _ h59 _ h.startAll
      refine q_callX hX h rfl rfl rfl (by decide) Try.func14 rfl rfl rfl (fun a w v L1 S1 hR hb1 h => ?_)
      obtain ⟨A61, c62, cs63, rfl, rfl, hq64, hr65, _⟩ := hR
      have hq66 := hq64.fl (S' := S0) fl_8
      refine s_move h rfl _ rfl rfl (by decide) rfl (fun a h => ?_)
      refine s_x h rfl rfl (by decide) (x_ext h.k rfl rfl rfl) (fun a h => ?_)
      refine s_x h rfl rfl (by decide) (x_ext h.k rfl rfl rfl) (fun a h => ?_)
      refine s_assign h rfl _ rfl rfl (by decide) rfl (fun a h => ?_)
      refine s_assign h rfl _ rfl rfl (by decide) rfl (fun a h => ?_)
      refine l_end ?_
      refine c_rs ?_ -- region 6
      refine s_x h rfl rfl (by decide) (x_ldR h.k rfl ag_api_Op rfl ([.int .i64 a1.1, .int .i64 a1.2.1, .int .i64 a1.2.2.1, .int .i64 a1.2.2.2.1, .int .i64 a1.2.2.2.2.1, .slice A41 a1.2.2.2.2.2.1.length c42, .slice A44 a1.2.2.2.2.2.2.length c45]) rfl (h.m.range0 (i := 1) rfl)) (fun a h => ?_)
      refine s_move h rfl _ rfl rfl (by decide) rfl (fun a h => ?_)
      obtain ⟨x67, h68, hf⟩ := bsome hf
      have hX := op_Put_ok Fu (S0 := snapAll _) ([.int .i64 a1.1, .int .i64 a1.2.1, .int .i64 a1.2.2.1, .int .i64 a1.2.2.2.1, .int .i64 a1.2.2.2.2.1, .slice A41 a1.2.2.2.2.2.1.length c42, .slice A44 a1.2.2.2.2.2.2.length c45]) a1 ((tyP tyI (tyP tyI (tyP tyI (tyP tyI (tyP tyI (tyP (tyL ty8) (tyL ty8))))))).mono (h.m.leAll (i := 3) rfl) (show (tyP tyI (tyP tyI (tyP tyI (tyP tyI (tyP tyI (tyP (tyL ty8) (tyL ty8))))))).rep S0 ([.int .i64 a1.1, .int .i64 a1.2.1, .int .i64 a1.2.2.1, .int .i64 a1.2.2.2.1, .int .i64 a1.2.2.2.2.1, .slice A41 a1.2.2.2.2.2.1.length c42, .slice A44 a1.2.2.2.2.2.2.length c45]) a1 from ⟨[.int .i64 a1.1], [.int .i64 a1.2.1, .int .i64 a1.2.2.1, .int .i64 a1.2.2.2.1, .int .i64 a1.2.2.2.2.1, .slice A41 a1.2.2.2.2.2.1.length c42, .slice A44 a1.2.2.2.2.2.2.length c45], rfl, ⟨rfl, hr26⟩, ⟨[.int .i64 a1.2.1], [.int .i64 a1.2.2.1, .int .i64 a1.2.2.2.1, .int .i64 a1.2.2.2.2.1, .slice A41 a1.2.2.2.2.2.1.length c42, .slice A44 a1.2.2.2.2.2.2.length c45], rfl, ⟨rfl, hr29⟩, ⟨[.int .i64 a1.2.2.1], [.int .i64 a1.2.2.2.1, .int .i64 a1.2.2.2.2.1, .slice A41 a1.2.2.2.2.2.1.length c42, .slice A44 a1.2.2.2.2.2.2.length c45], rfl, ⟨rfl, hr32⟩, ⟨[.int .i64 a1.2.2.2.1], [.int .i64 a1.2.2.2.2.1, .slice A41 a1.2.2.2.2.2.1.length c42, .slice A44 a1.2.2.2.2.2.2.length c45], rfl, ⟨rfl, hr35⟩, ⟨[.int .i64 a1.2.2.2.2.1], [.slice A41 a1.2.2.2.2.2.1.length c42, .slice A44 a1.2.2.2.2.2.2.length c45], rfl, ⟨rfl, hr38⟩, ⟨[.slice A41 a1.2.2.2.2.2.1.length c42], [.slice A44 a1.2.2.2.2.2.2.length c45], rfl, ⟨_, _, rfl, hs43⟩, ⟨_, _, rfl, hs46⟩⟩⟩⟩⟩⟩⟩)) a2 hra2 _ h68 _ h.startAll
      refine q_callX hX h rfl rfl rfl (by decide) Try.func14 rfl rfl rfl (fun a w v L1 S1 hR hb1 h => ?_)
      obtain ⟨A70, c71, cs72, rfl, rfl, hq73, hr74, _⟩ := hR
      have hq75 := hq73.fl (S' := S0) fl_8
      refine s_move h rfl _ rfl rfl (by decide) rfl (fun a h => ?_)
      refine s_x h rfl rfl (by decide) (x_ext h.k rfl rfl rfl) (fun a h => ?_)
      refine s_x h rfl rfl (by decide) (x_ext h.k rfl rfl rfl) (fun a h => ?_)
      refine s_assign h rfl _ rfl rfl (by decide) rfl (fun a h => ?_)
      refine s_assign h rfl _ rfl rfl (by decide) rfl (fun a h => ?_)
      refine l_end ?_
      refine wp_seq ?_
      refine wp_seq ?_
      -- region 7 draws
      obtain ⟨x76, h77, hf⟩ := bsome hf
      obtain ⟨x79, h80, hf⟩ := bsome hf
      refine d_start h (Mem _ _ _) 7 7 rfl (by kernel_rfl) (fun _ _ _ _ _ h => h) (fun _ h => h) (fun Q a w HE HN h HS => ?_)
      refine d_take h HS HN 0 rfl (by kernel_rfl) (by kernel_rfl) (by kernel_rfl) (by kernel_rfl) (by kernel_rfl) rfl rfl (by decide) (fun w' hw => x_ldR h.k rfl ag_api_Op rfl ([.int .i64 a0.1, .int .i64 a0.2.1, .int .i64 a0.2.2.1, .int .i64 a0.2.2.2.1, .int .i64 a0.2.2.2.2.1, .slice A18 a0.2.2.2.2.2.1.length c19, .slice A21 a0.2.2.2.2.2.2.length c22]) rfl (hw.range0 (i := 3) rfl)) (fun a h => ?_)
      refine d_take h HS HN 1 rfl (by kernel_rfl) (by kernel_rfl) (by kernel_rfl) (by kernel_rfl) (by kernel_rfl) rfl rfl (by decide) (fun w' hw => x_ldR h.k rfl ag_api_Op rfl ([.int .i64 a1.1, .int .i64 a1.2.1, .int .i64 a1.2.2.1, .int .i64 a1.2.2.2.1, .int .i64 a1.2.2.2.2.1, .slice A41 a1.2.2.2.2.2.1.length c42, .slice A44 a1.2.2.2.2.2.2.length c45]) rfl (hw.range0 (i := 2) rfl)) (fun a h => ?_)
      refine d_take h HS HN 3 rfl (by kernel_rfl) (by kernel_rfl) (by kernel_rfl) (by kernel_rfl) (by kernel_rfl) rfl rfl (by decide) (fun w' hw => x_ldR h.k rfl ag_api_Op rfl ([.int .i64 a0.1, .int .i64 a0.2.1, .int .i64 a0.2.2.1, .int .i64 a0.2.2.2.1, .int .i64 a0.2.2.2.2.1, .slice A18 a0.2.2.2.2.2.1.length c19, .slice A21 a0.2.2.2.2.2.2.length c22]) rfl (hw.range0 (i := 3) rfl)) (fun a h => ?_)
      refine d_take h HS HN 4 rfl (by kernel_rfl) (by kernel_rfl) (by kernel_rfl) (by kernel_rfl) (by kernel_rfl) rfl rfl (by decide) (fun w' hw => x_ldR h.k rfl ag_api_Op rfl ([.int .i64 a1.1, .int .i64 a1.2.1, .int .i64 a1.2.2.1, .int .i64 a1.2.2.2.1, .int .i64 a1.2.2.2.2.1, .slice A41 a1.2.2.2.2.2.1.length c42, .slice A44 a1.2.2.2.2.2.2.length c45]) rfl (hw.range0 (i := 2) rfl)) (fun a h => ?_)
      refine d_alone 2 rfl (by kernel_rfl) (fun K hK => ?_)
      have hX := op_Same_ok Fu (S0 := snapAll _) ([.int .i64 a0.1, .int .i64 a0.2.1, .int .i64 a0.2.2.1, .int .i64 a0.2.2.2.1, .int .i64 a0.2.2.2.2.1, .slice A18 a0.2.2.2.2.2.1.length c19, .slice A21 a0.2.2.2.2.2.2.length c22]) a0 ((tyP tyI (tyP tyI (tyP tyI (tyP tyI (tyP tyI (tyP (tyL ty8) (tyL ty8))))))).mono (h.m.leAll (i := 4) rfl) (show (tyP tyI (tyP tyI (tyP tyI (tyP tyI (tyP tyI (tyP (tyL ty8) (tyL ty8))))))).rep S0 ([.int .i64 a0.1, .int .i64 a0.2.1, .int .i64 a0.2.2.1, .int .i64 a0.2.2.2.1, .int .i64 a0.2.2.2.2.1, .slice A18 a0.2.2.2.2.2.1.length c19, .slice A21 a0.2.2.2.2.2.2.length c22]) a0 from ⟨[.int .i64 a0.1], [.int .i64 a0.2.1, .int .i64 a0.2.2.1, .int .i64 a0.2.2.2.1, .int .i64 a0.2.2.2.2.1, .slice A18 a0.2.2.2.2.2.1.length c19, .slice A21 a0.2.2.2.2.2.2.length c22], rfl, ⟨rfl, hr3⟩, ⟨[.int .i64 a0.2.1], [.int .i64 a0.2.2.1, .int .i64 a0.2.2.2.1, .int .i64 a0.2.2.2.2.1, .slice A18 a0.2.2.2.2.2.1.length c19, .slice A21 a0.2.2.2.2.2.2.length c22], rfl, ⟨rfl, hr6⟩, ⟨[.int .i64 a0.2.2.1], [.int .i64 a0.2.2.2.1, .int .i64 a0.2.2.2.2.1, .slice A18 a0.2.2.2.2.2.1.length c19, .slice A21 a0.2.2.2.2.2.2.length c22], rfl, ⟨rfl, hr9⟩, ⟨[.int .i64 a0.2.2.2.1], [.int .i64 a0.2.2.2.2.1, .slice A18 a0.2.2.2.2.2.1.length c19, .slice A21 a0.2.2.2.2.2.2.length c22], rfl, ⟨rfl, hr12⟩, ⟨[.int .i64 a0.2.2.2.2.1], [.slice A18 a0.2.2.2.2.2.1.length c19, .slice A21 a0.2.2.2.2.2.2.length c22], rfl, ⟨rfl, hr15⟩, ⟨[.slice A18 a0.2.2.2.2.2.1.length c19], [.slice A21 a0.2.2.2.2.2.2.length c22], rfl, ⟨_, _, rfl, hs20⟩, ⟨_, _, rfl, hs23⟩⟩⟩⟩⟩⟩⟩)) ([.int .i64 a1.1, .int .i64 a1.2.1, .int .i64 a1.2.2.1, .int .i64 a1.2.2.2.1, .int .i64 a1.2.2.2.2.1, .slice A41 a1.2.2.2.2.2.1.length c42, .slice A44 a1.2.2.2.2.2.2.length c45]) a1 ((tyP tyI (tyP tyI (tyP tyI (tyP tyI (tyP tyI (tyP (tyL ty8) (tyL ty8))))))).mono (h.m.leAll (i := 4) rfl) (show (tyP tyI (tyP tyI (tyP tyI (tyP tyI (tyP tyI (tyP (tyL ty8) (tyL ty8))))))).rep S0 ([.int .i64 a1.1, .int .i64 a1.2.1, .int .i64 a1.2.2.1, .int .i64 a1.2.2.2.1, .int .i64 a1.2.2.2.2.1, .slice A41 a1.2.2.2.2.2.1.length c42, .slice A44 a1.2.2.2.2.2.2.length c45]) a1 from ⟨[.int .i64 a1.1], [.int .i64 a1.2.1, .int .i64 a1.2.2.1, .int .i64 a1.2.2.2.1, .int .i64 a1.2.2.2.2.1, .slice A41 a1.2.2.2.2.2.1.length c42, .slice A44 a1.2.2.2.2.2.2.length c45], rfl, ⟨rfl, hr26⟩, ⟨[.int .i64 a1.2.1], [.int .i64 a1.2.2.1, .int .i64 a1.2.2.2.1, .int .i64 a1.2.2.2.2.1, .slice A41 a1.2.2.2.2.2.1.length c42, .slice A44 a1.2.2.2.2.2.2.length c45], rfl, ⟨rfl, hr29⟩, ⟨[.int .i64 a1.2.2.1], [.int .i64 a1.2.2.2.1, .int .i64 a1.2.2.2.2.1, .slice A41 a1.2.2.2.2.2.1.length c42, .slice A44 a1.2.2.2.2.2.2.length c45], rfl, ⟨rfl, hr32⟩, ⟨[.int .i64 a1.2.2.2.1], [.int .i64 a1.2.2.2.2.1, .slice A41 a1.2.2.2.2.2.1.length c42, .slice A44 a1.2.2.2.2.2.2.length c45], rfl, ⟨rfl, hr35⟩, ⟨[.int .i64 a1.2.2.2.2.1], [.slice A41 a1.2.2.2.2.2.1.length c42, .slice A44 a1.2.2.2.2.2.2.length c45], rfl, ⟨rfl, hr38⟩, ⟨[.slice A41 a1.2.2.2.2.2.1.length c42], [.slice A44 a1.2.2.2.2.2.2.length c45], rfl, ⟨_, _, rfl, hs43⟩, ⟨_, _, rfl, hs46⟩⟩⟩⟩⟩⟩⟩)) _ h77 _ h.startAll
      refine q_callX hX h rfl rfl rfl (by decide) Try.func18 rfl rfl rfl (fun a w v L1 S1 hR hb1 h => ?_)
      obtain ⟨rfl, rfl, _⟩ := hR
      refine hK _ _ (fun _ _ => HS.ext hb1) ?_
      replace HS := HS.ext hb1
      clear hK
      refine d_alone 5 rfl (by kernel_rfl) (fun K hK => ?_)
      have hX := chatelaineref29_Same_ok Fu (S0 := snapAll _) ([.int .i64 a0.1, .int .i64 a0.2.1, .int .i64 a0.2.2.1, .int .i64 a0.2.2.2.1, .int .i64 a0.2.2.2.2.1, .slice A18 a0.2.2.2.2.2.1.length c19, .slice A21 a0.2.2.2.2.2.2.length c22]) a0 ((tyP tyI (tyP tyI (tyP tyI (tyP tyI (tyP tyI (tyP (tyL ty8) (tyL ty8))))))).mono (h.m.leAll (i := 4) rfl) (show (tyP tyI (tyP tyI (tyP tyI (tyP tyI (tyP tyI (tyP (tyL ty8) (tyL ty8))))))).rep S0 ([.int .i64 a0.1, .int .i64 a0.2.1, .int .i64 a0.2.2.1, .int .i64 a0.2.2.2.1, .int .i64 a0.2.2.2.2.1, .slice A18 a0.2.2.2.2.2.1.length c19, .slice A21 a0.2.2.2.2.2.2.length c22]) a0 from ⟨[.int .i64 a0.1], [.int .i64 a0.2.1, .int .i64 a0.2.2.1, .int .i64 a0.2.2.2.1, .int .i64 a0.2.2.2.2.1, .slice A18 a0.2.2.2.2.2.1.length c19, .slice A21 a0.2.2.2.2.2.2.length c22], rfl, ⟨rfl, hr3⟩, ⟨[.int .i64 a0.2.1], [.int .i64 a0.2.2.1, .int .i64 a0.2.2.2.1, .int .i64 a0.2.2.2.2.1, .slice A18 a0.2.2.2.2.2.1.length c19, .slice A21 a0.2.2.2.2.2.2.length c22], rfl, ⟨rfl, hr6⟩, ⟨[.int .i64 a0.2.2.1], [.int .i64 a0.2.2.2.1, .int .i64 a0.2.2.2.2.1, .slice A18 a0.2.2.2.2.2.1.length c19, .slice A21 a0.2.2.2.2.2.2.length c22], rfl, ⟨rfl, hr9⟩, ⟨[.int .i64 a0.2.2.2.1], [.int .i64 a0.2.2.2.2.1, .slice A18 a0.2.2.2.2.2.1.length c19, .slice A21 a0.2.2.2.2.2.2.length c22], rfl, ⟨rfl, hr12⟩, ⟨[.int .i64 a0.2.2.2.2.1], [.slice A18 a0.2.2.2.2.2.1.length c19, .slice A21 a0.2.2.2.2.2.2.length c22], rfl, ⟨rfl, hr15⟩, ⟨[.slice A18 a0.2.2.2.2.2.1.length c19], [.slice A21 a0.2.2.2.2.2.2.length c22], rfl, ⟨_, _, rfl, hs20⟩, ⟨_, _, rfl, hs23⟩⟩⟩⟩⟩⟩⟩)) ([.int .i64 a1.1, .int .i64 a1.2.1, .int .i64 a1.2.2.1, .int .i64 a1.2.2.2.1, .int .i64 a1.2.2.2.2.1, .slice A41 a1.2.2.2.2.2.1.length c42, .slice A44 a1.2.2.2.2.2.2.length c45]) a1 ((tyP tyI (tyP tyI (tyP tyI (tyP tyI (tyP tyI (tyP (tyL ty8) (tyL ty8))))))).mono (h.m.leAll (i := 4) rfl) (show (tyP tyI (tyP tyI (tyP tyI (tyP tyI (tyP tyI (tyP (tyL ty8) (tyL ty8))))))).rep S0 ([.int .i64 a1.1, .int .i64 a1.2.1, .int .i64 a1.2.2.1, .int .i64 a1.2.2.2.1, .int .i64 a1.2.2.2.2.1, .slice A41 a1.2.2.2.2.2.1.length c42, .slice A44 a1.2.2.2.2.2.2.length c45]) a1 from ⟨[.int .i64 a1.1], [.int .i64 a1.2.1, .int .i64 a1.2.2.1, .int .i64 a1.2.2.2.1, .int .i64 a1.2.2.2.2.1, .slice A41 a1.2.2.2.2.2.1.length c42, .slice A44 a1.2.2.2.2.2.2.length c45], rfl, ⟨rfl, hr26⟩, ⟨[.int .i64 a1.2.1], [.int .i64 a1.2.2.1, .int .i64 a1.2.2.2.1, .int .i64 a1.2.2.2.2.1, .slice A41 a1.2.2.2.2.2.1.length c42, .slice A44 a1.2.2.2.2.2.2.length c45], rfl, ⟨rfl, hr29⟩, ⟨[.int .i64 a1.2.2.1], [.int .i64 a1.2.2.2.1, .int .i64 a1.2.2.2.2.1, .slice A41 a1.2.2.2.2.2.1.length c42, .slice A44 a1.2.2.2.2.2.2.length c45], rfl, ⟨rfl, hr32⟩, ⟨[.int .i64 a1.2.2.2.1], [.int .i64 a1.2.2.2.2.1, .slice A41 a1.2.2.2.2.2.1.length c42, .slice A44 a1.2.2.2.2.2.2.length c45], rfl, ⟨rfl, hr35⟩, ⟨[.int .i64 a1.2.2.2.2.1], [.slice A41 a1.2.2.2.2.2.1.length c42, .slice A44 a1.2.2.2.2.2.2.length c45], rfl, ⟨rfl, hr38⟩, ⟨[.slice A41 a1.2.2.2.2.2.1.length c42], [.slice A44 a1.2.2.2.2.2.2.length c45], rfl, ⟨_, _, rfl, hs43⟩, ⟨_, _, rfl, hs46⟩⟩⟩⟩⟩⟩⟩)) _ h80 _ h.startAll
      refine q_callX hX h rfl rfl rfl (by decide) Try.func25 rfl rfl rfl (fun a w v L1 S1 hR hb1 h => ?_)
      obtain ⟨rfl, rfl, _⟩ := hR
      refine hK _ _ (fun _ _ => HS.ext hb1) ?_
      replace HS := HS.ext hb1
      clear hK
      refine d_takeP h (fun _ => HS) HN 6 rfl (by kernel_rfl) (by kernel_rfl) (by kernel_rfl) (by decide) rfl rfl (by decide) (fun w' => x_neqB h.k rfl Try.underlying4 rfl rfl) (fun a h => ?_)
      refine d_done (by kernel_rfl) (HE _ _ ?_) _
      refine e_thenN ?_
      refine c_cond h rfl (fun hb => ?_) (fun hb => ?_)
      · rw [if_pos hb] at hf
        refine c_rs ?_ -- region 8
        refine s_assign h rfl _ rfl rfl (by decide) rfl (fun a h => ?_)
        refine l_end ?_
        refine wp_ret ?_
        refine e_thenR ?_
        rw [← Option.some.inj hf]
        exact r_ret1 h rfl (rv_tmp h rfl) ⟨_, [], _, rfl, ⟨rfl, rfl, trivial⟩, rfl, (Up.refl _ _ _), (h.m.pick [4] _ (by decide) rfl)⟩
      · rw [if_neg (by rw [hb]; decide)] at hf
        refine wp_skip ?_
        refine e_thenN ?_
        refine wp_seq ?_
        refine c_rs ?_ -- region 9
        refine s_move h rfl _ rfl rfl (by decide) rfl (fun a h => ?_)
        refine s_x h rfl rfl (by decide) (x_bin h.k rfl rfl rfl ib_neq) (fun a h => ?_)
        refine s_move h rfl _ rfl rfl (by decide) rfl (fun a h => ?_)
        refine q_grp h 3 (t := 58) 61 ((decide (x58.2 ≠ 0)) || (decide (x67.2 ≠ 0))) rfl (fun hB2 => ?_) (fun hB2 => ?_) (fun a w h => ?_)
        · refine g_no h rfl rfl rfl rfl hB2 rfl (by decide) (fun a h => ?_)
          refine g_no h rfl rfl rfl rfl hB2 rfl (by decide) (fun a h => ?_)
          refine s_x h rfl rfl (by decide) (x_pick (u' := undef) h.k rfl rfl (fun _ => rfl) (fun hh => absurd (hB2.symm.trans hh) (by decide))) (fun a h => ?_)
          exact (h.mid 2 rfl).val (by first | rfl | (rw [hB2]; first | rfl | simp))
        · refine g_yes h rfl rfl rfl rfl hB2 ?_
          refine s_move h rfl _ rfl rfl (by decide) rfl (fun a h => ?_)
          refine g_yes h rfl rfl rfl rfl hB2 ?_
          refine s_x h rfl rfl (by decide) (x_bin h.k rfl rfl rfl ib_neq) (fun a h => ?_)
          refine s_x h rfl rfl (by decide) (x_pick (u' := undef) h.k rfl rfl (fun hh => absurd (hB2.symm.trans hh) (by decide)) (fun _ => rfl)) (fun a h => ?_)
          exact (h.mid 2 rfl).val (by first | rfl | (rw [hB2]; first | rfl | simp))
        refine l_end ?_
        refine c_cond h rfl (fun hb => ?_) (fun hb => ?_)
        · rw [if_pos hb] at hf
          refine c_rs ?_ -- region 10
          refine s_move h rfl _ rfl rfl (by decide) rfl (fun a h => ?_)
          refine s_x h rfl rfl (by decide) (x_bin h.k rfl rfl rfl ib_neq) (fun a h => ?_)
          refine s_move h rfl _ rfl rfl (by decide) rfl (fun a h => ?_)
          refine q_grp h 4 (t := 64) 68 ((decide (x58.2 ≠ 0)) && (decide ((x58.1.length : Int) = 0))) rfl (fun hB2 => ?_) (fun hB2 => ?_) (fun a w h => ?_)
          · refine g_yes h rfl rfl rfl rfl hB2 ?_
            refine s_move h rfl _ rfl rfl (by decide) rfl (fun a h => ?_)
            refine g_yes h rfl rfl rfl rfl hB2 ?_
            have hr86 : r64 (x58.1.length : Int) := len_r (h.m.rowLen (i := 1) rfl)
            refine s_x h rfl rfl (by decide) (x_len h.k rfl Try.underlying22 rfl) (fun a h => ?_)
            refine g_yes h rfl rfl rfl rfl hB2 ?_
            refine s_x h rfl rfl (by decide) (x_bin h.k rfl rfl rfl ib_eql) (fun a h => ?_)
            refine s_x h rfl rfl (by decide) (x_pick (u' := undef) h.k rfl rfl (fun _ => rfl) (fun hh => absurd (hB2.symm.trans hh) (by decide))) (fun a h => ?_)
            exact (h.mid 3 rfl).val (by first | rfl | (rw [hB2]; first | rfl | simp))
          · refine g_no h rfl rfl rfl rfl hB2 rfl (by decide) (fun a h => ?_)
            refine g_no h rfl rfl rfl rfl hB2 rfl (by decide) (fun a h => ?_)
            refine g_no h rfl rfl rfl rfl hB2 rfl (by decide) (fun a h => ?_)
            refine s_x h rfl rfl (by decide) (x_pick (u' := undef) h.k rfl rfl (fun hh => absurd (hB2.symm.trans hh) (by decide)) (fun _ => rfl)) (fun a h => ?_)
            exact (h.mid 3 rfl).val (by first | rfl | (rw [hB2]; first | rfl | simp))
          refine s_move h rfl _ rfl rfl (by decide) rfl (fun a h => ?_)
          refine q_grp h 8 (t := 69) 77 (((decide (x58.2 ≠ 0)) && (decide ((x58.1.length : Int) = 0))) || ((decide (x67.2 ≠ 0)) && (decide ((x67.1.length : Int) = 0)))) rfl (fun hB7 => ?_) (fun hB7 => ?_) (fun a w h => ?_)
          · refine g_no h rfl rfl rfl rfl hB7 rfl (by decide) (fun a h => ?_)
            refine g_no h rfl rfl rfl rfl hB7 rfl (by decide) (fun a h => ?_)
            refine g_no h rfl rfl rfl rfl hB7 rfl (by decide) (fun a h => ?_)
            refine g_off h rfl rfl rfl rfl rfl (by decide) (fun a h => ?_)
            refine g_off h rfl rfl rfl rfl rfl (by decide) (fun a h => ?_)
            refine g_off h rfl rfl rfl rfl rfl (by decide) (fun a h => ?_)
            refine g_no h rfl rfl rfl rfl hB7 rfl (by decide) (fun a h => ?_)
            refine s_x h rfl rfl (by decide) (x_pick (u' := undef) h.k rfl rfl (fun _ => rfl) (fun hh => absurd (hB7.symm.trans hh) (by decide))) (fun a h => ?_)
            exact (h.mid 7 rfl).val (by first | rfl | (rw [hB7]; first | rfl | simp))
          · refine g_yes h rfl rfl rfl rfl hB7 ?_
            refine s_move h rfl _ rfl rfl (by decide) rfl (fun a h => ?_)
            refine g_yes h rfl rfl rfl rfl hB7 ?_
            refine s_x h rfl rfl (by decide) (x_bin h.k rfl rfl rfl ib_neq) (fun a h => ?_)
            refine g_yes h rfl rfl rfl rfl hB7 ?_
            refine s_move h rfl _ rfl rfl (by decide) rfl (fun a h => ?_)
            refine q_grp h 4 (t := 72) 76 ((decide (x67.2 ≠ 0)) && (decide ((x67.1.length : Int) = 0))) rfl (fun hB10 => ?_) (fun hB10 => ?_) (fun a w h => ?_)
            · refine g_yes h rfl rfl rfl rfl hB10 ?_
              refine s_move h rfl _ rfl rfl (by decide) rfl (fun a h => ?_)
              refine g_yes h rfl rfl rfl rfl hB10 ?_
              have hr91 : r64 (x67.1.length : Int) := len_r (h.m.rowLen (i := 0) rfl)
              refine s_x h rfl rfl (by decide) (x_len h.k rfl Try.underlying22 rfl) (fun a h => ?_)
              refine g_yes h rfl rfl rfl rfl hB10 ?_
              refine s_x h rfl rfl (by decide) (x_bin h.k rfl rfl rfl ib_eql) (fun a h => ?_)
              refine g_yes h rfl rfl rfl rfl hB7 ?_
              refine s_x h rfl rfl (by decide) (x_pick (u' := undef) h.k rfl rfl (fun _ => rfl) (fun hh => absurd (hB10.symm.trans hh) (by decide))) (fun a h => ?_)
              exact (h.mid 3 rfl).val (by first | rfl | (rw [hB10]; first | rfl | simp))
            · refine g_no h rfl rfl rfl rfl hB10 rfl (by decide) (fun a h => ?_)
              refine g_no h rfl rfl rfl rfl hB10 rfl (by decide) (fun a h => ?_)
              refine g_no h rfl rfl rfl rfl hB10 rfl (by decide) (fun a h => ?_)
              refine g_yes h rfl rfl rfl rfl hB7 ?_
              refine s_x h rfl rfl (by decide) (x_pick (u' := undef) h.k rfl rfl (fun hh => absurd (hB10.symm.trans hh) (by decide)) (fun _ => rfl)) (fun a h => ?_)
              exact (h.mid 3 rfl).val (by first | rfl | (rw [hB10]; first | rfl | simp))
            refine s_x h rfl rfl (by decide) (x_pick (u' := undef) h.k rfl rfl (fun hh => absurd (hB7.symm.trans hh) (by decide)) (fun _ => rfl)) (fun a h => ?_)
            exact (h.mid 4 rfl).val (by first | rfl | (rw [hB7]; first | rfl | simp))
          refine s_assign h rfl _ rfl rfl (by decide) rfl (fun a h => ?_)
          refine l_end ?_
          refine wp_ret ?_
          refine e_thenR ?_
          obtain rfl := Option.some.inj hf
          exact r_ret1 h rfl (rv_tmp h rfl) ⟨_, [], _, rfl, ⟨rfl, rfl, trivial⟩, rfl, (Up.refl _ _ _), (h.m.pick [4] _ (by decide) rfl)⟩
        · rw [if_neg (by rw [hb]; decide)] at hf
          refine wp_skip ?_
          refine e_thenN ?_
          refine c_rs ?_ -- region 11
          refine s_move h rfl _ rfl rfl (by decide) rfl (fun a h => ?_)
          refine s_move h rfl _ rfl rfl (by decide) rfl (fun a h => ?_)
          have h := h.pick [1, 4, 0, 2, 3] (by decide) rfl
          obtain ⟨S92, le93, up94, hs95, h⟩ := q_freeze (T := ty8) h (Up.refl _ _ _) hq66
          obtain ⟨x96, h97, hf⟩ := bsome hf
          have hX := op_Take_ok Fu (S0 := S92) A61 c62 x58.1 hs95 a2 hra2 _ h97 _ (h.sub (Ls := []))
          refine q_callY (Ls := []) hX h up94 rfl rfl rfl (by decide) Try.func23 rfl rfl rfl (fun a w v L1 S99 hR le101 up100 h => ?_)
          obtain ⟨k102, rfl, rfl, hv103, hr127, _⟩ := hR
          obtain ⟨k104, k105, rfl, ⟨rfl, hr106⟩, ⟨k107, k108, rfl, ⟨rfl, hr109⟩, ⟨k110, k111, rfl, ⟨rfl, hr112⟩, ⟨k113, k114, rfl, ⟨rfl, hr115⟩, ⟨k116, k117, rfl, ⟨rfl, hr118⟩, ⟨k119, k120, rfl, ⟨A121, c122, rfl, hs123⟩, ⟨A124, c125, rfl, hs126⟩⟩⟩⟩⟩⟩⟩ := hv103
          refine s_move h rfl _ rfl rfl (by decide) rfl (fun a h => ?_)
          refine s_x h rfl rfl (by decide) (x_ext h.k rfl rfl rfl) (fun a h => ?_)
          refine s_x h rfl rfl (by decide) (x_ext h.k rfl rfl rfl) (fun a h => ?_)
          refine s_alloc h rfl rfl rfl (by decide) zi_api_Op rfl (fun a w g128 h => ?_)
          refine s_stW h rfl rfl rfl ag_api_Op rfl (es := [.int .i64 x96.1.1, .int .i64 x96.1.2.1, .int .i64 x96.1.2.2.1, .int .i64 x96.1.2.2.2.1, .int .i64 x96.1.2.2.2.2.1, .slice A121 x96.1.2.2.2.2.2.1.length c122, .slice A124 x96.1.2.2.2.2.2.2.length c125]) rfl rfl (by simp [Value.oneCell']) 0 rfl rfl (fun a w h => ?_)
          refine s_assign h rfl _ rfl rfl (by decide) rfl (fun a h => ?_)
          refine l_end ?_
          refine wp_seq ?_
          -- region 12 draws
          obtain ⟨z129, hz130, hf⟩ := bsome hf
          obtain ⟨z134, hz135, hf⟩ := bsome hf
          refine c_fin (fun a w => St 100 w0 (ownL ([] ++ [.sn S0])) [(6, .bool z134)] [.sn S99] a w) ?_ (fun a w h => ?_)
          · refine d_start h (Mem _ _ _) 17 17 rfl (by kernel_rfl) (fun _ _ _ _ _ h => h) (fun _ h => h) (fun Q a w HE HN h HS => ?_)
            refine d_takeP h (fun _ => HS) HN 0 rfl (by kernel_rfl) (by kernel_rfl) (by kernel_rfl) (by decide) rfl rfl (by decide) (fun w' => x_move h.k _ rfl rfl) (fun a h => ?_)
            refine d_takeP h (fun _ => HS) HN 1 rfl (by kernel_rfl) (by kernel_rfl) (by kernel_rfl) (by decide) rfl rfl (by decide) (fun w' => x_bin h.k rfl rfl rfl ib_eql) (fun a h => ?_)
            refine d_takeP h (fun _ => HS) HN 2 rfl (by kernel_rfl) (by kernel_rfl) (by kernel_rfl) (by decide) rfl rfl (by decide) (fun w' => x_move h.k _ rfl rfl) (fun a h => ?_)
            refine d_split (t := 86) h rfl (fun hB2 => ?_) (fun hB2 => ?_)
            · rw [if_pos (of_decide_eq_true hB2)] at hz130
              obtain ⟨x131, h132, hz130⟩ := bsome hz130
              refine d_takeY h HS HN 3 rfl (by kernel_rfl) (by kernel_rfl) (by kernel_rfl) (by kernel_rfl) (by kernel_rfl) (by rw [g_want h rfl rfl rfl rfl hB2]; rfl) rfl (by decide) (fun w' hw => x_ldR h.k rfl ag_api_Op rfl ([.int .i64 x96.1.1, .int .i64 x96.1.2.1, .int .i64 x96.1.2.2.1, .int .i64 x96.1.2.2.2.1, .int .i64 x96.1.2.2.2.2.1, .slice A121 x96.1.2.2.2.2.2.1.length c122, .slice A124 x96.1.2.2.2.2.2.2.length c125]) rfl (hw.range0 (i := 0) rfl)) (fun a h => ?_)
              refine d_takeY h HS HN 4 rfl (by kernel_rfl) (by kernel_rfl) (by kernel_rfl) (by kernel_rfl) (by kernel_rfl) (by rw [g_want h rfl rfl rfl rfl hB2]; rfl) rfl (by decide) (fun w' hw => x_ldR h.k rfl ag_api_Op rfl ([.int .i64 a0.1, .int .i64 a0.2.1, .int .i64 a0.2.2.1, .int .i64 a0.2.2.2.1, .int .i64 a0.2.2.2.2.1, .slice A18 a0.2.2.2.2.2.1.length c19, .slice A21 a0.2.2.2.2.2.2.length c22]) rfl (hw.range0 (i := 4) rfl)) (fun a h => ?_)
              refine d_alone 5 rfl (by kernel_rfl) (fun K hK => ?_)
              refine g_yes (j := 2) (t := 86) h rfl rfl rfl rfl hB2 ?_
              have hX := op_Same_ok Fu (S0 := snapAll _) ([.int .i64 x96.1.1, .int .i64 x96.1.2.1, .int .i64 x96.1.2.2.1, .int .i64 x96.1.2.2.2.1, .int .i64 x96.1.2.2.2.2.1, .slice A121 x96.1.2.2.2.2.2.1.length c122, .slice A124 x96.1.2.2.2.2.2.2.length c125]) x96.1 ((tyP tyI (tyP tyI (tyP tyI (tyP tyI (tyP tyI (tyP (tyL ty8) (tyL ty8))))))).mono (h.m.leAll (i := 1) rfl) (show (tyP tyI (tyP tyI (tyP tyI (tyP tyI (tyP tyI (tyP (tyL ty8) (tyL ty8))))))).rep S99 ([.int .i64 x96.1.1, .int .i64 x96.1.2.1, .int .i64 x96.1.2.2.1, .int .i64 x96.1.2.2.2.1, .int .i64 x96.1.2.2.2.2.1, .slice A121 x96.1.2.2.2.2.2.1.length c122, .slice A124 x96.1.2.2.2.2.2.2.length c125]) x96.1 from ⟨[.int .i64 x96.1.1], [.int .i64 x96.1.2.1, .int .i64 x96.1.2.2.1, .int .i64 x96.1.2.2.2.1, .int .i64 x96.1.2.2.2.2.1, .slice A121 x96.1.2.2.2.2.2.1.length c122, .slice A124 x96.1.2.2.2.2.2.2.length c125], rfl, ⟨rfl, hr106⟩, ⟨[.int .i64 x96.1.2.1], [.int .i64 x96.1.2.2.1, .int .i64 x96.1.2.2.2.1, .int .i64 x96.1.2.2.2.2.1, .slice A121 x96.1.2.2.2.2.2.1.length c122, .slice A124 x96.1.2.2.2.2.2.2.length c125], rfl, ⟨rfl, hr109⟩, ⟨[.int .i64 x96.1.2.2.1], [.int .i64 x96.1.2.2.2.1, .int .i64 x96.1.2.2.2.2.1, .slice A121 x96.1.2.2.2.2.2.1.length c122, .slice A124 x96.1.2.2.2.2.2.2.length c125], rfl, ⟨rfl, hr112⟩, ⟨[.int .i64 x96.1.2.2.2.1], [.int .i64 x96.1.2.2.2.2.1, .slice A121 x96.1.2.2.2.2.2.1.length c122, .slice A124 x96.1.2.2.2.2.2.2.length c125], rfl, ⟨rfl, hr115⟩, ⟨[.int .i64 x96.1.2.2.2.2.1], [.slice A121 x96.1.2.2.2.2.2.1.length c122, .slice A124 x96.1.2.2.2.2.2.2.length c125], rfl, ⟨rfl, hr118⟩, ⟨[.slice A121 x96.1.2.2.2.2.2.1.length c122], [.slice A124 x96.1.2.2.2.2.2.2.length c125], rfl, ⟨_, _, rfl, hs123⟩, ⟨_, _, rfl, hs126⟩⟩⟩⟩⟩⟩⟩)) ([.int .i64 a0.1, .int .i64 a0.2.1, .int .i64 a0.2.2.1, .int .i64 a0.2.2.2.1, .int .i64 a0.2.2.2.2.1, .slice A18 a0.2.2.2.2.2.1.length c19, .slice A21 a0.2.2.2.2.2.2.length c22]) a0 ((tyP tyI (tyP tyI (tyP tyI (tyP tyI (tyP tyI (tyP (tyL ty8) (tyL ty8))))))).mono (h.m.leAll (i := 1) rfl) (show (tyP tyI (tyP tyI (tyP tyI (tyP tyI (tyP tyI (tyP (tyL ty8) (tyL ty8))))))).rep S99 ([.int .i64 a0.1, .int .i64 a0.2.1, .int .i64 a0.2.2.1, .int .i64 a0.2.2.2.1, .int .i64 a0.2.2.2.2.1, .slice A18 a0.2.2.2.2.2.1.length c19, .slice A21 a0.2.2.2.2.2.2.length c22]) a0 from ⟨[.int .i64 a0.1], [.int .i64 a0.2.1, .int .i64 a0.2.2.1, .int .i64 a0.2.2.2.1, .int .i64 a0.2.2.2.2.1, .slice A18 a0.2.2.2.2.2.1.length c19, .slice A21 a0.2.2.2.2.2.2.length c22], rfl, ⟨rfl, hr3⟩, ⟨[.int .i64 a0.2.1], [.int .i64 a0.2.2.1, .int .i64 a0.2.2.2.1, .int .i64 a0.2.2.2.2.1, .slice A18 a0.2.2.2.2.2.1.length c19, .slice A21 a0.2.2.2.2.2.2.length c22], rfl, ⟨rfl, hr6⟩, ⟨[.int .i64 a0.2.2.1], [.int .i64 a0.2.2.2.1, .int .i64 a0.2.2.2.2.1, .slice A18 a0.2.2.2.2.2.1.length c19, .slice A21 a0.2.2.2.2.2.2.length c22], rfl, ⟨rfl, hr9⟩, ⟨[.int .i64 a0.2.2.2.1], [.int .i64 a0.2.2.2.2.1, .slice A18 a0.2.2.2.2.2.1.length c19, .slice A21 a0.2.2.2.2.2.2.length c22], rfl, ⟨rfl, hr12⟩, ⟨[.int .i64 a0.2.2.2.2.1], [.slice A18 a0.2.2.2.2.2.1.length c19, .slice A21 a0.2.2.2.2.2.2.length c22], rfl, ⟨rfl, hr15⟩, ⟨[.slice A18 a0.2.2.2.2.2.1.length c19], [.slice A21 a0.2.2.2.2.2.2.length c22], rfl, ⟨_, _, rfl, (hs20.mono (le93.trans le101))⟩, ⟨_, _, rfl, (hs23.mono (le93.trans le101))⟩⟩⟩⟩⟩⟩⟩)) _ h132 _ h.startAll
              refine q_callX hX h rfl rfl rfl (by decide) Try.func18 rfl rfl rfl (fun a w v L1 S1 hR hb1 h => ?_)
              obtain ⟨rfl, rfl, _⟩ := hR
              refine hK _ _ (fun _ _ => HS.ext hb1) ?_
              replace HS := HS.ext hb1
              clear hK
              refine d_takeP h (fun _ => HS) HN 6 rfl (by kernel_rfl) (by kernel_rfl) (by kernel_rfl) (by decide) rfl rfl (by decide) (fun w' => x_pick (v := .bool z129) (u' := undef) h.k rfl rfl (fun _ => by rw [← Option.some.inj hz130]; rfl) (fun hh => absurd (hB2.symm.trans hh) (by decide))) (fun a h => ?_)
              refine d_takeP h (fun _ => HS) HN 7 rfl (by kernel_rfl) (by kernel_rfl) (by kernel_rfl) (by decide) rfl rfl (by decide) (fun w' => x_move h.k _ rfl rfl) (fun a h => ?_)
              refine d_split (t := 91) h rfl (fun hB7 => ?_) (fun hB7 => ?_)
              · rw [if_pos hB7] at hz135
                obtain ⟨x136, h137, hz135⟩ := bsome hz135
                obtain ⟨x139, h140, hz135⟩ := bsome hz135
                refine d_takeP h (fun _ => HS) HN 8 rfl (by kernel_rfl) (by kernel_rfl) (by kernel_rfl) (by decide) (by rw [g_want h rfl rfl rfl rfl hB7]; rfl) rfl (by decide) (fun w' => x_move h.k _ rfl rfl) (fun a h => ?_)
                refine d_takeP h (fun _ => HS) HN 9 rfl (by kernel_rfl) (by kernel_rfl) (by kernel_rfl) (by decide) (by rw [g_want h rfl rfl rfl rfl hB7]; rfl) rfl (by decide) (fun w' => x_move h.k _ rfl rfl) (fun a h => ?_)
                refine d_takeY h HS HN 11 rfl (by kernel_rfl) (by kernel_rfl) (by kernel_rfl) (by kernel_rfl) (by kernel_rfl) (by rw [g_want h rfl rfl rfl rfl hB7]; rfl) rfl (by decide) (fun w' hw => x_ldR h.k rfl ag_api_Op rfl ([.int .i64 a0.1, .int .i64 a0.2.1, .int .i64 a0.2.2.1, .int .i64 a0.2.2.2.1, .int .i64 a0.2.2.2.2.1, .slice A18 a0.2.2.2.2.2.1.length c19, .slice A21 a0.2.2.2.2.2.2.length c22]) rfl (hw.range0 (i := 4) rfl)) (fun a h => ?_)
                refine d_takeY h HS HN 12 rfl (by kernel_rfl) (by kernel_rfl) (by kernel_rfl) (by kernel_rfl) (by kernel_rfl) (by rw [g_want h rfl rfl rfl rfl hB7]; rfl) rfl (by decide) (fun w' hw => x_ldR h.k rfl ag_api_Op rfl ([.int .i64 a1.1, .int .i64 a1.2.1, .int .i64 a1.2.2.1, .int .i64 a1.2.2.2.1, .int .i64 a1.2.2.2.2.1, .slice A41 a1.2.2.2.2.2.1.length c42, .slice A44 a1.2.2.2.2.2.2.length c45]) rfl (hw.range0 (i := 3) rfl)) (fun a h => ?_)
                refine d_alone 10 rfl (by kernel_rfl) (fun K hK => ?_)
                refine g_yes (j := 7) (t := 91) h rfl rfl rfl rfl hB7 ?_
                have hX := chatelaineref01_Same_ok Fu (S0 := snapAll _) A61 c62 x58.1 ((hs95.mono le101).mono (h.m.leAll (i := 1) rfl)) A70 c71 x67.1 (h.m.rowAll (i := 2) rfl (j := 1) rfl (hq75.mono (le93.trans le101))) _ h137 _ h.startAll
                refine q_callX hX h rfl rfl rfl (by decide) Try.func21 rfl rfl rfl (fun a w v L1 S1 hR hb1 h => ?_)
                obtain ⟨rfl, rfl, _⟩ := hR
                refine hK _ _ (fun _ _ => HS.ext hb1) ?_
                replace HS := HS.ext hb1
                clear hK
                refine d_alone 13 rfl (by kernel_rfl) (fun K hK => ?_)
                refine g_yes (j := 7) (t := 91) h rfl rfl rfl rfl hB7 ?_
                have hX := chatelaineref29_Same_ok Fu (S0 := snapAll _) ([.int .i64 a0.1, .int .i64 a0.2.1, .int .i64 a0.2.2.1, .int .i64 a0.2.2.2.1, .int .i64 a0.2.2.2.2.1, .slice A18 a0.2.2.2.2.2.1.length c19, .slice A21 a0.2.2.2.2.2.2.length c22]) a0 ((tyP tyI (tyP tyI (tyP tyI (tyP tyI (tyP tyI (tyP (tyL ty8) (tyL ty8))))))).mono (h.m.leAll (i := 1) rfl) (show (tyP tyI (tyP tyI (tyP tyI (tyP tyI (tyP tyI (tyP (tyL ty8) (tyL ty8))))))).rep S99 ([.int .i64 a0.1, .int .i64 a0.2.1, .int .i64 a0.2.2.1, .int .i64 a0.2.2.2.1, .int .i64 a0.2.2.2.2.1, .slice A18 a0.2.2.2.2.2.1.length c19, .slice A21 a0.2.2.2.2.2.2.length c22]) a0 from ⟨[.int .i64 a0.1], [.int .i64 a0.2.1, .int .i64 a0.2.2.1, .int .i64 a0.2.2.2.1, .int .i64 a0.2.2.2.2.1, .slice A18 a0.2.2.2.2.2.1.length c19, .slice A21 a0.2.2.2.2.2.2.length c22], rfl, ⟨rfl, hr3⟩, ⟨[.int .i64 a0.2.1], [.int .i64 a0.2.2.1, .int .i64 a0.2.2.2.1, .int .i64 a0.2.2.2.2.1, .slice A18 a0.2.2.2.2.2.1.length c19, .slice A21 a0.2.2.2.2.2.2.length c22], rfl, ⟨rfl, hr6⟩, ⟨[.int .i64 a0.2.2.1], [.int .i64 a0.2.2.2.1, .int .i64 a0.2.2.2.2.1, .slice A18 a0.2.2.2.2.2.1.length c19, .slice A21 a0.2.2.2.2.2.2.length c22], rfl, ⟨rfl, hr9⟩, ⟨[.int .i64 a0.2.2.2.1], [.int .i64 a0.2.2.2.2.1, .slice A18 a0.2.2.2.2.2.1.length c19, .slice A21 a0.2.2.2.2.2.2.length c22], rfl, ⟨rfl, hr12⟩, ⟨[.int .i64 a0.2.2.2.2.1], [.slice A18 a0.2.2.2.2.2.1.length c19, .slice A21 a0.2.2.2.2.2.2.length c22], rfl, ⟨rfl, hr15⟩, ⟨[.slice A18 a0.2.2.2.2.2.1.length c19], [.slice A21 a0.2.2.2.2.2.2.length c22], rfl, ⟨_, _, rfl, (hs20.mono (le93.trans le101))⟩, ⟨_, _, rfl, (hs23.mono (le93.trans le101))⟩⟩⟩⟩⟩⟩⟩)) ([.int .i64 a1.1, .int .i64 a1.2.1, .int .i64 a1.2.2.1, .int .i64 a1.2.2.2.1, .int .i64 a1.2.2.2.2.1, .slice A41 a1.2.2.2.2.2.1.length c42, .slice A44 a1.2.2.2.2.2.2.length c45]) a1 ((tyP tyI (tyP tyI (tyP tyI (tyP tyI (tyP tyI (tyP (tyL ty8) (tyL ty8))))))).mono (h.m.leAll (i := 1) rfl) (show (tyP tyI (tyP tyI (tyP tyI (tyP tyI (tyP tyI (tyP (tyL ty8) (tyL ty8))))))).rep S99 ([.int .i64 a1.1, .int .i64 a1.2.1, .int .i64 a1.2.2.1, .int .i64 a1.2.2.2.1, .int .i64 a1.2.2.2.2.1, .slice A41 a1.2.2.2.2.2.1.length c42, .slice A44 a1.2.2.2.2.2.2.length c45]) a1 from ⟨[.int .i64 a1.1], [.int .i64 a1.2.1, .int .i64 a1.2.2.1, .int .i64 a1.2.2.2.1, .int .i64 a1.2.2.2.2.1, .slice A41 a1.2.2.2.2.2.1.length c42, .slice A44 a1.2.2.2.2.2.2.length c45], rfl, ⟨rfl, hr26⟩, ⟨[.int .i64 a1.2.1], [.int .i64 a1.2.2.1, .int .i64 a1.2.2.2.1, .int .i64 a1.2.2.2.2.1, .slice A41 a1.2.2.2.2.2.1.length c42, .slice A44 a1.2.2.2.2.2.2.length c45], rfl, ⟨rfl, hr29⟩, ⟨[.int .i64 a1.2.2.1], [.int .i64 a1.2.2.2.1, .int .i64 a1.2.2.2.2.1, .slice A41 a1.2.2.2.2.2.1.length c42, .slice A44 a1.2.2.2.2.2.2.length c45], rfl, ⟨rfl, hr32⟩, ⟨[.int .i64 a1.2.2.2.1], [.int .i64 a1.2.2.2.2.1, .slice A41 a1.2.2.2.2.2.1.length c42, .slice A44 a1.2.2.2.2.2.2.length c45], rfl, ⟨rfl, hr35⟩, ⟨[.int .i64 a1.2.2.2.2.1], [.slice A41 a1.2.2.2.2.2.1.length c42, .slice A44 a1.2.2.2.2.2.2.length c45], rfl, ⟨rfl, hr38⟩, ⟨[.slice A41 a1.2.2.2.2.2.1.length c42], [.slice A44 a1.2.2.2.2.2.2.length c45], rfl, ⟨_, _, rfl, (hs43.mono (le93.trans le101))⟩, ⟨_, _, rfl, (hs46.mono (le93.trans le101))⟩⟩⟩⟩⟩⟩⟩)) _ h140 _ h.startAll
                refine q_callX hX h rfl rfl rfl (by decide) Try.func25 rfl rfl rfl (fun a w v L1 S1 hR hb1 h => ?_)
                obtain ⟨rfl, rfl, _⟩ := hR
                refine hK _ _ (fun _ _ => HS.ext hb1) ?_
                replace HS := HS.ext hb1
                clear hK
                refine d_takeP h (fun _ => HS) HN 14 rfl (by kernel_rfl) (by kernel_rfl) (by kernel_rfl) (by decide) (by rw [g_want h rfl rfl rfl rfl hB7]; rfl) rfl (by decide) (fun w' => x_eqlB h.k rfl Try.underlying4 rfl rfl) (fun a h => ?_)
                refine d_takeP h (fun _ => HS) HN 15 rfl (by kernel_rfl) (by kernel_rfl) (by kernel_rfl) (by decide) rfl rfl (by decide) (fun w' => x_pick (v := .bool z134) (u' := undef) h.k rfl rfl (fun _ => by rw [← Option.some.inj hz135]; rfl) (fun hh => absurd (hB7.symm.trans hh) (by decide))) (fun a h => ?_)
                refine d_takeP h (fun _ => HS) HN 16 rfl (by kernel_rfl) (by kernel_rfl) (by kernel_rfl) (by decide) rfl rfl (by decide) (fun w' => x_assign h.k _ rfl rfl) (fun a h => ?_)
                refine d_done (by kernel_rfl) (HE _ _ ?_) _
                refine e_thenN ?_
                have h := h.pick [1] (by decide) rfl
                exact h.has (by exact ⟨rfl, trivial⟩)
              · rw [if_neg (by rw [hB7]; decide)] at hz135
                refine d_takeNP h (fun _ => HS) HN 8 rfl (by kernel_rfl) (by kernel_rfl) (by kernel_rfl) (by decide) (by rw [g_want h rfl rfl rfl rfl hB7]; rfl) rfl (by decide) (fun a h => ?_)
                refine d_takeNP h (fun _ => HS) HN 9 rfl (by kernel_rfl) (by kernel_rfl) (by kernel_rfl) (by decide) (by rw [g_want h rfl rfl rfl rfl hB7]; rfl) rfl (by decide) (fun a h => ?_)
                refine d_takeNP h (fun _ => HS) HN 10 rfl (by kernel_rfl) (by kernel_rfl) (by kernel_rfl) (by decide) (by rw [g_want h rfl rfl rfl rfl hB7]; rfl) rfl (by decide) (fun a h => ?_)
                refine d_takeNP h (fun _ => HS) HN 11 rfl (by kernel_rfl) (by kernel_rfl) (by kernel_rfl) (by decide) (by rw [g_want h rfl rfl rfl rfl hB7]; rfl) rfl (by decide) (fun a h => ?_)
                refine d_takeNP h (fun _ => HS) HN 12 rfl (by kernel_rfl) (by kernel_rfl) (by kernel_rfl) (by decide) (by rw [g_want h rfl rfl rfl rfl hB7]; rfl) rfl (by decide) (fun a h => ?_)
                refine d_takeNP h (fun _ => HS) HN 13 rfl (by kernel_rfl) (by kernel_rfl) (by kernel_rfl) (by decide) (by rw [g_want h rfl rfl rfl rfl hB7]; rfl) rfl (by decide) (fun a h => ?_)
                refine d_takeNP h (fun _ => HS) HN 14 rfl (by kernel_rfl) (by kernel_rfl) (by kernel_rfl) (by decide) (by rw [g_want h rfl rfl rfl rfl hB7]; rfl) rfl (by decide) (fun a h => ?_)
                refine d_takeP h (fun _ => HS) HN 15 rfl (by kernel_rfl) (by kernel_rfl) (by kernel_rfl) (by decide) rfl rfl (by decide) (fun w' => x_pick (v := .bool z134) (u' := undef) h.k rfl rfl (fun hh => absurd (hB7.symm.trans hh) (by decide)) (fun _ => by rw [← Option.some.inj hz135]; rfl)) (fun a h => ?_)
                refine d_takeP h (fun _ => HS) HN 16 rfl (by kernel_rfl) (by kernel_rfl) (by kernel_rfl) (by decide) rfl rfl (by decide) (fun w' => x_assign h.k _ rfl rfl) (fun a h => ?_)
                refine d_done (by kernel_rfl) (HE _ _ ?_) _
                refine e_thenN ?_
                have h := h.pick [1] (by decide) rfl
                exact h.has (by exact ⟨rfl, trivial⟩)
            · rw [if_neg (of_decide_eq_false hB2)] at hz130
              refine d_takeNP h (fun _ => HS) HN 3 rfl (by kernel_rfl) (by kernel_rfl) (by kernel_rfl) (by decide) (by rw [g_want h rfl rfl rfl rfl hB2]; rfl) rfl (by decide) (fun a h => ?_)
              refine d_takeNP h (fun _ => HS) HN 4 rfl (by kernel_rfl) (by kernel_rfl) (by kernel_rfl) (by decide) (by rw [g_want h rfl rfl rfl rfl hB2]; rfl) rfl (by decide) (fun a h => ?_)
              refine d_takeNP h (fun _ => HS) HN 5 rfl (by kernel_rfl) (by kernel_rfl) (by kernel_rfl) (by decide) (by rw [g_want h rfl rfl rfl rfl hB2]; rfl) rfl (by decide) (fun a h => ?_)
              refine d_takeP h (fun _ => HS) HN 6 rfl (by kernel_rfl) (by kernel_rfl) (by kernel_rfl) (by decide) rfl rfl (by decide) (fun w' => x_pick (v := .bool z129) (u' := undef) h.k rfl rfl (fun hh => absurd (hB2.symm.trans hh) (by decide)) (fun _ => by rw [← Option.some.inj hz130]; rfl)) (fun a h => ?_)
              refine d_takeP h (fun _ => HS) HN 7 rfl (by kernel_rfl) (by kernel_rfl) (by kernel_rfl) (by decide) rfl rfl (by decide) (fun w' => x_move h.k _ rfl rfl) (fun a h => ?_)
              refine d_split (t := 91) h rfl (fun hB7 => ?_) (fun hB7 => ?_)
              · rw [if_pos hB7] at hz135
                obtain ⟨x136, h137, hz135⟩ := bsome hz135
                obtain ⟨x139, h140, hz135⟩ := bsome hz135
                refine d_takeP h (fun _ => HS) HN 8 rfl (by kernel_rfl) (by kernel_rfl) (by kernel_rfl) (by decide) (by rw [g_want h rfl rfl rfl rfl hB7]; rfl) rfl (by decide) (fun w' => x_move h.k _ rfl rfl) (fun a h => ?_)
                refine d_takeP h (fun _ => HS) HN 9 rfl (by kernel_rfl) (by kernel_rfl) (by kernel_rfl) (by decide) (by rw [g_want h rfl rfl rfl rfl hB7]; rfl) rfl (by decide) (fun w' => x_move h.k _ rfl rfl) (fun a h => ?_)
                refine d_takeY h HS HN 11 rfl (by kernel_rfl) (by kernel_rfl) (by kernel_rfl) (by kernel_rfl) (by kernel_rfl) (by rw [g_want h rfl rfl rfl rfl hB7]; rfl) rfl (by decide) (fun w' hw => x_ldR h.k rfl ag_api_Op rfl ([.int .i64 a0.1, .int .i64 a0.2.1, .int .i64 a0.2.2.1, .int .i64 a0.2.2.2.1, .int .i64 a0.2.2.2.2.1, .slice A18 a0.2.2.2.2.2.1.length c19, .slice A21 a0.2.2.2.2.2.2.length c22]) rfl (hw.range0 (i := 4) rfl)) (fun a h => ?_)
                refine d_takeY h HS HN 12 rfl (by kernel_rfl) (by kernel_rfl) (by kernel_rfl) (by kernel_rfl) (by kernel_rfl) (by rw [g_want h rfl rfl rfl rfl hB7]; rfl) rfl (by decide) (fun w' hw => x_ldR h.k rfl ag_api_Op rfl ([.int .i64 a1.1, .int .i64 a1.2.1, .int .i64 a1.2.2.1, .int .i64 a1.2.2.2.1, .int .i64 a1.2.2.2.2.1, .slice A41 a1.2.2.2.2.2.1.length c42, .slice A44 a1.2.2.2.2.2.2.length c45]) rfl (hw.range0 (i := 3) rfl)) (fun a h => ?_)
                refine d_alone 10 rfl (by kernel_rfl) (fun K hK => ?_)
                refine g_yes (j := 7) (t := 91) h rfl rfl rfl rfl hB7 ?_
                have hX := chatelaineref01_Same_ok Fu (S0 := snapAll _) A61 c62 x58.1 ((hs95.mono le101).mono (h.m.leAll (i := 1) rfl)) A70 c71 x67.1 (h.m.rowAll (i := 2) rfl (j := 1) rfl (hq75.mono (le93.trans le101))) _ h137 _ h.startAll
                refine q_callX hX h rfl rfl rfl (by decide) Try.func21 rfl rfl rfl (fun a w v L1 S1 hR hb1 h => ?_)
                obtain ⟨rfl, rfl, _⟩ := hR
                refine hK _ _ (fun _ _ => HS.ext hb1) ?_
                replace HS := HS.ext hb1
                clear hK
                refine d_alone 13 rfl (by kernel_rfl) (fun K hK => ?_)
                refine g_yes (j := 7) (t := 91) h rfl rfl rfl rfl hB7 ?_
                have hX := chatelaineref29_Same_ok Fu (S0 := snapAll _) ([.int .i64 a0.1, .int .i64 a0.2.1, .int .i64 a0.2.2.1, .int .i64 a0.2.2.2.1, .int .i64 a0.2.2.2.2.1, .slice A18 a0.2.2.2.2.2.1.length c19, .slice A21 a0.2.2.2.2.2.2.length c22]) a0 ((tyP tyI (tyP tyI (tyP tyI (tyP tyI (tyP tyI (tyP (tyL ty8) (tyL ty8))))))).mono (h.m.leAll (i := 1) rfl) (show (tyP tyI (tyP tyI (tyP tyI (tyP tyI (tyP tyI (tyP (tyL ty8) (tyL ty8))))))).rep S99 ([.int .i64 a0.1, .int .i64 a0.2.1, .int .i64 a0.2.2.1, .int .i64 a0.2.2.2.1, .int .i64 a0.2.2.2.2.1, .slice A18 a0.2.2.2.2.2.1.length c19, .slice A21 a0.2.2.2.2.2.2.length c22]) a0 from ⟨[.int .i64 a0.1], [.int .i64 a0.2.1, .int .i64 a0.2.2.1, .int .i64 a0.2.2.2.1, .int .i64 a0.2.2.2.2.1, .slice A18 a0.2.2.2.2.2.1.length c19, .slice A21 a0.2.2.2.2.2.2.length c22], rfl, ⟨rfl, hr3⟩, ⟨[.int .i64 a0.2.1], [.int .i64 a0.2.2.1, .int .i64 a0.2.2.2.1, .int .i64 a0.2.2.2.2.1, .slice A18 a0.2.2.2.2.2.1.length c19, .slice A21 a0.2.2.2.2.2.2.length c22], rfl, ⟨rfl, hr6⟩, ⟨[.int .i64 a0.2.2.1], [.int .i64 a0.2.2.2.1, .int .i64 a0.2.2.2.2.1, .slice A18 a0.2.2.2.2.2.1.length c19, .slice A21 a0.2.2.2.2.2.2.length c22], rfl, ⟨rfl, hr9⟩, ⟨[.int .i64 a0.2.2.2.1], [.int .i64 a0.2.2.2.2.1, .slice A18 a0.2.2.2.2.2.1.length c19, .slice A21 a0.2.2.2.2.2.2.length c22], rfl, ⟨rfl, hr12⟩, ⟨[.int .i64 a0.2.2.2.2.1], [.slice A18 a0.2.2.2.2.2.1.length c19, .slice A21 a0.2.2.2.2.2.2.length c22], rfl, ⟨rfl, hr15⟩, ⟨[.slice A18 a0.2.2.2.2.2.1.length c19], [.slice A21 a0.2.2.2.2.2.2.length c22], rfl, ⟨_, _, rfl, (hs20.mono (le93.trans le101))⟩, ⟨_, _, rfl, (hs23.mono (le93.trans le101))⟩⟩⟩⟩⟩⟩⟩)) ([.int .i64 a1.1, .int .i64 a1.2.1, .int .i64 a1.2.2.1, .int .i64 a1.2.2.2.1, .int .i64 a1.2.2.2.2.1, .slice A41 a1.2.2.2.2.2.1.length c42, .slice A44 a1.2.2.2.2.2.2.length c45]) a1 ((tyP tyI (tyP tyI (tyP tyI (tyP tyI (tyP tyI (tyP (tyL ty8) (tyL ty8))))))).mono (h.m.leAll (i := 1) rfl) (show (tyP tyI (tyP tyI (tyP tyI (tyP tyI (tyP tyI (tyP (tyL ty8) (tyL ty8))))))).rep S99 ([.int .i64 a1.1, .int .i64 a1.2.1, .int .i64 a1.2.2.1, .int .i64 a1.2.2.2.1, .int .i64 a1.2.2.2.2.1, .slice A41 a1.2.2.2.2.2.1.length c42, .slice A44 a1.2.2.2.2.2.2.length c45]) a1 from ⟨[.int .i64 a1.1], [.int .i64 a1.2.1, .int .i64 a1.2.2.1, .int .i64 a1.2.2.2.1, .int .i64 a1.2.2.2.2.1, .slice A41 a1.2.2.2.2.2.1.length c42, .slice A44 a1.2.2.2.2.2.2.length c45], rfl, ⟨rfl, hr26⟩, ⟨[.int .i64 a1.2.1], [.int .i64 a1.2.2.1, .int .i64 a1.2.2.2.1, .int .i64 a1.2.2.2.2.1, .slice A41 a1.2.2.2.2.2.1.length c42, .slice A44 a1.2.2.2.2.2.2.length c45], rfl, ⟨rfl, hr29⟩, ⟨[.int .i64 a1.2.2.1], [.int .i64 a1.2.2.2.1, .int .i64 a1.2.2.2.2.1, .slice A41 a1.2.2.2.2.2.1.length c42, .slice A44 a1.2.2.2.2.2.2.length c45], rfl, ⟨rfl, hr32⟩, ⟨[.int .i64 a1.2.2.2.1], [.int .i64 a1.2.2.2.2.1, .slice A41 a1.2.2.2.2.2.1.length c42, .slice A44 a1.2.2.2.2.2.2.length c45], rfl, ⟨rfl, hr35⟩, ⟨[.int .i64 a1.2.2.2.2.1], [.slice A41 a1.2.2.2.2.2.1.length c42, .slice A44 a1.2.2.2.2.2.2.length c45], rfl, ⟨rfl, hr38⟩, ⟨[.slice A41 a1.2.2.2.2.2.1.length c42], [.slice A44 a1.2.2.2.2.2.2.length c45], rfl, ⟨_, _, rfl, (hs43.mono (le93.trans le101))⟩, ⟨_, _, rfl, (hs46.mono (le93.trans le101))⟩⟩⟩⟩⟩⟩⟩)) _ h140 _ h.startAll
                refine q_callX hX h rfl rfl rfl (by decide) Try.func25 rfl rfl rfl (fun a w v L1 S1 hR hb1 h => ?_)
                obtain ⟨rfl, rfl, _⟩ := hR
                refine hK _ _ (fun _ _ => HS.ext hb1) ?_
                replace HS := HS.ext hb1
                clear hK
                refine d_takeP h (fun _ => HS) HN 14 rfl (by kernel_rfl) (by kernel_rfl) (by kernel_rfl) (by decide) (by rw [g_want h rfl rfl rfl rfl hB7]; rfl) rfl (by decide) (fun w' => x_eqlB h.k rfl Try.underlying4 rfl rfl) (fun a h => ?_)
                refine d_takeP h (fun _ => HS) HN 15 rfl (by kernel_rfl) (by kernel_rfl) (by kernel_rfl) (by decide) rfl rfl (by decide) (fun w' => x_pick (v := .bool z134) (u' := undef) h.k rfl rfl (fun _ => by rw [← Option.some.inj hz135]; rfl) (fun hh => absurd (hB7.symm.trans hh) (by decide))) (fun a h => ?_)
                refine d_takeP h (fun _ => HS) HN 16 rfl (by kernel_rfl) (by kernel_rfl) (by kernel_rfl) (by decide) rfl rfl (by decide) (fun w' => x_assign h.k _ rfl rfl) (fun a h => ?_)
                refine d_done (by kernel_rfl) (HE _ _ ?_) _
                refine e_thenN ?_
                have h := h.pick [1] (by decide) rfl
                exact h.has (by exact ⟨rfl, trivial⟩)
              · rw [if_neg (by rw [hB7]; decide)] at hz135
                refine d_takeNP h (fun _ => HS) HN 8 rfl (by kernel_rfl) (by kernel_rfl) (by kernel_rfl) (by decide) (by rw [g_want h rfl rfl rfl rfl hB7]; rfl) rfl (by decide) (fun a h => ?_)
                refine d_takeNP h (fun _ => HS) HN 9 rfl (by kernel_rfl) (by kernel_rfl) (by kernel_rfl) (by decide) (by rw [g_want h rfl rfl rfl rfl hB7]; rfl) rfl (by decide) (fun a h => ?_)
                refine d_takeNP h (fun _ => HS) HN 10 rfl (by kernel_rfl) (by kernel_rfl) (by kernel_rfl) (by decide) (by rw [g_want h rfl rfl rfl rfl hB7]; rfl) rfl (by decide) (fun a h => ?_)
                refine d_takeNP h (fun _ => HS) HN 11 rfl (by kernel_rfl) (by kernel_rfl) (by kernel_rfl) (by decide) (by rw [g_want h rfl rfl rfl rfl hB7]; rfl) rfl (by decide) (fun a h => ?_)
                refine d_takeNP h (fun _ => HS) HN 12 rfl (by kernel_rfl) (by kernel_rfl) (by kernel_rfl) (by decide) (by rw [g_want h rfl rfl rfl rfl hB7]; rfl) rfl (by decide) (fun a h => ?_)
                refine d_takeNP h (fun _ => HS) HN 13 rfl (by kernel_rfl) (by kernel_rfl) (by kernel_rfl) (by decide) (by rw [g_want h rfl rfl rfl rfl hB7]; rfl) rfl (by decide) (fun a h => ?_)
                refine d_takeNP h (fun _ => HS) HN 14 rfl (by kernel_rfl) (by kernel_rfl) (by kernel_rfl) (by decide) (by rw [g_want h rfl rfl rfl rfl hB7]; rfl) rfl (by decide) (fun a h => ?_)
                refine d_takeP h (fun _ => HS) HN 15 rfl (by kernel_rfl) (by kernel_rfl) (by kernel_rfl) (by decide) rfl rfl (by decide) (fun w' => x_pick (v := .bool z134) (u' := undef) h.k rfl rfl (fun hh => absurd (hB7.symm.trans hh) (by decide)) (fun _ => by rw [← Option.some.inj hz135]; rfl)) (fun a h => ?_)
                refine d_takeP h (fun _ => HS) HN 16 rfl (by kernel_rfl) (by kernel_rfl) (by kernel_rfl) (by decide) rfl rfl (by decide) (fun w' => x_assign h.k _ rfl rfl) (fun a h => ?_)
                refine d_done (by kernel_rfl) (HE _ _ ?_) _
                refine e_thenN ?_
                have h := h.pick [1] (by decide) rfl
                exact h.has (by exact ⟨rfl, trivial⟩)
          refine e_thenN ?_
          refine wp_ret ?_
          rw [← Option.some.inj hf]
          exact r_ret1 h rfl (rv_tmp h rfl) ⟨_, [], _, rfl, ⟨rfl, rfl, trivial⟩, rfl, up100, h.m⟩
end Go.Proofs.Ythaakmdafnjkpaa
