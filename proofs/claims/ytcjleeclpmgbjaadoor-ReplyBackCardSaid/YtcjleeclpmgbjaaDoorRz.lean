/- Rz: Go functions as plain functions, and that they are so (written by xt.py). -/
import Derived.Test.YtcjleeclpmgbjaaDoorRy
import Derived.Test.YtcjleeclpmgbjaaDoorEb
set_option linter.unusedVariables false
set_option linter.unusedSimpArgs false
namespace Go.Proofs.YtcjleeclpmgbjaaDoor
open Go.RowKit
def chatelainelaw32_ReplyBack (Fu : Nat) (a0 : Int × (List UInt8)) (a1 : List UInt8) : Option Bool :=
  (chatelainelaw32_awake Fu).bind fun x8 => if (!x8) = true then (some false) else (if ((decide (500 < (a0.2.length : Int))) || (decide (500 < (a1.length : Int)))) = true then (some true) else ((reply_Put Fu a0).bind fun x13 => if ((!((decide (x13.2 = 0)) == ((decide (0 ≤ a0.1)) && (decide (a0.1 ≤ 255))))) || ((!((decide (0 ≤ a0.1)) && (decide (a0.1 ≤ 255)))) && ((decide (x13.2 ≠ 2)) || (decide (0 < (x13.1.length : Int)))))) = true then (some false) else ((if x13.2 = 0 then ((reply_Take Fu x13.1).bind fun x40 => (if x40.2 ≠ 0 then some true else (reply_Same Fu x40.1 a0).bind fun x59 => some (!x59)).bind fun z57 => if (z57 || (decide ((x13.1.length : Int) ≠ w64 (3 + (a0.2.length : Int))))) = true then (some (.inl false)) else (some (.inr ()))) else (some (.inr ())) : Option (Sum Bool Unit)).bind fun o => match o with | .inl r111 => some r111 | .inr _ => (reply_Take Fu a1).bind fun x64 => (if x64.2 = 0 then ((reply_Put Fu x64.1).bind fun x82 => (if x82.2 ≠ 0 then some true else (chatelaineref01_Same Fu x82.1 a1).bind fun x94 => some (!x94)).bind fun z92 => if z92 = true then (some (.inl false)) else (some (.inr ()))) else ((reply_Same Fu x64.1 (0, [])).bind fun x97 => if (!x97) = true then (some (.inl false)) else (some (.inr ()))) : Option (Sum Bool Unit)).bind fun o => match o with | .inl r110 => some r110 | .inr _ => (reply_Word Fu a0.1).bind fun x100 => (reply_Of Fu x100).bind fun x104 => some ((!x104.2) || (decide (x104.1 = a0.1))))))
set_option maxRecDepth 100000 in
set_option maxHeartbeats 2000000 in
theorem chatelainelaw32_ReplyBack_ok (Fu : Nat) {S0 : Snap} (hGT : GT S0) (csa0 : List Value) (a0 : Int × (List UInt8)) (hsa0 : (tyP tyI (tyL ty8)).rep S0 csa0 a0) (Aa1 : Option Addr) (ca1 : Nat) (a1 : List UInt8) (hsa1 : slS ty8 S0 Aa1 ca1 a1) (r : Bool) (hf : chatelainelaw32_ReplyBack Fu a0 a1 = some r) (w0 : World) (hm : Mem w0 (ownL ([] ++ [.sn S0])) ([] ++ [.sn S0]) w0) :
    Calls Tryd.prog 3 #[.agg csa0.toArray, .slice Aa1 a1.length ca1] w0 (Ret w0 S0 [] (fun v L1 S1 => v = .bool r ∧ L1 = [] ∧ True)) := by
  unfold chatelainelaw32_ReplyBack at hf
  obtain ⟨k1, k2, rfl, ⟨rfl, hr3⟩, ⟨A4, c5, rfl, hs6⟩⟩ := hsa0
  refine c_enterM Tryd.func3 rfl 120 rfl (by simp) _ hm _ rfl (fun a h => ?_)
  refine c_rs ?_ -- region 0
  refine s_box h rfl rfl rfl (by decide) rfl (cs := [.int .i64 a0.1, .slice A4 a0.2.length c5]) (by rfl) (fun a w g7 h => ?_)
  refine s_assign h rfl _ rfl rfl (by decide) rfl (fun a h => ?_)
  refine l_end ?_
  refine wp_seq ?_
  refine c_rs ?_ -- region 1
  obtain ⟨x8, h9, hf⟩ := bsome hf
  have hX := chatelainelaw32_awake_ok Fu (S0 := snapAll _) (hGT.mono (h.m.leAll (i := 1) rfl)) _ h9 _ h.startAll
  refine q_callX hX h rfl rfl rfl (by decide) Tryd.func6 rfl rfl rfl (fun a w v L1 S1 hR hb1 h => ?_)
  obtain ⟨rfl, rfl, _⟩ := hR
  refine s_x h rfl rfl (by decide) (x_not h.k rfl rfl) (fun a h => ?_)
  refine l_end ?_
  refine c_cond h rfl (fun hb => ?_) (fun hb => ?_)
  · rw [if_pos hb] at hf
    refine c_rs ?_ -- region 2
    refine s_assign h rfl _ rfl rfl (by decide) rfl (fun a h => ?_)
    refine l_end ?_
    refine wp_ret ?_
    refine e_thenR ?_
    rw [← Option.some.inj hf]
    exact r_ret1 h rfl (rv_tmp h rfl) ⟨_, [], _, rfl, ⟨rfl, rfl, trivial⟩, rfl, (Up.refl _ _ _), (h.m.pick [1] _ (by decide) rfl)⟩
  · rw [if_neg (by rw [hb]; decide)] at hf
    refine wp_skip ?_
    refine e_thenN ?_
    refine wp_seq ?_
    refine c_rs ?_ -- region 3
    refine s_x h rfl rfl (by decide) (x_faddr h.k rfl Tryd.underlying25 rfl sz_Suint8 rfl) (fun a h => ?_)
    refine s_x h rfl rfl (by decide) (x_ld h.k rfl Tryd.underlying23 rfl rfl ((h.m.cell (i := 0) rfl 1).trans rfl)) (fun a h => ?_)
    refine s_x h rfl rfl (by decide) (x_len h.k rfl Tryd.underlying23 rfl) (fun a h => ?_)
    refine s_x h rfl rfl (by decide) (x_bin h.k rfl rfl rfl ib_gtr) (fun a h => ?_)
    refine s_move h rfl _ rfl rfl (by decide) rfl (fun a h => ?_)
    refine q_grp h 4 (t := 22) 26 ((decide (500 < (a0.2.length : Int))) || (decide (500 < (a1.length : Int)))) rfl (fun hB4 => ?_) (fun hB4 => ?_) (fun a w h => ?_)
    · refine g_no h rfl rfl rfl rfl hB4 rfl (by decide) (fun a h => ?_)
      refine g_no h rfl rfl rfl rfl hB4 rfl (by decide) (fun a h => ?_)
      refine g_no h rfl rfl rfl rfl hB4 rfl (by decide) (fun a h => ?_)
      refine s_x h rfl rfl (by decide) (x_pick (u' := undef) h.k rfl rfl (fun _ => rfl) (fun hh => absurd (hB4.symm.trans hh) (by decide))) (fun a h => ?_)
      exact (h.mid 3 rfl).val (by first | rfl | (rw [hB4]; first | rfl | simp))
    · refine g_yes h rfl rfl rfl rfl hB4 ?_
      refine s_move h rfl _ rfl rfl (by decide) rfl (fun a h => ?_)
      refine g_yes h rfl rfl rfl rfl hB4 ?_
      refine s_x h rfl rfl (by decide) (x_len h.k rfl Tryd.underlying23 rfl) (fun a h => ?_)
      refine g_yes h rfl rfl rfl rfl hB4 ?_
      refine s_x h rfl rfl (by decide) (x_bin h.k rfl rfl rfl ib_gtr) (fun a h => ?_)
      refine s_x h rfl rfl (by decide) (x_pick (u' := undef) h.k rfl rfl (fun hh => absurd (hB4.symm.trans hh) (by decide)) (fun _ => rfl)) (fun a h => ?_)
      exact (h.mid 3 rfl).val (by first | rfl | (rw [hB4]; first | rfl | simp))
    refine l_end ?_
    refine c_cond h rfl (fun hb => ?_) (fun hb => ?_)
    · rw [if_pos hb] at hf
      refine c_rs ?_ -- region 4
      refine s_assign h rfl _ rfl rfl (by decide) rfl (fun a h => ?_)
      refine l_end ?_
      refine wp_ret ?_
      refine e_thenR ?_
      rw [← Option.some.inj hf]
      exact r_ret1 h rfl (rv_tmp h rfl) ⟨_, [], _, rfl, ⟨rfl, rfl, trivial⟩, rfl, (Up.refl _ _ _), (h.m.pick [1] _ (by decide) rfl)⟩
    · rw [if_neg (by rw [hb]; decide)] at hf
      refine wp_skip ?_
      refine e_thenN ?_
      refine c_rs ?_ -- region 5
      refine s_x h rfl rfl (by decide) (x_ldR h.k rfl ag_api_Reply rfl ([.int .i64 a0.1, .slice A4 a0.2.length c5]) rfl (h.m.range0 (i := 0) rfl)) (fun a h => ?_)
      obtain ⟨x13, h14, hf⟩ := bsome hf
      have hX := reply_Put_ok Fu (S0 := snapAll _) ([.int .i64 a0.1, .slice A4 a0.2.length c5]) a0 ((tyP tyI (tyL ty8)).mono (h.m.leAll (i := 1) rfl) (show (tyP tyI (tyL ty8)).rep S0 ([.int .i64 a0.1, .slice A4 a0.2.length c5]) a0 from ⟨[.int .i64 a0.1], [.slice A4 a0.2.length c5], rfl, ⟨rfl, hr3⟩, ⟨_, _, rfl, hs6⟩⟩)) _ h14 _ h.startAll
      refine q_callX hX h rfl rfl rfl (by decide) Tryd.func7 rfl rfl rfl (fun a w v L1 S1 hR hb1 h => ?_)
      obtain ⟨A16, c17, cs18, rfl, rfl, hq19, hr20, _⟩ := hR
      have hq21 := hq19.fl (S' := S0) fl_8
      refine s_move h rfl _ rfl rfl (by decide) rfl (fun a h => ?_)
      refine s_x h rfl rfl (by decide) (x_ext h.k rfl rfl rfl) (fun a h => ?_)
      refine s_x h rfl rfl (by decide) (x_ext h.k rfl rfl rfl) (fun a h => ?_)
      refine s_assign h rfl _ rfl rfl (by decide) rfl (fun a h => ?_)
      refine s_assign h rfl _ rfl rfl (by decide) rfl (fun a h => ?_)
      refine l_end ?_
      refine wp_seq ?_
      refine c_rs ?_ -- region 6
      refine s_x h rfl rfl (by decide) (x_faddr h.k rfl Tryd.underlying25 rfl sz_api_Errno rfl) (fun a h => ?_)
      refine s_x h rfl rfl (by decide) (x_ld h.k rfl Tryd.underlying22 rfl rfl ((h.m.cell (i := 1) rfl 0).trans rfl)) (fun a h => ?_)
      refine s_x h rfl rfl (by decide) (x_bin h.k rfl rfl rfl ib_geq) (fun a h => ?_)
      refine s_move h rfl _ rfl rfl (by decide) rfl (fun a h => ?_)
      refine q_grp h 4 (t := 35) 39 ((decide (0 ≤ a0.1)) && (decide (a0.1 ≤ 255))) rfl (fun hB3 => ?_) (fun hB3 => ?_) (fun a w h => ?_)
      · refine g_yes h rfl rfl rfl rfl hB3 ?_
        refine s_x h rfl rfl (by decide) (x_faddr h.k rfl Tryd.underlying25 rfl sz_api_Errno rfl) (fun a h => ?_)
        refine g_yes h rfl rfl rfl rfl hB3 ?_
        refine s_x h rfl rfl (by decide) (x_ld h.k rfl Tryd.underlying22 rfl rfl ((h.m.cell (i := 1) rfl 0).trans rfl)) (fun a h => ?_)
        refine g_yes h rfl rfl rfl rfl hB3 ?_
        refine s_x h rfl rfl (by decide) (x_bin h.k rfl rfl rfl ib_leq) (fun a h => ?_)
        refine s_x h rfl rfl (by decide) (x_pick (u' := undef) h.k rfl rfl (fun _ => rfl) (fun hh => absurd (hB3.symm.trans hh) (by decide))) (fun a h => ?_)
        exact (h.mid 3 rfl).val (by first | rfl | (rw [hB3]; first | rfl | simp))
      · refine g_no h rfl rfl rfl rfl hB3 rfl (by decide) (fun a h => ?_)
        refine g_no h rfl rfl rfl rfl hB3 rfl (by decide) (fun a h => ?_)
        refine g_no h rfl rfl rfl rfl hB3 rfl (by decide) (fun a h => ?_)
        refine s_x h rfl rfl (by decide) (x_pick (u' := undef) h.k rfl rfl (fun hh => absurd (hB3.symm.trans hh) (by decide)) (fun _ => rfl)) (fun a h => ?_)
        exact (h.mid 3 rfl).val (by first | rfl | (rw [hB3]; first | rfl | simp))
      refine s_assign h rfl _ rfl rfl (by decide) rfl (fun a h => ?_)
      refine l_end ?_
      refine c_rs ?_ -- region 7
      refine s_move h rfl _ rfl rfl (by decide) rfl (fun a h => ?_)
      refine s_x h rfl rfl (by decide) (x_bin h.k rfl rfl rfl ib_eql) (fun a h => ?_)
      refine s_move h rfl _ rfl rfl (by decide) rfl (fun a h => ?_)
      refine s_x h rfl rfl (by decide) (x_neqB h.k rfl Tryd.underlying4 rfl rfl) (fun a h => ?_)
      refine s_move h rfl _ rfl rfl (by decide) rfl (fun a h => ?_)
      refine q_grp h 12 (t := 44) 56 ((!((decide (x13.2 = 0)) == ((decide (0 ≤ a0.1)) && (decide (a0.1 ≤ 255))))) || ((!((decide (0 ≤ a0.1)) && (decide (a0.1 ≤ 255)))) && ((decide (x13.2 ≠ 2)) || (decide (0 < (x13.1.length : Int)))))) rfl (fun hB4 => ?_) (fun hB4 => ?_) (fun a w h => ?_)
      · refine g_no h rfl rfl rfl rfl hB4 rfl (by decide) (fun a h => ?_)
        refine g_no h rfl rfl rfl rfl hB4 rfl (by decide) (fun a h => ?_)
        refine g_no h rfl rfl rfl rfl hB4 rfl (by decide) (fun a h => ?_)
        refine g_off h rfl rfl rfl rfl rfl (by decide) (fun a h => ?_)
        refine g_off h rfl rfl rfl rfl rfl (by decide) (fun a h => ?_)
        refine g_off h rfl rfl rfl rfl rfl (by decide) (fun a h => ?_)
        refine g_off h rfl rfl rfl rfl rfl (by decide) (fun a h => ?_)
        refine g_off h rfl rfl rfl rfl rfl (by decide) (fun a h => ?_)
        refine g_off h rfl rfl rfl rfl rfl (by decide) (fun a h => ?_)
        refine g_off h rfl rfl rfl rfl rfl (by decide) (fun a h => ?_)
        refine g_no h rfl rfl rfl rfl hB4 rfl (by decide) (fun a h => ?_)
        refine s_x h rfl rfl (by decide) (x_pick (u' := undef) h.k rfl rfl (fun _ => rfl) (fun hh => absurd (hB4.symm.trans hh) (by decide))) (fun a h => ?_)
        exact (h.mid 11 rfl).val (by first | rfl | (rw [hB4]; first | rfl | simp))
      · refine g_yes h rfl rfl rfl rfl hB4 ?_
        refine s_move h rfl _ rfl rfl (by decide) rfl (fun a h => ?_)
        refine g_yes h rfl rfl rfl rfl hB4 ?_
        refine s_x h rfl rfl (by decide) (x_not h.k rfl rfl) (fun a h => ?_)
        refine g_yes h rfl rfl rfl rfl hB4 ?_
        refine s_move h rfl _ rfl rfl (by decide) rfl (fun a h => ?_)
        refine q_grp h 8 (t := 47) 55 ((!((decide (0 ≤ a0.1)) && (decide (a0.1 ≤ 255)))) && ((decide (x13.2 ≠ 2)) || (decide (0 < (x13.1.length : Int))))) rfl (fun hB7 => ?_) (fun hB7 => ?_) (fun a w h => ?_)
        · refine g_yes h rfl rfl rfl rfl hB7 ?_
          refine s_move h rfl _ rfl rfl (by decide) rfl (fun a h => ?_)
          refine g_yes h rfl rfl rfl rfl hB7 ?_
          refine s_x h rfl rfl (by decide) (x_bin h.k rfl rfl rfl ib_neq) (fun a h => ?_)
          refine g_yes h rfl rfl rfl rfl hB7 ?_
          refine s_move h rfl _ rfl rfl (by decide) rfl (fun a h => ?_)
          refine q_grp h 4 (t := 50) 54 ((decide (x13.2 ≠ 2)) || (decide (0 < (x13.1.length : Int)))) rfl (fun hB10 => ?_) (fun hB10 => ?_) (fun a w h => ?_)
          · refine g_no h rfl rfl rfl rfl hB10 rfl (by decide) (fun a h => ?_)
            refine g_no h rfl rfl rfl rfl hB10 rfl (by decide) (fun a h => ?_)
            refine g_no h rfl rfl rfl rfl hB10 rfl (by decide) (fun a h => ?_)
            refine g_yes h rfl rfl rfl rfl hB7 ?_
            refine s_x h rfl rfl (by decide) (x_pick (u' := undef) h.k rfl rfl (fun _ => rfl) (fun hh => absurd (hB10.symm.trans hh) (by decide))) (fun a h => ?_)
            exact (h.mid 3 rfl).val (by first | rfl | (rw [hB10]; first | rfl | simp))
          · refine g_yes h rfl rfl rfl rfl hB10 ?_
            refine s_move h rfl _ rfl rfl (by decide) rfl (fun a h => ?_)
            refine g_yes h rfl rfl rfl rfl hB10 ?_
            have hr30 : r64 (x13.1.length : Int) := len_r (h.m.rowLen (i := 0) rfl)
            refine s_x h rfl rfl (by decide) (x_len h.k rfl Tryd.underlying23 rfl) (fun a h => ?_)
            refine g_yes h rfl rfl rfl rfl hB10 ?_
            refine s_x h rfl rfl (by decide) (x_bin h.k rfl rfl rfl ib_gtr) (fun a h => ?_)
            refine g_yes h rfl rfl rfl rfl hB7 ?_
            refine s_x h rfl rfl (by decide) (x_pick (u' := undef) h.k rfl rfl (fun hh => absurd (hB10.symm.trans hh) (by decide)) (fun _ => rfl)) (fun a h => ?_)
            exact (h.mid 3 rfl).val (by first | rfl | (rw [hB10]; first | rfl | simp))
          refine g_yes h rfl rfl rfl rfl hB4 ?_
          refine s_x h rfl rfl (by decide) (x_pick (u' := undef) h.k rfl rfl (fun _ => rfl) (fun hh => absurd (hB7.symm.trans hh) (by decide))) (fun a h => ?_)
          exact (h.mid 4 rfl).val (by first | rfl | (rw [hB7]; first | rfl | simp))
        · refine g_no h rfl rfl rfl rfl hB7 rfl (by decide) (fun a h => ?_)
          refine g_no h rfl rfl rfl rfl hB7 rfl (by decide) (fun a h => ?_)
          refine g_no h rfl rfl rfl rfl hB7 rfl (by decide) (fun a h => ?_)
          refine g_off h rfl rfl rfl rfl rfl (by decide) (fun a h => ?_)
          refine g_off h rfl rfl rfl rfl rfl (by decide) (fun a h => ?_)
          refine g_off h rfl rfl rfl rfl rfl (by decide) (fun a h => ?_)
          refine g_no h rfl rfl rfl rfl hB7 rfl (by decide) (fun a h => ?_)
          refine g_yes h rfl rfl rfl rfl hB4 ?_
          refine s_x h rfl rfl (by decide) (x_pick (u' := undef) h.k rfl rfl (fun hh => absurd (hB7.symm.trans hh) (by decide)) (fun _ => rfl)) (fun a h => ?_)
          exact (h.mid 7 rfl).val (by first | rfl | (rw [hB7]; first | rfl | simp))
        refine s_x h rfl rfl (by decide) (x_pick (u' := undef) h.k rfl rfl (fun hh => absurd (hB4.symm.trans hh) (by decide)) (fun _ => rfl)) (fun a h => ?_)
        exact (h.mid 4 rfl).val (by first | rfl | (rw [hB4]; first | rfl | simp))
      refine l_end ?_
      refine c_cond h rfl (fun hb => ?_) (fun hb => ?_)
      · rw [if_pos hb] at hf
        refine c_rs ?_ -- region 8
        refine s_assign h rfl _ rfl rfl (by decide) rfl (fun a h => ?_)
        refine l_end ?_
        refine wp_ret ?_
        refine e_thenR ?_
        rw [← Option.some.inj hf]
        exact r_ret1 h rfl (rv_tmp h rfl) ⟨_, [], _, rfl, ⟨rfl, rfl, trivial⟩, rfl, (Up.refl _ _ _), (h.m.pick [2] _ (by decide) rfl)⟩
      · rw [if_neg (by rw [hb]; decide)] at hf
        refine wp_skip ?_
        refine e_thenN ?_
        obtain ⟨o31, hc32, hf⟩ := bsome hf
        refine c_cut (fun a w => ∃ (S33 : Snap), (.inr ()) = o31 ∧ Snap.le S0 S33 ∧ Up (ownL ([] ++ [.sn S0])) w0 S0 S33 ∧ St 120 w0 (ownL ([] ++ [.sn S0])) [(1, .slice Aa1 a1.length ca1), (2, .pointer (some ⟨g7, 0, none⟩))] [.box g7 25 ([.int .i64 a0.1, .slice A4 a0.2.length c5]), .sn S33] a w) ?_ ?_
        · refine c_rs ?_ -- region 9
          refine s_move h rfl _ rfl rfl (by decide) rfl (fun a h => ?_)
          refine s_x h rfl rfl (by decide) (x_bin h.k rfl rfl rfl ib_eql) (fun a h => ?_)
          refine l_end ?_
          refine c_cond h rfl (fun hb => ?_) (fun hb => ?_)
          · rw [if_pos (of_decide_eq_true hb)] at hc32
            refine c_rs ?_ -- region 10
            refine s_move h rfl _ rfl rfl (by decide) rfl (fun a h => ?_)
            have h := h.pick [0, 2, 1] (by decide) rfl
            obtain ⟨S36, le37, up38, hs39, h⟩ := q_freeze (T := ty8) h (Up.refl _ _ _) hq21
            obtain ⟨x40, h41, hc32⟩ := bsome hc32
            have hX := reply_Take_ok Fu (S0 := S36) A16 c17 x13.1 hs39 _ h41 _ (h.sub (Ls := []))
            refine q_callY (Ls := []) hX h up38 rfl rfl rfl (by decide) Tryd.func8 rfl rfl rfl (fun a w v L1 S43 hR le45 up44 h => ?_)
            obtain ⟨k46, rfl, rfl, hv47, hr54, _⟩ := hR
            obtain ⟨k48, k49, rfl, ⟨rfl, hr50⟩, ⟨A51, c52, rfl, hs53⟩⟩ := hv47
            refine s_move h rfl _ rfl rfl (by decide) rfl (fun a h => ?_)
            refine s_x h rfl rfl (by decide) (x_ext h.k rfl rfl rfl) (fun a h => ?_)
            refine s_x h rfl rfl (by decide) (x_ext h.k rfl rfl rfl) (fun a h => ?_)
            refine s_alloc h rfl rfl rfl (by decide) zi_api_Reply rfl (fun a w g55 h => ?_)
            refine s_stW h rfl rfl rfl ag_api_Reply rfl (es := [.int .i64 x40.1.1, .slice A51 x40.1.2.length c52]) rfl rfl (by simp [Value.oneCell']) 0 rfl rfl (fun a w h => ?_)
            refine s_assign h rfl _ rfl rfl (by decide) rfl (fun a h => ?_)
            refine l_end ?_
            refine c_rs ?_ -- region 11
            refine s_move h rfl _ rfl rfl (by decide) rfl (fun a h => ?_)
            refine s_x h rfl rfl (by decide) (x_bin h.k rfl rfl rfl ib_neq) (fun a h => ?_)
            refine s_move h rfl _ rfl rfl (by decide) rfl (fun a h => ?_)
            obtain ⟨z57, hz56, hc32⟩ := bsome hc32
            refine q_grp h 5 (t := 66) 71 z57 rfl (fun hB2 => ?_) (fun hB2 => ?_) (fun a w h => ?_)
            · refine g_no h rfl rfl rfl rfl hB2 rfl (by decide) (fun a h => ?_)
              refine g_no h rfl rfl rfl rfl hB2 rfl (by decide) (fun a h => ?_)
              refine g_no h rfl rfl rfl rfl hB2 rfl (by decide) (fun a h => ?_)
              refine g_no h rfl rfl rfl rfl hB2 rfl (by decide) (fun a h => ?_)
              rw [if_pos (of_decide_eq_true hB2)] at hz56
              refine s_x h rfl rfl (by decide) (x_pick (u' := undef) h.k rfl rfl (fun _ => rfl) (fun hh => absurd (hB2.symm.trans hh) (by decide))) (fun a h => ?_)
              exact (h.mid 4 rfl).val (by rw [Option.some.inj hz56])
            · rw [if_neg (of_decide_eq_false hB2)] at hz56
              refine g_yes h rfl rfl rfl rfl hB2 ?_
              refine s_x h rfl rfl (by decide) (x_ldR h.k rfl ag_api_Reply rfl ([.int .i64 x40.1.1, .slice A51 x40.1.2.length c52]) rfl (h.m.range0 (i := 0) rfl)) (fun a h => ?_)
              refine g_yes h rfl rfl rfl rfl hB2 ?_
              refine s_x h rfl rfl (by decide) (x_ldR h.k rfl ag_api_Reply rfl ([.int .i64 a0.1, .slice A4 a0.2.length c5]) rfl (h.m.range0 (i := 2) rfl)) (fun a h => ?_)
              refine g_yes h rfl rfl rfl rfl hB2 ?_
              obtain ⟨x59, h60, hz56⟩ := bsome hz56
              have hX := reply_Same_ok Fu (S0 := snapAll _) ([.int .i64 x40.1.1, .slice A51 x40.1.2.length c52]) x40.1 ((tyP tyI (tyL ty8)).mono (h.m.leAll (i := 1) rfl) (show (tyP tyI (tyL ty8)).rep S43 ([.int .i64 x40.1.1, .slice A51 x40.1.2.length c52]) x40.1 from ⟨[.int .i64 x40.1.1], [.slice A51 x40.1.2.length c52], rfl, ⟨rfl, hr50⟩, ⟨_, _, rfl, hs53⟩⟩)) ([.int .i64 a0.1, .slice A4 a0.2.length c5]) a0 ((tyP tyI (tyL ty8)).mono (h.m.leAll (i := 1) rfl) (show (tyP tyI (tyL ty8)).rep S43 ([.int .i64 a0.1, .slice A4 a0.2.length c5]) a0 from ⟨[.int .i64 a0.1], [.slice A4 a0.2.length c5], rfl, ⟨rfl, hr3⟩, ⟨_, _, rfl, (hs6.mono (le37.trans le45))⟩⟩)) _ h60 _ h.startAll
              refine q_callX hX h rfl rfl rfl (by decide) Tryd.func9 rfl rfl rfl (fun a w v L1 S1 hR hb1 h => ?_)
              obtain ⟨rfl, rfl, _⟩ := hR
              refine g_yes h rfl rfl rfl rfl hB2 ?_
              refine s_x h rfl rfl (by decide) (x_not h.k rfl rfl) (fun a h => ?_)
              refine s_x h rfl rfl (by decide) (x_pick (u' := undef) h.k rfl rfl (fun hh => absurd (hB2.symm.trans hh) (by decide)) (fun _ => rfl)) (fun a h => ?_)
              exact (h.mid 4 rfl).val (by rw [Option.some.inj hz56])
            refine s_move h rfl _ rfl rfl (by decide) rfl (fun a h => ?_)
            refine q_grp h 8 (t := 72) 80 (z57 || (decide ((x13.1.length : Int) ≠ w64 (3 + (a0.2.length : Int))))) rfl (fun hB8 => ?_) (fun hB8 => ?_) (fun a w h => ?_)
            · refine g_no h rfl rfl rfl rfl hB8 rfl (by decide) (fun a h => ?_)
              refine g_no h rfl rfl rfl rfl hB8 rfl (by decide) (fun a h => ?_)
              refine g_no h rfl rfl rfl rfl hB8 rfl (by decide) (fun a h => ?_)
              refine g_no h rfl rfl rfl rfl hB8 rfl (by decide) (fun a h => ?_)
              refine g_no h rfl rfl rfl rfl hB8 rfl (by decide) (fun a h => ?_)
              refine g_no h rfl rfl rfl rfl hB8 rfl (by decide) (fun a h => ?_)
              refine g_no h rfl rfl rfl rfl hB8 rfl (by decide) (fun a h => ?_)
              refine s_x h rfl rfl (by decide) (x_pick (u' := undef) h.k rfl rfl (fun _ => rfl) (fun hh => absurd (hB8.symm.trans hh) (by decide))) (fun a h => ?_)
              exact (h.mid 7 rfl).val (by first | rfl | (rw [hB8]; first | rfl | simp))
            · refine g_yes h rfl rfl rfl rfl hB8 ?_
              refine s_move h rfl _ rfl rfl (by decide) rfl (fun a h => ?_)
              refine g_yes h rfl rfl rfl rfl hB8 ?_
              refine s_x h rfl rfl (by decide) (x_len h.k rfl Tryd.underlying23 rfl) (fun a h => ?_)
              refine g_yes h rfl rfl rfl rfl hB8 ?_
              refine s_x h rfl rfl (by decide) (x_faddr h.k rfl Tryd.underlying25 rfl sz_Suint8 rfl) (fun a h => ?_)
              refine g_yes h rfl rfl rfl rfl hB8 ?_
              refine s_x h rfl rfl (by decide) (x_ld h.k rfl Tryd.underlying23 rfl rfl ((h.m.cell (i := 2) rfl 1).trans rfl)) (fun a h => ?_)
              refine g_yes h rfl rfl rfl rfl hB8 ?_
              refine s_x h rfl rfl (by decide) (x_len h.k rfl Tryd.underlying23 rfl) (fun a h => ?_)
              refine g_yes h rfl rfl rfl rfl hB8 ?_
              refine s_x h rfl rfl (by decide) (x_bin h.k rfl rfl rfl (ib_add rfl)) (fun a h => ?_)
              refine g_yes h rfl rfl rfl rfl hB8 ?_
              refine s_x h rfl rfl (by decide) (x_bin h.k rfl rfl rfl ib_neq) (fun a h => ?_)
              refine s_x h rfl rfl (by decide) (x_pick (u' := undef) h.k rfl rfl (fun hh => absurd (hB8.symm.trans hh) (by decide)) (fun _ => rfl)) (fun a h => ?_)
              exact (h.mid 7 rfl).val (by first | rfl | (rw [hB8]; first | rfl | simp))
            refine l_end ?_
            refine c_cond h rfl (fun hb => ?_) (fun hb => ?_)
            · rw [if_pos hb] at hc32
              refine c_rs ?_ -- region 12
              refine s_assign h rfl _ rfl rfl (by decide) rfl (fun a h => ?_)
              refine l_end ?_
              refine wp_ret ?_
              refine e_thenR ?_
              cases hc32
              try dsimp only at hf
              rw [← Option.some.inj hf]
              exact r_ret1 h rfl (rv_tmp h rfl) ⟨_, [], _, rfl, ⟨rfl, rfl, trivial⟩, rfl, up44, (h.m.pick [1] _ (by decide) rfl)⟩
            · rw [if_neg (by rw [hb]; decide)] at hc32
              refine wp_skip ?_
              refine e_thenN ?_
              have h := h.pick [2, 1] (by decide) rfl
              exact ⟨S43, (Option.some.inj hc32), (le37.trans le45), up44, h.has (by exact ⟨rfl, rfl, trivial⟩)⟩
          · rw [if_neg (of_decide_eq_false hb)] at hc32
            refine wp_skip ?_
            refine e_thenN ?_
            have h := h.pick [1, 2] (by decide) rfl
            exact ⟨S0, (Option.some.inj hc32), (Snap.le.refl _), (Up.refl _ _ _), h.has (by exact ⟨rfl, rfl, trivial⟩)⟩
        · rintro a w ⟨S33, rfl, le34, up35, h⟩
          try dsimp only at hf
          refine c_rs ?_ -- region 13
          refine s_move h rfl _ rfl rfl (by decide) rfl (fun a h => ?_)
          obtain ⟨x64, h65, hf⟩ := bsome hf
          have h := h.pick [1, 0] (by decide) rfl
          have hX := reply_Take_ok Fu (S0 := S33) Aa1 ca1 a1 (hsa1.mono le34) _ h65 _ (h.sub (Ls := []))
          refine q_callY (Ls := []) hX h up35 rfl rfl rfl (by decide) Tryd.func8 rfl rfl rfl (fun a w v L1 S67 hR le69 up68 h => ?_)
          obtain ⟨k70, rfl, rfl, hv71, hr78, _⟩ := hR
          obtain ⟨k72, k73, rfl, ⟨rfl, hr74⟩, ⟨A75, c76, rfl, hs77⟩⟩ := hv71
          refine s_move h rfl _ rfl rfl (by decide) rfl (fun a h => ?_)
          refine s_x h rfl rfl (by decide) (x_ext h.k rfl rfl rfl) (fun a h => ?_)
          refine s_x h rfl rfl (by decide) (x_ext h.k rfl rfl rfl) (fun a h => ?_)
          refine s_alloc h rfl rfl rfl (by decide) zi_api_Reply rfl (fun a w g79 h => ?_)
          refine s_stW h rfl rfl rfl ag_api_Reply rfl (es := [.int .i64 x64.1.1, .slice A75 x64.1.2.length c76]) rfl rfl (by simp [Value.oneCell']) 0 rfl rfl (fun a w h => ?_)
          refine s_assign h rfl _ rfl rfl (by decide) rfl (fun a h => ?_)
          refine l_end ?_
          obtain ⟨o80, hc81, hf⟩ := bsome hf
          refine c_cut (fun a w => (.inr ()) = o80 ∧ St 120 w0 (ownL ([] ++ [.sn S0])) [(2, .pointer (some ⟨g7, 0, none⟩))] [.box g7 25 ([.int .i64 a0.1, .slice A4 a0.2.length c5]), .sn S67] a w) ?_ ?_
          · refine c_rs ?_ -- region 14
            refine s_move h rfl _ rfl rfl (by decide) rfl (fun a h => ?_)
            refine s_x h rfl rfl (by decide) (x_bin h.k rfl rfl rfl ib_eql) (fun a h => ?_)
            refine l_end ?_
            refine c_cond h rfl (fun hb => ?_) (fun hb => ?_)
            · rw [if_pos (of_decide_eq_true hb)] at hc81
              refine c_rs ?_ -- region 15
              refine s_x h rfl rfl (by decide) (x_ldR h.k rfl ag_api_Reply rfl ([.int .i64 x64.1.1, .slice A75 x64.1.2.length c76]) rfl (h.m.range0 (i := 0) rfl)) (fun a h => ?_)
              obtain ⟨x82, h83, hc81⟩ := bsome hc81
              have hX := reply_Put_ok Fu (S0 := snapAll _) ([.int .i64 x64.1.1, .slice A75 x64.1.2.length c76]) x64.1 ((tyP tyI (tyL ty8)).mono (h.m.leAll (i := 1) rfl) (show (tyP tyI (tyL ty8)).rep S67 ([.int .i64 x64.1.1, .slice A75 x64.1.2.length c76]) x64.1 from ⟨[.int .i64 x64.1.1], [.slice A75 x64.1.2.length c76], rfl, ⟨rfl, hr74⟩, ⟨_, _, rfl, hs77⟩⟩)) _ h83 _ h.startAll
              refine q_callX hX h rfl rfl rfl (by decide) Tryd.func7 rfl rfl rfl (fun a w v L1 S1 hR hb1 h => ?_)
              obtain ⟨A85, c86, cs87, rfl, rfl, hq88, hr89, _⟩ := hR
              have hq90 := hq88.fl (S' := S67) fl_8
              refine s_move h rfl _ rfl rfl (by decide) rfl (fun a h => ?_)
              refine s_x h rfl rfl (by decide) (x_ext h.k rfl rfl rfl) (fun a h => ?_)
              refine s_x h rfl rfl (by decide) (x_ext h.k rfl rfl rfl) (fun a h => ?_)
              refine s_assign h rfl _ rfl rfl (by decide) rfl (fun a h => ?_)
              refine s_assign h rfl _ rfl rfl (by decide) rfl (fun a h => ?_)
              refine l_end ?_
              refine c_rs ?_ -- region 16
              refine s_move h rfl _ rfl rfl (by decide) rfl (fun a h => ?_)
              refine s_x h rfl rfl (by decide) (x_bin h.k rfl rfl rfl ib_neq) (fun a h => ?_)
              refine s_move h rfl _ rfl rfl (by decide) rfl (fun a h => ?_)
              obtain ⟨z92, hz91, hc81⟩ := bsome hc81
              refine q_grp h 5 (t := 95) 100 z92 rfl (fun hB2 => ?_) (fun hB2 => ?_) (fun a w h => ?_)
              · refine g_no h rfl rfl rfl rfl hB2 rfl (by decide) (fun a h => ?_)
                refine g_no h rfl rfl rfl rfl hB2 rfl (by decide) (fun a h => ?_)
                refine g_no h rfl rfl rfl rfl hB2 rfl (by decide) (fun a h => ?_)
                refine g_no h rfl rfl rfl rfl hB2 rfl (by decide) (fun a h => ?_)
                rw [if_pos (of_decide_eq_true hB2)] at hz91
                refine s_x h rfl rfl (by decide) (x_pick (u' := undef) h.k rfl rfl (fun _ => rfl) (fun hh => absurd (hB2.symm.trans hh) (by decide))) (fun a h => ?_)
                exact (h.mid 4 rfl).val (by rw [Option.some.inj hz91])
              · rw [if_neg (of_decide_eq_false hB2)] at hz91
                refine g_yes h rfl rfl rfl rfl hB2 ?_
                refine s_move h rfl _ rfl rfl (by decide) rfl (fun a h => ?_)
                refine g_yes h rfl rfl rfl rfl hB2 ?_
                refine s_move h rfl _ rfl rfl (by decide) rfl (fun a h => ?_)
                refine g_yes h rfl rfl rfl rfl hB2 ?_
                obtain ⟨x94, h95, hz91⟩ := bsome hz91
                have hX := chatelaineref01_Same_ok Fu (S0 := snapAll _) A85 c86 x82.1 (h.m.rowAll (i := 0) rfl (j := 2) rfl hq90) Aa1 ca1 a1 ((hsa1.mono (le34.trans le69)).mono (h.m.leAll (i := 2) rfl)) _ h95 _ h.startAll
                refine q_callX hX h rfl rfl rfl (by decide) Tryd.func10 rfl rfl rfl (fun a w v L1 S1 hR hb1 h => ?_)
                obtain ⟨rfl, rfl, _⟩ := hR
                refine g_yes h rfl rfl rfl rfl hB2 ?_
                refine s_x h rfl rfl (by decide) (x_not h.k rfl rfl) (fun a h => ?_)
                refine s_x h rfl rfl (by decide) (x_pick (u' := undef) h.k rfl rfl (fun hh => absurd (hB2.symm.trans hh) (by decide)) (fun _ => rfl)) (fun a h => ?_)
                exact (h.mid 4 rfl).val (by rw [Option.some.inj hz91])
              refine l_end ?_
              refine c_cond h rfl (fun hb => ?_) (fun hb => ?_)
              · rw [if_pos hb] at hc81
                refine c_rs ?_ -- region 17
                refine s_assign h rfl _ rfl rfl (by decide) rfl (fun a h => ?_)
                refine l_end ?_
                refine wp_ret ?_
                refine e_thenR ?_
                cases hc81
                try dsimp only at hf
                rw [← Option.some.inj hf]
                exact r_ret1 h rfl (rv_tmp h rfl) ⟨_, [], _, rfl, ⟨rfl, rfl, trivial⟩, rfl, up68, (h.m.pick [2] _ (by decide) rfl)⟩
              · rw [if_neg (by rw [hb]; decide)] at hc81
                refine wp_skip ?_
                refine e_thenN ?_
                have h := h.pick [3, 2] (by decide) rfl
                exact ⟨(Option.some.inj hc81), h.has (by exact ⟨rfl, trivial⟩)⟩
            · rw [if_neg (of_decide_eq_false hb)] at hc81
              refine c_rs ?_ -- region 18
              refine s_x h rfl rfl (by decide) (x_ldR h.k rfl ag_api_Reply rfl ([.int .i64 x64.1.1, .slice A75 x64.1.2.length c76]) rfl (h.m.range0 (i := 0) rfl)) (fun a h => ?_)
              refine s_x h rfl rfl (by decide) (x_build h.k rfl [] rfl ([.int .i64 0, .slice none 0 0]) (by kernel_rfl)) (fun a h => ?_)
              obtain ⟨x97, h98, hc81⟩ := bsome hc81
              have hX := reply_Same_ok Fu (S0 := snapAll _) ([.int .i64 x64.1.1, .slice A75 x64.1.2.length c76]) x64.1 ((tyP tyI (tyL ty8)).mono (h.m.leAll (i := 1) rfl) (show (tyP tyI (tyL ty8)).rep S67 ([.int .i64 x64.1.1, .slice A75 x64.1.2.length c76]) x64.1 from ⟨[.int .i64 x64.1.1], [.slice A75 x64.1.2.length c76], rfl, ⟨rfl, hr74⟩, ⟨_, _, rfl, hs77⟩⟩)) ([.int .i64 0, .slice none 0 0]) (0, []) ((tyP tyI (tyL ty8)).mono (h.m.leAll (i := 1) rfl) (show (tyP tyI (tyL ty8)).rep S67 ([.int .i64 0, .slice none 0 0]) (0, []) from ⟨[.int .i64 0], [.slice none 0 0], rfl, ⟨rfl, (show r64 0 from ⟨by decide, by decide⟩)⟩, ⟨_, _, rfl, (slS.nil ty8 _)⟩⟩)) _ h98 _ h.startAll
              refine q_callX hX h rfl rfl rfl (by decide) Tryd.func9 rfl rfl rfl (fun a w v L1 S1 hR hb1 h => ?_)
              obtain ⟨rfl, rfl, _⟩ := hR
              refine s_x h rfl rfl (by decide) (x_not h.k rfl rfl) (fun a h => ?_)
              refine l_end ?_
              refine c_cond h rfl (fun hb => ?_) (fun hb => ?_)
              · rw [if_pos hb] at hc81
                refine c_rs ?_ -- region 19
                refine s_assign h rfl _ rfl rfl (by decide) rfl (fun a h => ?_)
                refine l_end ?_
                refine wp_ret ?_
                refine e_thenR ?_
                cases hc81
                try dsimp only at hf
                rw [← Option.some.inj hf]
                exact r_ret1 h rfl (rv_tmp h rfl) ⟨_, [], _, rfl, ⟨rfl, rfl, trivial⟩, rfl, up68, (h.m.pick [1] _ (by decide) rfl)⟩
              · rw [if_neg (by rw [hb]; decide)] at hc81
                refine wp_skip ?_
                refine e_thenN ?_
                have h := h.pick [2, 1] (by decide) rfl
                exact ⟨(Option.some.inj hc81), h.has (by exact ⟨rfl, trivial⟩)⟩
          · rintro a w ⟨rfl, h⟩
            try dsimp only at hf
            refine c_rs ?_ -- region 20
            refine s_x h rfl rfl (by decide) (x_faddr h.k rfl Tryd.underlying25 rfl sz_api_Errno rfl) (fun a h => ?_)
            refine s_x h rfl rfl (by decide) (x_ld h.k rfl Tryd.underlying22 rfl rfl ((h.m.cell (i := 0) rfl 0).trans rfl)) (fun a h => ?_)
            obtain ⟨x100, h101, hf⟩ := bsome hf
            have hX := reply_Word_ok Fu (S0 := snapAll _) ((hGT.mono (le34.trans le69)).mono (h.m.leAll (i := 1) rfl)) a0.1 hr3 _ h101 _ h.startAll
            refine q_callX hX h rfl rfl rfl (by decide) Tryd.func12 rfl rfl rfl (fun a w v L1 S1 hR hb1 h => ?_)
            obtain ⟨rfl, rfl, hr103, _⟩ := hR
            obtain ⟨x104, h105, hf⟩ := bsome hf
            have hX := reply_Of_ok Fu (S0 := snapAll _) x100 hr103 _ h105 _ h.startAll
            refine q_callX hX h rfl rfl rfl (by decide) Tryd.func11 rfl rfl rfl (fun a w v L1 S1 hR hb1 h => ?_)
            obtain ⟨rfl, rfl, hr107, _⟩ := hR
            refine s_move h rfl _ rfl rfl (by decide) rfl (fun a h => ?_)
            refine s_x h rfl rfl (by decide) (x_ext h.k rfl rfl rfl) (fun a h => ?_)
            refine s_x h rfl rfl (by decide) (x_ext h.k rfl rfl rfl) (fun a h => ?_)
            refine s_assign h rfl _ rfl rfl (by decide) rfl (fun a h => ?_)
            refine s_assign h rfl _ rfl rfl (by decide) rfl (fun a h => ?_)
            refine l_end ?_
            refine c_rs ?_ -- region 21
            refine s_move h rfl _ rfl rfl (by decide) rfl (fun a h => ?_)
            refine s_x h rfl rfl (by decide) (x_not h.k rfl rfl) (fun a h => ?_)
            refine s_move h rfl _ rfl rfl (by decide) rfl (fun a h => ?_)
            refine q_grp h 5 (t := 114) 119 ((!x104.2) || (decide (x104.1 = a0.1))) rfl (fun hB2 => ?_) (fun hB2 => ?_) (fun a w h => ?_)
            · refine g_no h rfl rfl rfl rfl hB2 rfl (by decide) (fun a h => ?_)
              refine g_no h rfl rfl rfl rfl hB2 rfl (by decide) (fun a h => ?_)
              refine g_no h rfl rfl rfl rfl hB2 rfl (by decide) (fun a h => ?_)
              refine g_no h rfl rfl rfl rfl hB2 rfl (by decide) (fun a h => ?_)
              refine s_x h rfl rfl (by decide) (x_pick (u' := undef) h.k rfl rfl (fun _ => rfl) (fun hh => absurd (hB2.symm.trans hh) (by decide))) (fun a h => ?_)
              exact (h.mid 4 rfl).val (by first | rfl | (rw [hB2]; first | rfl | simp))
            · refine g_yes h rfl rfl rfl rfl hB2 ?_
              refine s_move h rfl _ rfl rfl (by decide) rfl (fun a h => ?_)
              refine g_yes h rfl rfl rfl rfl hB2 ?_
              refine s_x h rfl rfl (by decide) (x_faddr h.k rfl Tryd.underlying25 rfl sz_api_Errno rfl) (fun a h => ?_)
              refine g_yes h rfl rfl rfl rfl hB2 ?_
              refine s_x h rfl rfl (by decide) (x_ld h.k rfl Tryd.underlying22 rfl rfl ((h.m.cell (i := 0) rfl 0).trans rfl)) (fun a h => ?_)
              refine g_yes h rfl rfl rfl rfl hB2 ?_
              refine s_x h rfl rfl (by decide) (x_bin h.k rfl rfl rfl ib_eql) (fun a h => ?_)
              refine s_x h rfl rfl (by decide) (x_pick (u' := undef) h.k rfl rfl (fun hh => absurd (hB2.symm.trans hh) (by decide)) (fun _ => rfl)) (fun a h => ?_)
              exact (h.mid 4 rfl).val (by first | rfl | (rw [hB2]; first | rfl | simp))
            refine s_assign h rfl _ rfl rfl (by decide) rfl (fun a h => ?_)
            refine l_end ?_
            refine wp_ret ?_
            obtain rfl := Option.some.inj hf
            exact r_ret1 h rfl (rv_tmp h rfl) ⟨_, [], _, rfl, ⟨rfl, rfl, trivial⟩, rfl, up68, (h.m.pick [1] _ (by decide) rfl)⟩
end Go.Proofs.YtcjleeclpmgbjaaDoor
