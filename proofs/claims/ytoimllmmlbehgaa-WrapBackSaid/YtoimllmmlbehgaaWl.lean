/- Wl: Go functions as plain functions, and that they are so (written by xt.py). -/
import Derived.Test.YtoimllmmlbehgaaWp
import Derived.Test.YtoimllmmlbehgaaWr
import Derived.Test.YtoimllmmlbehgaaEb
set_option linter.unusedVariables false
set_option linter.unusedSimpArgs false
namespace Go.Proofs.Ytoimllmmlbehgaa
open Go.RowKit
def chatelainelaw09_awake (Fu : Nat) : Option Bool :=
  (mkN 1 16).bind fun n1 => (mkN 1 16).bind fun n6 => (wrap_Wrap Fu (List.replicate n1 ((0 : UInt8) : UInt8)) (List.replicate n6 ((0 : UInt8) : UInt8))).bind fun x11 => (wrap_Size Fu 16).bind fun x24 => some ((((decide (x11.2 = 0)) && (decide ((x11.1.length : Int) = 24))) && x24.2) && (decide (x24.1 = 24)))
set_option maxRecDepth 100000 in
set_option maxHeartbeats 2000000 in
theorem chatelainelaw09_awake_ok (Fu : Nat) {S0 : Snap}  (r : Bool) (hf : chatelainelaw09_awake Fu = some r) (w0 : World) (hm : Mem w0 (ownL ([] ++ [.sn S0])) ([] ++ [.sn S0]) w0) :
    Calls Try.prog 21 #[] w0 (Ret w0 S0 [] (fun v L1 S1 => v = .bool r ∧ L1 = [] ∧ True)) := by
  unfold chatelainelaw09_awake at hf
  refine c_enterM Try.func21 rfl 29 rfl (by simp) _ hm _ rfl (fun a h => ?_)
  refine c_rs ?_ -- region 0
  refine s_assign h rfl _ rfl rfl (by decide) rfl (fun a h => ?_)
  refine l_end ?_
  refine wp_seq ?_
  -- region 1 draws
  obtain ⟨n1, h2, hf⟩ := bsome hf
  obtain ⟨n6, h7, hf⟩ := bsome hf
  obtain ⟨x11, h12, hf⟩ := bsome hf
  refine c_fin (fun a w => ∃ (A20 : Option Addr), ∃ (c21 : Nat), ∃ (cs22 : List Value), reps ty8 S0 cs22 x11.1 ∧ St 29 w0 (ownL ([] ++ [.sn S0])) [(1, .slice A20 x11.1.length c21), (2, .int .i64 x11.2)] [.row (.slice A20 x11.1.length c21) 5 1 x11.1.length cs22, .sn S0] a w) ?_ (fun a w h => ?_)
  · refine d_start h (Mem _ _ _) 8 8 rfl (by kernel_rfl) (fun _ _ _ _ _ h => h) (fun _ h => h) (fun Q a w HE HN h HS => ?_)
    refine d_two 0 1 (by kernel_rfl) (d_one 0 rfl _ (fun K hK => ?_)) (d_one 1 rfl _ (fun K hK => ?_))
    · refine q_make (T := ty8) (S := S0) h rfl rfl rfl (by decide) Try.underlying22 zb_uint8 rfl rfl (q := (0 : UInt8)) rfl rfl rfl h2 (fun a w A3 cs4 hq5 h => ?_)
      replace HS := h.m.pick [1] [.sn S0] (by decide) rfl
      refine hK _ _ ⟨fun _ _ => HS, ?_⟩
      clear hK
      refine d_alone 1 rfl (by kernel_rfl) (fun K hK => ?_)
      refine q_make (T := ty8) (S := S0) h rfl rfl rfl (by decide) Try.underlying22 zb_uint8 rfl rfl (q := (0 : UInt8)) rfl rfl rfl h7 (fun a w A8 cs9 hq10 h => ?_)
      replace HS := h.m.pick [2] [.sn S0] (by decide) rfl
      refine hK _ _ (fun _ _ => HS) ?_
      clear hK
      refine d_alone 2 rfl (by kernel_rfl) (fun K hK => ?_)
      have hX := wrap_Wrap_ok Fu (S0 := snapAll _) A3 n1 (List.replicate n1 ((0 : UInt8) : UInt8)) (h.m.rowAll (i := 1) rfl (j := 2) rfl hq5) A8 n6 (List.replicate n6 ((0 : UInt8) : UInt8)) (h.m.rowAll (i := 0) rfl (j := 2) rfl hq10) _ h12 _ h.startAll
      refine q_callX hX h rfl rfl rfl (by decide) Try.func22 rfl rfl rfl (fun a w v L1 S1 hR hb1 h => ?_)
      obtain ⟨A14, c15, cs16, rfl, rfl, hq17, hr18, _⟩ := hR
      have hq19 := hq17.fl (S' := S0) fl_8
      refine hK _ _ (fun _ _ => HS.ext hb1) ?_
      replace HS := HS.ext hb1
      clear hK
      refine d_takeP h (fun _ => HS) HN 3 rfl (by kernel_rfl) (by kernel_rfl) (by kernel_rfl) (by decide) rfl rfl (by decide) (fun w' => x_move h.k _ rfl rfl) (fun a h => ?_)
      refine d_takeP h (fun _ => HS) HN 4 rfl (by kernel_rfl) (by kernel_rfl) (by kernel_rfl) (by decide) rfl rfl (by decide) (fun w' => x_ext h.k rfl rfl rfl) (fun a h => ?_)
      refine d_takeP h (fun _ => HS) HN 5 rfl (by kernel_rfl) (by kernel_rfl) (by kernel_rfl) (by decide) rfl rfl (by decide) (fun w' => x_ext h.k rfl rfl rfl) (fun a h => ?_)
      refine d_takeP h (fun _ => HS) HN 6 rfl (by kernel_rfl) (by kernel_rfl) (by kernel_rfl) (by decide) rfl rfl (by decide) (fun w' => x_assign h.k _ rfl rfl) (fun a h => ?_)
      refine d_takeP h (fun _ => HS) HN 7 rfl (by kernel_rfl) (by kernel_rfl) (by kernel_rfl) (by decide) rfl rfl (by decide) (fun w' => x_assign h.k _ rfl rfl) (fun a h => ?_)
      refine d_done (by kernel_rfl) (HE _ _ ?_) _
      refine e_thenN ?_
      have h := h.pick [0, 3] (by decide) rfl
      exact ⟨A14, c15, cs16, hq19, h.has (by exact ⟨rfl, rfl, trivial⟩)⟩
    · refine q_make (T := ty8) (S := S0) h rfl rfl rfl (by decide) Try.underlying22 zb_uint8 rfl rfl (q := (0 : UInt8)) rfl rfl rfl h7 (fun a w A8 cs9 hq10 h => ?_)
      replace HS := h.m.pick [1] [.sn S0] (by decide) rfl
      refine hK _ _ ⟨fun _ _ => HS, ?_⟩
      clear hK
      refine d_alone 0 rfl (by kernel_rfl) (fun K hK => ?_)
      refine q_make (T := ty8) (S := S0) h rfl rfl rfl (by decide) Try.underlying22 zb_uint8 rfl rfl (q := (0 : UInt8)) rfl rfl rfl h2 (fun a w A3 cs4 hq5 h => ?_)
      replace HS := h.m.pick [2] [.sn S0] (by decide) rfl
      refine hK _ _ (fun _ _ => HS) ?_
      clear hK
      refine d_alone 2 rfl (by kernel_rfl) (fun K hK => ?_)
      have hX := wrap_Wrap_ok Fu (S0 := snapAll _) A3 n1 (List.replicate n1 ((0 : UInt8) : UInt8)) (h.m.rowAll (i := 0) rfl (j := 2) rfl hq5) A8 n6 (List.replicate n6 ((0 : UInt8) : UInt8)) (h.m.rowAll (i := 1) rfl (j := 2) rfl hq10) _ h12 _ h.startAll
      refine q_callX hX h rfl rfl rfl (by decide) Try.func22 rfl rfl rfl (fun a w v L1 S1 hR hb1 h => ?_)
      obtain ⟨A14, c15, cs16, rfl, rfl, hq17, hr18, _⟩ := hR
      have hq19 := hq17.fl (S' := S0) fl_8
      refine hK _ _ (fun _ _ => HS.ext hb1) ?_
      replace HS := HS.ext hb1
      clear hK
      refine d_takeP h (fun _ => HS) HN 3 rfl (by kernel_rfl) (by kernel_rfl) (by kernel_rfl) (by decide) rfl rfl (by decide) (fun w' => x_move h.k _ rfl rfl) (fun a h => ?_)
      refine d_takeP h (fun _ => HS) HN 4 rfl (by kernel_rfl) (by kernel_rfl) (by kernel_rfl) (by decide) rfl rfl (by decide) (fun w' => x_ext h.k rfl rfl rfl) (fun a h => ?_)
      refine d_takeP h (fun _ => HS) HN 5 rfl (by kernel_rfl) (by kernel_rfl) (by kernel_rfl) (by decide) rfl rfl (by decide) (fun w' => x_ext h.k rfl rfl rfl) (fun a h => ?_)
      refine d_takeP h (fun _ => HS) HN 6 rfl (by kernel_rfl) (by kernel_rfl) (by kernel_rfl) (by decide) rfl rfl (by decide) (fun w' => x_assign h.k _ rfl rfl) (fun a h => ?_)
      refine d_takeP h (fun _ => HS) HN 7 rfl (by kernel_rfl) (by kernel_rfl) (by kernel_rfl) (by decide) rfl rfl (by decide) (fun w' => x_assign h.k _ rfl rfl) (fun a h => ?_)
      refine d_done (by kernel_rfl) (HE _ _ ?_) _
      refine e_thenN ?_
      have h := h.pick [0, 3] (by decide) rfl
      exact ⟨A14, c15, cs16, hq19, h.has (by exact ⟨rfl, rfl, trivial⟩)⟩
  obtain ⟨A20, c21, cs22, hq23, h⟩ := h
  refine e_thenN ?_
  refine c_rs ?_ -- region 2
  obtain ⟨x24, h25, hf⟩ := bsome hf
  have hX := wrap_Size_ok Fu (S0 := snapAll _) 16 (show r64 16 from ⟨by decide, by decide⟩) _ h25 _ h.startAll
  refine q_callX hX h rfl rfl rfl (by decide) Try.func24 rfl rfl rfl (fun a w v L1 S1 hR hb1 h => ?_)
  obtain ⟨rfl, rfl, hr27, _⟩ := hR
  refine s_move h rfl _ rfl rfl (by decide) rfl (fun a h => ?_)
  refine s_x h rfl rfl (by decide) (x_ext h.k rfl rfl rfl) (fun a h => ?_)
  refine s_x h rfl rfl (by decide) (x_ext h.k rfl rfl rfl) (fun a h => ?_)
  refine s_assign h rfl _ rfl rfl (by decide) rfl (fun a h => ?_)
  refine s_assign h rfl _ rfl rfl (by decide) rfl (fun a h => ?_)
  refine l_end ?_
  refine c_rs ?_ -- region 3
  refine s_move h rfl _ rfl rfl (by decide) rfl (fun a h => ?_)
  refine s_x h rfl rfl (by decide) (x_bin h.k rfl rfl rfl ib_eql) (fun a h => ?_)
  refine s_move h rfl _ rfl rfl (by decide) rfl (fun a h => ?_)
  refine q_grp h 4 (t := 17) 21 ((decide (x11.2 = 0)) && (decide ((x11.1.length : Int) = 24))) rfl (fun hB2 => ?_) (fun hB2 => ?_) (fun a w h => ?_)
  · refine g_yes h rfl rfl rfl rfl hB2 ?_
    refine s_move h rfl _ rfl rfl (by decide) rfl (fun a h => ?_)
    refine g_yes h rfl rfl rfl rfl hB2 ?_
    have hr30 : r64 (x11.1.length : Int) := len_r (h.m.rowLen (i := 0) rfl)
    refine s_x h rfl rfl (by decide) (x_len h.k rfl Try.underlying22 rfl) (fun a h => ?_)
    refine g_yes h rfl rfl rfl rfl hB2 ?_
    refine s_x h rfl rfl (by decide) (x_bin h.k rfl rfl rfl ib_eql) (fun a h => ?_)
    refine s_x h rfl rfl (by decide) (x_pick (u' := undef) h.k rfl rfl (fun _ => rfl) (fun hh => absurd (hB2.symm.trans hh) (by decide))) (fun a h => ?_)
    exact (h.mid 3 rfl).val (by first | rfl | (rw [hB2]; first | rfl | simp))
  · refine g_no h rfl rfl rfl rfl hB2 rfl (by decide) (fun a h => ?_)
    refine g_no h rfl rfl rfl rfl hB2 rfl (by decide) (fun a h => ?_)
    refine g_no h rfl rfl rfl rfl hB2 rfl (by decide) (fun a h => ?_)
    refine s_x h rfl rfl (by decide) (x_pick (u' := undef) h.k rfl rfl (fun hh => absurd (hB2.symm.trans hh) (by decide)) (fun _ => rfl)) (fun a h => ?_)
    exact (h.mid 3 rfl).val (by first | rfl | (rw [hB2]; first | rfl | simp))
  refine s_move h rfl _ rfl rfl (by decide) rfl (fun a h => ?_)
  refine q_grp h 2 (t := 22) 24 (((decide (x11.2 = 0)) && (decide ((x11.1.length : Int) = 24))) && x24.2) rfl (fun hB7 => ?_) (fun hB7 => ?_) (fun a w h => ?_)
  · refine g_yes h rfl rfl rfl rfl hB7 ?_
    refine s_move h rfl _ rfl rfl (by decide) rfl (fun a h => ?_)
    refine s_x h rfl rfl (by decide) (x_pick (u' := undef) h.k rfl rfl (fun _ => rfl) (fun hh => absurd (hB7.symm.trans hh) (by decide))) (fun a h => ?_)
    exact (h.mid 1 rfl).val (by first | rfl | (rw [hB7]; first | rfl | simp))
  · refine g_no h rfl rfl rfl rfl hB7 rfl (by decide) (fun a h => ?_)
    refine s_x h rfl rfl (by decide) (x_pick (u' := undef) h.k rfl rfl (fun hh => absurd (hB7.symm.trans hh) (by decide)) (fun _ => rfl)) (fun a h => ?_)
    exact (h.mid 1 rfl).val (by first | rfl | (rw [hB7]; first | rfl | simp))
  refine s_move h rfl _ rfl rfl (by decide) rfl (fun a h => ?_)
  refine q_grp h 3 (t := 25) 28 ((((decide (x11.2 = 0)) && (decide ((x11.1.length : Int) = 24))) && x24.2) && (decide (x24.1 = 24))) rfl (fun hB10 => ?_) (fun hB10 => ?_) (fun a w h => ?_)
  · refine g_yes h rfl rfl rfl rfl hB10 ?_
    refine s_move h rfl _ rfl rfl (by decide) rfl (fun a h => ?_)
    refine g_yes h rfl rfl rfl rfl hB10 ?_
    refine s_x h rfl rfl (by decide) (x_bin h.k rfl rfl rfl ib_eql) (fun a h => ?_)
    refine s_x h rfl rfl (by decide) (x_pick (u' := undef) h.k rfl rfl (fun _ => rfl) (fun hh => absurd (hB10.symm.trans hh) (by decide))) (fun a h => ?_)
    exact (h.mid 2 rfl).val (by first | rfl | (rw [hB10]; first | rfl | simp))
  · refine g_no h rfl rfl rfl rfl hB10 rfl (by decide) (fun a h => ?_)
    refine g_no h rfl rfl rfl rfl hB10 rfl (by decide) (fun a h => ?_)
    refine s_x h rfl rfl (by decide) (x_pick (u' := undef) h.k rfl rfl (fun hh => absurd (hB10.symm.trans hh) (by decide)) (fun _ => rfl)) (fun a h => ?_)
    exact (h.mid 2 rfl).val (by first | rfl | (rw [hB10]; first | rfl | simp))
  refine s_assign h rfl _ rfl rfl (by decide) rfl (fun a h => ?_)
  refine l_end ?_
  refine wp_ret ?_
  obtain rfl := Option.some.inj hf
  exact r_ret1 h rfl (rv_tmp h rfl) ⟨_, [], _, rfl, ⟨rfl, rfl, trivial⟩, rfl, (Up.refl _ _ _), (h.m.pick [1] _ (by decide) rfl)⟩
def chatelainelaw09_WrapWraps (Fu : Nat) (a0 : List UInt8) (a1 : List UInt8) (a2 : Int) : Option Bool :=
  (chatelainelaw09_awake Fu).bind fun x1 => if (!x1) = true then (some false) else (if ((decide (100 < (a0.length : Int))) || (decide (100 < (a1.length : Int)))) = true then (some true) else ((wrap_Wrap Fu a0 a1).bind fun x6 => (chatelaineref09_Wrap Fu a0 a1).bind fun x15 => (wrap_Size Fu a2).bind fun x24 => (chatelaineref01_Same Fu x6.1 x15.1).bind fun x32 => some (((x32 && (decide (x6.2 = x15.2))) && (x24.2 == (((decide (16 ≤ a2)) && (decide (a2 ≤ 64))) && (decide (Int.tmod a2 8 = 0))))) && ((x24.2 && (decide (x24.1 = w64 (a2 + 8)))) || ((!x24.2) && (decide (x24.1 = 0)))))))
set_option maxRecDepth 100000 in
set_option maxHeartbeats 2000000 in
theorem chatelainelaw09_WrapWraps_ok (Fu : Nat) {S0 : Snap} (Aa0 : Option Addr) (ca0 : Nat) (a0 : List UInt8) (hsa0 : slS ty8 S0 Aa0 ca0 a0) (Aa1 : Option Addr) (ca1 : Nat) (a1 : List UInt8) (hsa1 : slS ty8 S0 Aa1 ca1 a1) (a2 : Int) (hra2 : r64 a2) (r : Bool) (hf : chatelainelaw09_WrapWraps Fu a0 a1 a2 = some r) (w0 : World) (hm : Mem w0 (ownL ([] ++ [.sn S0])) ([] ++ [.sn S0]) w0) :
    Calls Try.prog 6 #[.slice Aa0 a0.length ca0, .slice Aa1 a1.length ca1, .int .i64 a2] w0 (Ret w0 S0 [] (fun v L1 S1 => v = .bool r ∧ L1 = [] ∧ True)) := by
  unfold chatelainelaw09_WrapWraps at hf
  refine c_enterM Try.func6 rfl 82 rfl (by simp) _ hm _ rfl (fun a h => ?_)
  refine c_rs ?_ -- region 0
  refine s_assign h rfl _ rfl rfl (by decide) rfl (fun a h => ?_)
  refine l_end ?_
  refine wp_seq ?_
  refine c_rs ?_ -- region 1
  obtain ⟨x1, h2, hf⟩ := bsome hf
  have hX := chatelainelaw09_awake_ok Fu (S0 := snapAll _)  _ h2 _ h.startAll
  refine q_callX hX h rfl rfl rfl (by decide) Try.func21 rfl rfl rfl (fun a w v L1 S1 hR hb1 h => ?_)
  obtain ⟨rfl, rfl, _⟩ := hR
  refine s_x h rfl rfl (by decide) (x_not h.k rfl rfl) (fun a h => ?_)
  refine l_end ?_
  refine c_cond h rfl (fun hb => ?_) (fun hb => ?_)
  · rw [if_pos hb] at hf
    refine c_rs ?_ -- region 2
    refine s_assign h rfl _ rfl rfl (by decide) rfl (fun a h => ?_)
    refine l_end ?_
    refine wp_ret ?_
    refine e_thenR ?_
    rw [← Option.some.inj hf]
    exact r_ret1 h rfl (rv_tmp h rfl) ⟨_, [], _, rfl, ⟨rfl, rfl, trivial⟩, rfl, (Up.refl _ _ _), h.m⟩
  · rw [if_neg (by rw [hb]; decide)] at hf
    refine wp_skip ?_
    refine e_thenN ?_
    refine wp_seq ?_
    refine c_rs ?_ -- region 3
    refine s_move h rfl _ rfl rfl (by decide) rfl (fun a h => ?_)
    refine s_x h rfl rfl (by decide) (x_len h.k rfl Try.underlying22 rfl) (fun a h => ?_)
    refine s_x h rfl rfl (by decide) (x_bin h.k rfl rfl rfl ib_gtr) (fun a h => ?_)
    refine s_move h rfl _ rfl rfl (by decide) rfl (fun a h => ?_)
    refine q_grp h 4 (t := 19) 23 ((decide (100 < (a0.length : Int))) || (decide (100 < (a1.length : Int)))) rfl (fun hB3 => ?_) (fun hB3 => ?_) (fun a w h => ?_)
    · refine g_no h rfl rfl rfl rfl hB3 rfl (by decide) (fun a h => ?_)
      refine g_no h rfl rfl rfl rfl hB3 rfl (by decide) (fun a h => ?_)
      refine g_no h rfl rfl rfl rfl hB3 rfl (by decide) (fun a h => ?_)
      refine s_x h rfl rfl (by decide) (x_pick (u' := undef) h.k rfl rfl (fun _ => rfl) (fun hh => absurd (hB3.symm.trans hh) (by decide))) (fun a h => ?_)
      exact (h.mid 3 rfl).val (by first | rfl | (rw [hB3]; first | rfl | simp))
    · refine g_yes h rfl rfl rfl rfl hB3 ?_
      refine s_move h rfl _ rfl rfl (by decide) rfl (fun a h => ?_)
      refine g_yes h rfl rfl rfl rfl hB3 ?_
      refine s_x h rfl rfl (by decide) (x_len h.k rfl Try.underlying22 rfl) (fun a h => ?_)
      refine g_yes h rfl rfl rfl rfl hB3 ?_
      refine s_x h rfl rfl (by decide) (x_bin h.k rfl rfl rfl ib_gtr) (fun a h => ?_)
      refine s_x h rfl rfl (by decide) (x_pick (u' := undef) h.k rfl rfl (fun hh => absurd (hB3.symm.trans hh) (by decide)) (fun _ => rfl)) (fun a h => ?_)
      exact (h.mid 3 rfl).val (by first | rfl | (rw [hB3]; first | rfl | simp))
    refine l_end ?_
    refine c_cond h rfl (fun hb => ?_) (fun hb => ?_)
    · rw [if_pos hb] at hf
      refine c_rs ?_ -- region 4
      refine s_assign h rfl _ rfl rfl (by decide) rfl (fun a h => ?_)
      refine l_end ?_
      refine wp_ret ?_
      refine e_thenR ?_
      rw [← Option.some.inj hf]
      exact r_ret1 h rfl (rv_tmp h rfl) ⟨_, [], _, rfl, ⟨rfl, rfl, trivial⟩, rfl, (Up.refl _ _ _), h.m⟩
    · rw [if_neg (by rw [hb]; decide)] at hf
      refine wp_skip ?_
      refine e_thenN ?_
      refine c_rs ?_ -- region 5
      refine s_move h rfl _ rfl rfl (by decide) rfl (fun a h => ?_)
      refine s_move h rfl _ rfl rfl (by decide) rfl (fun a h => ?_)
      obtain ⟨x6, h7, hf⟩ := bsome hf
      have hX := wrap_Wrap_ok Fu (S0 := snapAll _) Aa0 ca0 a0 (hsa0.mono (h.m.leAll (i := 0) rfl)) Aa1 ca1 a1 (hsa1.mono (h.m.leAll (i := 0) rfl)) _ h7 _ h.startAll
      refine q_callX hX h rfl rfl rfl (by decide) Try.func22 rfl rfl rfl (fun a w v L1 S1 hR hb1 h => ?_)
      obtain ⟨A9, c10, cs11, rfl, rfl, hq12, hr13, _⟩ := hR
      have hq14 := hq12.fl (S' := S0) fl_8
      refine s_move h rfl _ rfl rfl (by decide) rfl (fun a h => ?_)
      refine s_x h rfl rfl (by decide) (x_ext h.k rfl rfl rfl) (fun a h => ?_)
      refine s_x h rfl rfl (by decide) (x_ext h.k rfl rfl rfl) (fun a h => ?_)
      refine s_assign h rfl _ rfl rfl (by decide) rfl (fun a h => ?_)
      refine s_assign h rfl _ rfl rfl (by decide) rfl (fun a h => ?_)
      refine l_end ?_
      refine c_rs ?_ -- region 6
      refine s_move h rfl _ rfl rfl (by decide) rfl (fun a h => ?_)
      refine s_move h rfl _ rfl rfl (by decide) rfl (fun a h => ?_)
      obtain ⟨x15, h16, hf⟩ := bsome hf
      have hX := chatelaineref09_Wrap_ok Fu (S0 := snapAll _) Aa0 ca0 a0 (hsa0.mono (h.m.leAll (i := 1) rfl)) Aa1 ca1 a1 (hsa1.mono (h.m.leAll (i := 1) rfl)) _ h16 _ h.startAll
      refine q_callX hX h rfl rfl rfl (by decide) Try.func23 rfl rfl rfl (fun a w v L1 S1 hR hb1 h => ?_)
      obtain ⟨A18, c19, cs20, rfl, rfl, hq21, hr22, _⟩ := hR
      have hq23 := hq21.fl (S' := S0) fl_8
      refine s_move h rfl _ rfl rfl (by decide) rfl (fun a h => ?_)
      refine s_x h rfl rfl (by decide) (x_ext h.k rfl rfl rfl) (fun a h => ?_)
      refine s_x h rfl rfl (by decide) (x_ext h.k rfl rfl rfl) (fun a h => ?_)
      refine s_assign h rfl _ rfl rfl (by decide) rfl (fun a h => ?_)
      refine s_assign h rfl _ rfl rfl (by decide) rfl (fun a h => ?_)
      refine l_end ?_
      refine c_rs ?_ -- region 7
      refine s_move h rfl _ rfl rfl (by decide) rfl (fun a h => ?_)
      obtain ⟨x24, h25, hf⟩ := bsome hf
      have hX := wrap_Size_ok Fu (S0 := snapAll _) a2 hra2 _ h25 _ h.startAll
      refine q_callX hX h rfl rfl rfl (by decide) Try.func24 rfl rfl rfl (fun a w v L1 S1 hR hb1 h => ?_)
      obtain ⟨rfl, rfl, hr27, _⟩ := hR
      refine s_move h rfl _ rfl rfl (by decide) rfl (fun a h => ?_)
      refine s_x h rfl rfl (by decide) (x_ext h.k rfl rfl rfl) (fun a h => ?_)
      refine s_x h rfl rfl (by decide) (x_ext h.k rfl rfl rfl) (fun a h => ?_)
      refine s_assign h rfl _ rfl rfl (by decide) rfl (fun a h => ?_)
      refine s_assign h rfl _ rfl rfl (by decide) rfl (fun a h => ?_)
      refine l_end ?_
      refine c_rs ?_ -- region 8
      refine s_move h rfl _ rfl rfl (by decide) rfl (fun a h => ?_)
      refine s_x h rfl rfl (by decide) (x_bin h.k rfl rfl rfl ib_geq) (fun a h => ?_)
      refine s_move h rfl _ rfl rfl (by decide) rfl (fun a h => ?_)
      refine q_grp h 3 (t := 43) 46 ((decide (16 ≤ a2)) && (decide (a2 ≤ 64))) rfl (fun hB2 => ?_) (fun hB2 => ?_) (fun a w h => ?_)
      · refine g_yes h rfl rfl rfl rfl hB2 ?_
        refine s_move h rfl _ rfl rfl (by decide) rfl (fun a h => ?_)
        refine g_yes h rfl rfl rfl rfl hB2 ?_
        refine s_x h rfl rfl (by decide) (x_bin h.k rfl rfl rfl ib_leq) (fun a h => ?_)
        refine s_x h rfl rfl (by decide) (x_pick (u' := undef) h.k rfl rfl (fun _ => rfl) (fun hh => absurd (hB2.symm.trans hh) (by decide))) (fun a h => ?_)
        exact (h.mid 2 rfl).val (by first | rfl | (rw [hB2]; first | rfl | simp))
      · refine g_no h rfl rfl rfl rfl hB2 rfl (by decide) (fun a h => ?_)
        refine g_no h rfl rfl rfl rfl hB2 rfl (by decide) (fun a h => ?_)
        refine s_x h rfl rfl (by decide) (x_pick (u' := undef) h.k rfl rfl (fun hh => absurd (hB2.symm.trans hh) (by decide)) (fun _ => rfl)) (fun a h => ?_)
        exact (h.mid 2 rfl).val (by first | rfl | (rw [hB2]; first | rfl | simp))
      refine s_move h rfl _ rfl rfl (by decide) rfl (fun a h => ?_)
      refine q_grp h 4 (t := 47) 51 (((decide (16 ≤ a2)) && (decide (a2 ≤ 64))) && (decide (Int.tmod a2 8 = 0))) rfl (fun hB6 => ?_) (fun hB6 => ?_) (fun a w h => ?_)
      · refine g_yes h rfl rfl rfl rfl hB6 ?_
        refine s_move h rfl _ rfl rfl (by decide) rfl (fun a h => ?_)
        refine g_yes h rfl rfl rfl rfl hB6 ?_
        refine s_x h rfl rfl (by decide) (x_bin h.k rfl rfl rfl (ib_remw (by decide))) (fun a h => ?_)
        refine g_yes h rfl rfl rfl rfl hB6 ?_
        refine s_x h rfl rfl (by decide) (x_bin h.k rfl rfl rfl ib_eql) (fun a h => ?_)
        refine s_x h rfl rfl (by decide) (x_pick (u' := undef) h.k rfl rfl (fun _ => rfl) (fun hh => absurd (hB6.symm.trans hh) (by decide))) (fun a h => ?_)
        exact (h.mid 3 rfl).val (by first | rfl | (rw [hB6]; first | rfl | simp))
      · refine g_no h rfl rfl rfl rfl hB6 rfl (by decide) (fun a h => ?_)
        refine g_no h rfl rfl rfl rfl hB6 rfl (by decide) (fun a h => ?_)
        refine g_no h rfl rfl rfl rfl hB6 rfl (by decide) (fun a h => ?_)
        refine s_x h rfl rfl (by decide) (x_pick (u' := undef) h.k rfl rfl (fun hh => absurd (hB6.symm.trans hh) (by decide)) (fun _ => rfl)) (fun a h => ?_)
        exact (h.mid 3 rfl).val (by first | rfl | (rw [hB6]; first | rfl | simp))
      refine s_assign h rfl _ rfl rfl (by decide) rfl (fun a h => ?_)
      refine l_end ?_
      refine c_rs ?_ -- region 9
      refine s_move h rfl _ rfl rfl (by decide) rfl (fun a h => ?_)
      refine s_move h rfl _ rfl rfl (by decide) rfl (fun a h => ?_)
      obtain ⟨x32, h33, hf⟩ := bsome hf
      have hX := chatelaineref01_Same_ok Fu (S0 := snapAll _) A9 c10 x6.1 (h.m.rowAll (i := 1) rfl (j := 2) rfl hq14) A18 c19 x15.1 (h.m.rowAll (i := 0) rfl (j := 2) rfl hq23) _ h33 _ h.startAll
      refine q_callX hX h rfl rfl rfl (by decide) Try.func25 rfl rfl rfl (fun a w v L1 S1 hR hb1 h => ?_)
      obtain ⟨rfl, rfl, _⟩ := hR
      refine s_move h rfl _ rfl rfl (by decide) rfl (fun a h => ?_)
      refine q_grp h 4 (t := 55) 59 (x32 && (decide (x6.2 = x15.2))) rfl (fun hB3 => ?_) (fun hB3 => ?_) (fun a w h => ?_)
      · refine g_yes h rfl rfl rfl rfl hB3 ?_
        refine s_move h rfl _ rfl rfl (by decide) rfl (fun a h => ?_)
        refine g_yes h rfl rfl rfl rfl hB3 ?_
        refine s_move h rfl _ rfl rfl (by decide) rfl (fun a h => ?_)
        refine g_yes h rfl rfl rfl rfl hB3 ?_
        refine s_x h rfl rfl (by decide) (x_bin h.k rfl rfl rfl ib_eql) (fun a h => ?_)
        refine s_x h rfl rfl (by decide) (x_pick (u' := undef) h.k rfl rfl (fun _ => rfl) (fun hh => absurd (hB3.symm.trans hh) (by decide))) (fun a h => ?_)
        exact (h.mid 3 rfl).val (by first | rfl | (rw [hB3]; first | rfl | simp))
      · refine g_no h rfl rfl rfl rfl hB3 rfl (by decide) (fun a h => ?_)
        refine g_no h rfl rfl rfl rfl hB3 rfl (by decide) (fun a h => ?_)
        refine g_no h rfl rfl rfl rfl hB3 rfl (by decide) (fun a h => ?_)
        refine s_x h rfl rfl (by decide) (x_pick (u' := undef) h.k rfl rfl (fun hh => absurd (hB3.symm.trans hh) (by decide)) (fun _ => rfl)) (fun a h => ?_)
        exact (h.mid 3 rfl).val (by first | rfl | (rw [hB3]; first | rfl | simp))
      refine s_move h rfl _ rfl rfl (by decide) rfl (fun a h => ?_)
      refine q_grp h 4 (t := 60) 64 ((x32 && (decide (x6.2 = x15.2))) && (x24.2 == (((decide (16 ≤ a2)) && (decide (a2 ≤ 64))) && (decide (Int.tmod a2 8 = 0))))) rfl (fun hB8 => ?_) (fun hB8 => ?_) (fun a w h => ?_)
      · refine g_yes h rfl rfl rfl rfl hB8 ?_
        refine s_move h rfl _ rfl rfl (by decide) rfl (fun a h => ?_)
        refine g_yes h rfl rfl rfl rfl hB8 ?_
        refine s_move h rfl _ rfl rfl (by decide) rfl (fun a h => ?_)
        refine g_yes h rfl rfl rfl rfl hB8 ?_
        refine s_x h rfl rfl (by decide) (x_eqlB h.k rfl Try.underlying4 rfl rfl) (fun a h => ?_)
        refine s_x h rfl rfl (by decide) (x_pick (u' := undef) h.k rfl rfl (fun _ => rfl) (fun hh => absurd (hB8.symm.trans hh) (by decide))) (fun a h => ?_)
        exact (h.mid 3 rfl).val (by first | rfl | (rw [hB8]; first | rfl | simp))
      · refine g_no h rfl rfl rfl rfl hB8 rfl (by decide) (fun a h => ?_)
        refine g_no h rfl rfl rfl rfl hB8 rfl (by decide) (fun a h => ?_)
        refine g_no h rfl rfl rfl rfl hB8 rfl (by decide) (fun a h => ?_)
        refine s_x h rfl rfl (by decide) (x_pick (u' := undef) h.k rfl rfl (fun hh => absurd (hB8.symm.trans hh) (by decide)) (fun _ => rfl)) (fun a h => ?_)
        exact (h.mid 3 rfl).val (by first | rfl | (rw [hB8]; first | rfl | simp))
      refine s_move h rfl _ rfl rfl (by decide) rfl (fun a h => ?_)
      refine q_grp h 16 (t := 65) 81 (((x32 && (decide (x6.2 = x15.2))) && (x24.2 == (((decide (16 ≤ a2)) && (decide (a2 ≤ 64))) && (decide (Int.tmod a2 8 = 0))))) && ((x24.2 && (decide (x24.1 = w64 (a2 + 8)))) || ((!x24.2) && (decide (x24.1 = 0))))) rfl (fun hB13 => ?_) (fun hB13 => ?_) (fun a w h => ?_)
      · refine g_yes h rfl rfl rfl rfl hB13 ?_
        refine s_move h rfl _ rfl rfl (by decide) rfl (fun a h => ?_)
        refine g_yes h rfl rfl rfl rfl hB13 ?_
        refine s_move h rfl _ rfl rfl (by decide) rfl (fun a h => ?_)
        refine q_grp h 5 (t := 67) 72 (x24.2 && (decide (x24.1 = w64 (a2 + 8)))) rfl (fun hB15 => ?_) (fun hB15 => ?_) (fun a w h => ?_)
        · refine g_yes h rfl rfl rfl rfl hB15 ?_
          refine s_move h rfl _ rfl rfl (by decide) rfl (fun a h => ?_)
          refine g_yes h rfl rfl rfl rfl hB15 ?_
          refine s_move h rfl _ rfl rfl (by decide) rfl (fun a h => ?_)
          refine g_yes h rfl rfl rfl rfl hB15 ?_
          refine s_x h rfl rfl (by decide) (x_bin h.k rfl rfl rfl (ib_add rfl)) (fun a h => ?_)
          refine g_yes h rfl rfl rfl rfl hB15 ?_
          refine s_x h rfl rfl (by decide) (x_bin h.k rfl rfl rfl ib_eql) (fun a h => ?_)
          refine g_yes h rfl rfl rfl rfl hB13 ?_
          refine s_x h rfl rfl (by decide) (x_pick (u' := undef) h.k rfl rfl (fun _ => rfl) (fun hh => absurd (hB15.symm.trans hh) (by decide))) (fun a h => ?_)
          exact (h.mid 4 rfl).val (by first | rfl | (rw [hB15]; first | rfl | simp))
        · refine g_no h rfl rfl rfl rfl hB15 rfl (by decide) (fun a h => ?_)
          refine g_no h rfl rfl rfl rfl hB15 rfl (by decide) (fun a h => ?_)
          refine g_no h rfl rfl rfl rfl hB15 rfl (by decide) (fun a h => ?_)
          refine g_no h rfl rfl rfl rfl hB15 rfl (by decide) (fun a h => ?_)
          refine g_yes h rfl rfl rfl rfl hB13 ?_
          refine s_x h rfl rfl (by decide) (x_pick (u' := undef) h.k rfl rfl (fun hh => absurd (hB15.symm.trans hh) (by decide)) (fun _ => rfl)) (fun a h => ?_)
          exact (h.mid 4 rfl).val (by first | rfl | (rw [hB15]; first | rfl | simp))
        refine g_yes h rfl rfl rfl rfl hB13 ?_
        refine s_move h rfl _ rfl rfl (by decide) rfl (fun a h => ?_)
        refine q_grp h 7 (t := 73) 80 ((x24.2 && (decide (x24.1 = w64 (a2 + 8)))) || ((!x24.2) && (decide (x24.1 = 0)))) rfl (fun hB21 => ?_) (fun hB21 => ?_) (fun a w h => ?_)
        · refine g_no h rfl rfl rfl rfl hB21 rfl (by decide) (fun a h => ?_)
          refine g_no h rfl rfl rfl rfl hB21 rfl (by decide) (fun a h => ?_)
          refine g_no h rfl rfl rfl rfl hB21 rfl (by decide) (fun a h => ?_)
          refine g_off h rfl rfl rfl rfl rfl (by decide) (fun a h => ?_)
          refine g_off h rfl rfl rfl rfl rfl (by decide) (fun a h => ?_)
          refine g_no h rfl rfl rfl rfl hB21 rfl (by decide) (fun a h => ?_)
          refine g_yes h rfl rfl rfl rfl hB13 ?_
          refine s_x h rfl rfl (by decide) (x_pick (u' := undef) h.k rfl rfl (fun _ => rfl) (fun hh => absurd (hB21.symm.trans hh) (by decide))) (fun a h => ?_)
          exact (h.mid 6 rfl).val (by first | rfl | (rw [hB21]; first | rfl | simp))
        · refine g_yes h rfl rfl rfl rfl hB21 ?_
          refine s_move h rfl _ rfl rfl (by decide) rfl (fun a h => ?_)
          refine g_yes h rfl rfl rfl rfl hB21 ?_
          refine s_x h rfl rfl (by decide) (x_not h.k rfl rfl) (fun a h => ?_)
          refine g_yes h rfl rfl rfl rfl hB21 ?_
          refine s_move h rfl _ rfl rfl (by decide) rfl (fun a h => ?_)
          refine q_grp h 3 (t := 76) 79 ((!x24.2) && (decide (x24.1 = 0))) rfl (fun hB24 => ?_) (fun hB24 => ?_) (fun a w h => ?_)
          · refine g_yes h rfl rfl rfl rfl hB24 ?_
            refine s_move h rfl _ rfl rfl (by decide) rfl (fun a h => ?_)
            refine g_yes h rfl rfl rfl rfl hB24 ?_
            refine s_x h rfl rfl (by decide) (x_bin h.k rfl rfl rfl ib_eql) (fun a h => ?_)
            refine g_yes h rfl rfl rfl rfl hB21 ?_
            refine s_x h rfl rfl (by decide) (x_pick (u' := undef) h.k rfl rfl (fun _ => rfl) (fun hh => absurd (hB24.symm.trans hh) (by decide))) (fun a h => ?_)
            exact (h.mid 2 rfl).val (by first | rfl | (rw [hB24]; first | rfl | simp))
          · refine g_no h rfl rfl rfl rfl hB24 rfl (by decide) (fun a h => ?_)
            refine g_no h rfl rfl rfl rfl hB24 rfl (by decide) (fun a h => ?_)
            refine g_yes h rfl rfl rfl rfl hB21 ?_
            refine s_x h rfl rfl (by decide) (x_pick (u' := undef) h.k rfl rfl (fun hh => absurd (hB24.symm.trans hh) (by decide)) (fun _ => rfl)) (fun a h => ?_)
            exact (h.mid 2 rfl).val (by first | rfl | (rw [hB24]; first | rfl | simp))
          refine g_yes h rfl rfl rfl rfl hB13 ?_
          refine s_x h rfl rfl (by decide) (x_pick (u' := undef) h.k rfl rfl (fun hh => absurd (hB21.symm.trans hh) (by decide)) (fun _ => rfl)) (fun a h => ?_)
          exact (h.mid 4 rfl).val (by first | rfl | (rw [hB21]; first | rfl | simp))
        refine s_x h rfl rfl (by decide) (x_pick (u' := undef) h.k rfl rfl (fun _ => rfl) (fun hh => absurd (hB13.symm.trans hh) (by decide))) (fun a h => ?_)
        exact (h.mid 5 rfl).val (by first | rfl | (rw [hB13]; first | rfl | simp))
      · refine g_no h rfl rfl rfl rfl hB13 rfl (by decide) (fun a h => ?_)
        refine g_no h rfl rfl rfl rfl hB13 rfl (by decide) (fun a h => ?_)
        refine g_off h rfl rfl rfl rfl rfl (by decide) (fun a h => ?_)
        refine g_off h rfl rfl rfl rfl rfl (by decide) (fun a h => ?_)
        refine g_off h rfl rfl rfl rfl rfl (by decide) (fun a h => ?_)
        refine g_off h rfl rfl rfl rfl rfl (by decide) (fun a h => ?_)
        refine g_no h rfl rfl rfl rfl hB13 rfl (by decide) (fun a h => ?_)
        refine g_no h rfl rfl rfl rfl hB13 rfl (by decide) (fun a h => ?_)
        refine g_off h rfl rfl rfl rfl rfl (by decide) (fun a h => ?_)
        refine g_off h rfl rfl rfl rfl rfl (by decide) (fun a h => ?_)
        refine g_off h rfl rfl rfl rfl rfl (by decide) (fun a h => ?_)
        refine g_off h rfl rfl rfl rfl rfl (by decide) (fun a h => ?_)
        refine g_off h rfl rfl rfl rfl rfl (by decide) (fun a h => ?_)
        refine g_off h rfl rfl rfl rfl rfl (by decide) (fun a h => ?_)
        refine g_no h rfl rfl rfl rfl hB13 rfl (by decide) (fun a h => ?_)
        refine s_x h rfl rfl (by decide) (x_pick (u' := undef) h.k rfl rfl (fun hh => absurd (hB13.symm.trans hh) (by decide)) (fun _ => rfl)) (fun a h => ?_)
        exact (h.mid 15 rfl).val (by first | rfl | (rw [hB13]; first | rfl | simp))
      refine s_assign h rfl _ rfl rfl (by decide) rfl (fun a h => ?_)
      refine l_end ?_
      refine wp_ret ?_
      obtain rfl := Option.some.inj hf
      exact r_ret1 h rfl (rv_tmp h rfl) ⟨_, [], _, rfl, ⟨rfl, rfl, trivial⟩, rfl, (Up.refl _ _ _), (h.m.pick [2] _ (by decide) rfl)⟩
def chatelainelaw09_WrapUnwraps (Fu : Nat) (a0 : List UInt8) (a1 : List UInt8) : Option Bool :=
  (chatelainelaw09_awake Fu).bind fun x1 => if (!x1) = true then (some false) else (if ((decide (100 < (a0.length : Int))) || (decide (100 < (a1.length : Int)))) = true then (some true) else ((wrap_Unwrap Fu a0 a1).bind fun x6 => if ((decide ((a0.length : Int) ≠ 16)) && (decide ((a0.length : Int) ≠ 32))) = true then (some ((decide (x6.2 = 20)) && (decide ((x6.1.length : Int) = 0)))) else (if (((decide (Int.tmod (a1.length : Int) 8 ≠ 0)) || (decide ((a1.length : Int) < 24))) || (decide (72 < (a1.length : Int)))) = true then (some ((decide (x6.2 = 2)) && (decide ((x6.1.length : Int) = 0)))) else (if x6.2 = 21 then (some (decide ((x6.1.length : Int) = 0))) else ((chatelaineref09_Wrap Fu a0 x6.1).bind fun x26 => (if ((decide (x6.2 = 0)) && (decide (x26.2 = 0))) = true then (chatelaineref01_Same Fu x26.1 a1).bind fun x40 => some x40 else some false).bind fun z38 => some z38)))))
set_option maxRecDepth 100000 in
set_option maxHeartbeats 2000000 in
theorem chatelainelaw09_WrapUnwraps_ok (Fu : Nat) {S0 : Snap} (Aa0 : Option Addr) (ca0 : Nat) (a0 : List UInt8) (hsa0 : slS ty8 S0 Aa0 ca0 a0) (Aa1 : Option Addr) (ca1 : Nat) (a1 : List UInt8) (hsa1 : slS ty8 S0 Aa1 ca1 a1) (r : Bool) (hf : chatelainelaw09_WrapUnwraps Fu a0 a1 = some r) (w0 : World) (hm : Mem w0 (ownL ([] ++ [.sn S0])) ([] ++ [.sn S0]) w0) :
    Calls Try.prog 7 #[.slice Aa0 a0.length ca0, .slice Aa1 a1.length ca1] w0 (Ret w0 S0 [] (fun v L1 S1 => v = .bool r ∧ L1 = [] ∧ True)) := by
  unfold chatelainelaw09_WrapUnwraps at hf
  refine c_enterM Try.func7 rfl 86 rfl (by simp) _ hm _ rfl (fun a h => ?_)
  refine c_rs ?_ -- region 0
  refine s_assign h rfl _ rfl rfl (by decide) rfl (fun a h => ?_)
  refine l_end ?_
  refine wp_seq ?_
  refine c_rs ?_ -- region 1
  obtain ⟨x1, h2, hf⟩ := bsome hf
  have hX := chatelainelaw09_awake_ok Fu (S0 := snapAll _)  _ h2 _ h.startAll
  refine q_callX hX h rfl rfl rfl (by decide) Try.func21 rfl rfl rfl (fun a w v L1 S1 hR hb1 h => ?_)
  obtain ⟨rfl, rfl, _⟩ := hR
  refine s_x h rfl rfl (by decide) (x_not h.k rfl rfl) (fun a h => ?_)
  refine l_end ?_
  refine c_cond h rfl (fun hb => ?_) (fun hb => ?_)
  · rw [if_pos hb] at hf
    refine c_rs ?_ -- region 2
    refine s_assign h rfl _ rfl rfl (by decide) rfl (fun a h => ?_)
    refine l_end ?_
    refine wp_ret ?_
    refine e_thenR ?_
    rw [← Option.some.inj hf]
    exact r_ret1 h rfl (rv_tmp h rfl) ⟨_, [], _, rfl, ⟨rfl, rfl, trivial⟩, rfl, (Up.refl _ _ _), h.m⟩
  · rw [if_neg (by rw [hb]; decide)] at hf
    refine wp_skip ?_
    refine e_thenN ?_
    refine wp_seq ?_
    refine c_rs ?_ -- region 3
    refine s_move h rfl _ rfl rfl (by decide) rfl (fun a h => ?_)
    refine s_x h rfl rfl (by decide) (x_len h.k rfl Try.underlying22 rfl) (fun a h => ?_)
    refine s_x h rfl rfl (by decide) (x_bin h.k rfl rfl rfl ib_gtr) (fun a h => ?_)
    refine s_move h rfl _ rfl rfl (by decide) rfl (fun a h => ?_)
    refine q_grp h 4 (t := 14) 18 ((decide (100 < (a0.length : Int))) || (decide (100 < (a1.length : Int)))) rfl (fun hB3 => ?_) (fun hB3 => ?_) (fun a w h => ?_)
    · refine g_no h rfl rfl rfl rfl hB3 rfl (by decide) (fun a h => ?_)
      refine g_no h rfl rfl rfl rfl hB3 rfl (by decide) (fun a h => ?_)
      refine g_no h rfl rfl rfl rfl hB3 rfl (by decide) (fun a h => ?_)
      refine s_x h rfl rfl (by decide) (x_pick (u' := undef) h.k rfl rfl (fun _ => rfl) (fun hh => absurd (hB3.symm.trans hh) (by decide))) (fun a h => ?_)
      exact (h.mid 3 rfl).val (by first | rfl | (rw [hB3]; first | rfl | simp))
    · refine g_yes h rfl rfl rfl rfl hB3 ?_
      refine s_move h rfl _ rfl rfl (by decide) rfl (fun a h => ?_)
      refine g_yes h rfl rfl rfl rfl hB3 ?_
      refine s_x h rfl rfl (by decide) (x_len h.k rfl Try.underlying22 rfl) (fun a h => ?_)
      refine g_yes h rfl rfl rfl rfl hB3 ?_
      refine s_x h rfl rfl (by decide) (x_bin h.k rfl rfl rfl ib_gtr) (fun a h => ?_)
      refine s_x h rfl rfl (by decide) (x_pick (u' := undef) h.k rfl rfl (fun hh => absurd (hB3.symm.trans hh) (by decide)) (fun _ => rfl)) (fun a h => ?_)
      exact (h.mid 3 rfl).val (by first | rfl | (rw [hB3]; first | rfl | simp))
    refine l_end ?_
    refine c_cond h rfl (fun hb => ?_) (fun hb => ?_)
    · rw [if_pos hb] at hf
      refine c_rs ?_ -- region 4
      refine s_assign h rfl _ rfl rfl (by decide) rfl (fun a h => ?_)
      refine l_end ?_
      refine wp_ret ?_
      refine e_thenR ?_
      rw [← Option.some.inj hf]
      exact r_ret1 h rfl (rv_tmp h rfl) ⟨_, [], _, rfl, ⟨rfl, rfl, trivial⟩, rfl, (Up.refl _ _ _), h.m⟩
    · rw [if_neg (by rw [hb]; decide)] at hf
      refine wp_skip ?_
      refine e_thenN ?_
      refine c_rs ?_ -- region 5
      refine s_move h rfl _ rfl rfl (by decide) rfl (fun a h => ?_)
      refine s_move h rfl _ rfl rfl (by decide) rfl (fun a h => ?_)
      obtain ⟨x6, h7, hf⟩ := bsome hf
      have hX := wrap_Unwrap_ok Fu (S0 := S0) Aa0 ca0 a0 hsa0 Aa1 ca1 a1 hsa1 _ h7 _ (h.sub (Ls := []))
      refine q_callY (Ls := []) hX h (Up.refl _ _ _) rfl rfl rfl (by decide) Try.func26 rfl rfl rfl (fun a w v L1 S9 hR le11 up10 h => ?_)
      obtain ⟨A12, c13, rfl, rfl, hs14, hr15, _⟩ := hR
      refine s_move h rfl _ rfl rfl (by decide) rfl (fun a h => ?_)
      refine s_x h rfl rfl (by decide) (x_ext h.k rfl rfl rfl) (fun a h => ?_)
      refine s_x h rfl rfl (by decide) (x_ext h.k rfl rfl rfl) (fun a h => ?_)
      refine s_assign h rfl _ rfl rfl (by decide) rfl (fun a h => ?_)
      refine s_assign h rfl _ rfl rfl (by decide) rfl (fun a h => ?_)
      refine l_end ?_
      refine wp_seq ?_
      refine wp_block ?_
      refine c_rs ?_ -- region 6
      refine s_move h rfl _ rfl rfl (by decide) rfl (fun a h => ?_)
      refine s_x h rfl rfl (by decide) (x_len h.k rfl Try.underlying22 rfl) (fun a h => ?_)
      refine s_x h rfl rfl (by decide) (x_bin h.k rfl rfl rfl ib_neq) (fun a h => ?_)
      refine s_move h rfl _ rfl rfl (by decide) rfl (fun a h => ?_)
      refine q_grp h 4 (t := 29) 33 ((decide ((a0.length : Int) ≠ 16)) && (decide ((a0.length : Int) ≠ 32))) rfl (fun hB3 => ?_) (fun hB3 => ?_) (fun a w h => ?_)
      · refine g_yes h rfl rfl rfl rfl hB3 ?_
        refine s_move h rfl _ rfl rfl (by decide) rfl (fun a h => ?_)
        refine g_yes h rfl rfl rfl rfl hB3 ?_
        refine s_x h rfl rfl (by decide) (x_len h.k rfl Try.underlying22 rfl) (fun a h => ?_)
        refine g_yes h rfl rfl rfl rfl hB3 ?_
        refine s_x h rfl rfl (by decide) (x_bin h.k rfl rfl rfl ib_neq) (fun a h => ?_)
        refine s_x h rfl rfl (by decide) (x_pick (u' := undef) h.k rfl rfl (fun _ => rfl) (fun hh => absurd (hB3.symm.trans hh) (by decide))) (fun a h => ?_)
        exact (h.mid 3 rfl).val (by first | rfl | (rw [hB3]; first | rfl | simp))
      · refine g_no h rfl rfl rfl rfl hB3 rfl (by decide) (fun a h => ?_)
        refine g_no h rfl rfl rfl rfl hB3 rfl (by decide) (fun a h => ?_)
        refine g_no h rfl rfl rfl rfl hB3 rfl (by decide) (fun a h => ?_)
        refine s_x h rfl rfl (by decide) (x_pick (u' := undef) h.k rfl rfl (fun hh => absurd (hB3.symm.trans hh) (by decide)) (fun _ => rfl)) (fun a h => ?_)
        exact (h.mid 3 rfl).val (by first | rfl | (rw [hB3]; first | rfl | simp))
      refine s_assign h rfl _ rfl rfl (by decide) rfl (fun a h => ?_)
      refine l_end ?_
      refine c_cond h rfl (fun hb => ?_) (fun hb => ?_)
      · rw [if_pos hb] at hf
        refine c_rs ?_ -- region 7
        refine s_move h rfl _ rfl rfl (by decide) rfl (fun a h => ?_)
        refine s_x h rfl rfl (by decide) (x_bin h.k rfl rfl rfl ib_eql) (fun a h => ?_)
        refine s_move h rfl _ rfl rfl (by decide) rfl (fun a h => ?_)
        refine q_grp h 4 (t := 36) 40 ((decide (x6.2 = 20)) && (decide ((x6.1.length : Int) = 0))) rfl (fun hB2 => ?_) (fun hB2 => ?_) (fun a w h => ?_)
        · refine g_yes h rfl rfl rfl rfl hB2 ?_
          refine s_move h rfl _ rfl rfl (by decide) rfl (fun a h => ?_)
          refine g_yes h rfl rfl rfl rfl hB2 ?_
          refine s_x h rfl rfl (by decide) (x_len h.k rfl Try.underlying22 rfl) (fun a h => ?_)
          refine g_yes h rfl rfl rfl rfl hB2 ?_
          refine s_x h rfl rfl (by decide) (x_bin h.k rfl rfl rfl ib_eql) (fun a h => ?_)
          refine s_x h rfl rfl (by decide) (x_pick (u' := undef) h.k rfl rfl (fun _ => rfl) (fun hh => absurd (hB2.symm.trans hh) (by decide))) (fun a h => ?_)
          exact (h.mid 3 rfl).val (by first | rfl | (rw [hB2]; first | rfl | simp))
        · refine g_no h rfl rfl rfl rfl hB2 rfl (by decide) (fun a h => ?_)
          refine g_no h rfl rfl rfl rfl hB2 rfl (by decide) (fun a h => ?_)
          refine g_no h rfl rfl rfl rfl hB2 rfl (by decide) (fun a h => ?_)
          refine s_x h rfl rfl (by decide) (x_pick (u' := undef) h.k rfl rfl (fun hh => absurd (hB2.symm.trans hh) (by decide)) (fun _ => rfl)) (fun a h => ?_)
          exact (h.mid 3 rfl).val (by first | rfl | (rw [hB2]; first | rfl | simp))
        refine s_assign h rfl _ rfl rfl (by decide) rfl (fun a h => ?_)
        refine l_end ?_
        refine wp_ret ?_
        refine e_blkR ?_
        refine e_thenR ?_
        obtain rfl := Option.some.inj hf
        exact r_ret1 h rfl (rv_tmp h rfl) ⟨_, [], _, rfl, ⟨rfl, rfl, trivial⟩, rfl, up10, h.m⟩
      · rw [if_neg (by rw [hb]; decide)] at hf
        refine c_rs ?_ -- region 8
        refine s_move h rfl _ rfl rfl (by decide) rfl (fun a h => ?_)
        refine s_x h rfl rfl (by decide) (x_len h.k rfl Try.underlying22 rfl) (fun a h => ?_)
        refine s_x h rfl rfl (by decide) (x_bin h.k rfl rfl rfl (ib_remw (by decide))) (fun a h => ?_)
        refine s_x h rfl rfl (by decide) (x_bin h.k rfl rfl rfl ib_neq) (fun a h => ?_)
        refine s_move h rfl _ rfl rfl (by decide) rfl (fun a h => ?_)
        refine q_grp h 4 (t := 46) 50 ((decide (Int.tmod (a1.length : Int) 8 ≠ 0)) || (decide ((a1.length : Int) < 24))) rfl (fun hB4 => ?_) (fun hB4 => ?_) (fun a w h => ?_)
        · refine g_no h rfl rfl rfl rfl hB4 rfl (by decide) (fun a h => ?_)
          refine g_no h rfl rfl rfl rfl hB4 rfl (by decide) (fun a h => ?_)
          refine g_no h rfl rfl rfl rfl hB4 rfl (by decide) (fun a h => ?_)
          refine s_x h rfl rfl (by decide) (x_pick (u' := undef) h.k rfl rfl (fun _ => rfl) (fun hh => absurd (hB4.symm.trans hh) (by decide))) (fun a h => ?_)
          exact (h.mid 3 rfl).val (by first | rfl | (rw [hB4]; first | rfl | simp))
        · refine g_yes h rfl rfl rfl rfl hB4 ?_
          refine s_move h rfl _ rfl rfl (by decide) rfl (fun a h => ?_)
          refine g_yes h rfl rfl rfl rfl hB4 ?_
          refine s_x h rfl rfl (by decide) (x_len h.k rfl Try.underlying22 rfl) (fun a h => ?_)
          refine g_yes h rfl rfl rfl rfl hB4 ?_
          refine s_x h rfl rfl (by decide) (x_bin h.k rfl rfl rfl ib_lss) (fun a h => ?_)
          refine s_x h rfl rfl (by decide) (x_pick (u' := undef) h.k rfl rfl (fun hh => absurd (hB4.symm.trans hh) (by decide)) (fun _ => rfl)) (fun a h => ?_)
          exact (h.mid 3 rfl).val (by first | rfl | (rw [hB4]; first | rfl | simp))
        refine s_move h rfl _ rfl rfl (by decide) rfl (fun a h => ?_)
        refine q_grp h 4 (t := 51) 55 (((decide (Int.tmod (a1.length : Int) 8 ≠ 0)) || (decide ((a1.length : Int) < 24))) || (decide (72 < (a1.length : Int)))) rfl (fun hB9 => ?_) (fun hB9 => ?_) (fun a w h => ?_)
        · refine g_no h rfl rfl rfl rfl hB9 rfl (by decide) (fun a h => ?_)
          refine g_no h rfl rfl rfl rfl hB9 rfl (by decide) (fun a h => ?_)
          refine g_no h rfl rfl rfl rfl hB9 rfl (by decide) (fun a h => ?_)
          refine s_x h rfl rfl (by decide) (x_pick (u' := undef) h.k rfl rfl (fun _ => rfl) (fun hh => absurd (hB9.symm.trans hh) (by decide))) (fun a h => ?_)
          exact (h.mid 3 rfl).val (by first | rfl | (rw [hB9]; first | rfl | simp))
        · refine g_yes h rfl rfl rfl rfl hB9 ?_
          refine s_move h rfl _ rfl rfl (by decide) rfl (fun a h => ?_)
          refine g_yes h rfl rfl rfl rfl hB9 ?_
          refine s_x h rfl rfl (by decide) (x_len h.k rfl Try.underlying22 rfl) (fun a h => ?_)
          refine g_yes h rfl rfl rfl rfl hB9 ?_
          refine s_x h rfl rfl (by decide) (x_bin h.k rfl rfl rfl ib_gtr) (fun a h => ?_)
          refine s_x h rfl rfl (by decide) (x_pick (u' := undef) h.k rfl rfl (fun hh => absurd (hB9.symm.trans hh) (by decide)) (fun _ => rfl)) (fun a h => ?_)
          exact (h.mid 3 rfl).val (by first | rfl | (rw [hB9]; first | rfl | simp))
        refine s_assign h rfl _ rfl rfl (by decide) rfl (fun a h => ?_)
        refine l_end ?_
        refine c_cond h rfl (fun hb => ?_) (fun hb => ?_)
        · rw [if_pos hb] at hf
          refine c_rs ?_ -- region 9
          refine s_move h rfl _ rfl rfl (by decide) rfl (fun a h => ?_)
          refine s_x h rfl rfl (by decide) (x_bin h.k rfl rfl rfl ib_eql) (fun a h => ?_)
          refine s_move h rfl _ rfl rfl (by decide) rfl (fun a h => ?_)
          refine q_grp h 4 (t := 58) 62 ((decide (x6.2 = 2)) && (decide ((x6.1.length : Int) = 0))) rfl (fun hB2 => ?_) (fun hB2 => ?_) (fun a w h => ?_)
          · refine g_yes h rfl rfl rfl rfl hB2 ?_
            refine s_move h rfl _ rfl rfl (by decide) rfl (fun a h => ?_)
            refine g_yes h rfl rfl rfl rfl hB2 ?_
            refine s_x h rfl rfl (by decide) (x_len h.k rfl Try.underlying22 rfl) (fun a h => ?_)
            refine g_yes h rfl rfl rfl rfl hB2 ?_
            refine s_x h rfl rfl (by decide) (x_bin h.k rfl rfl rfl ib_eql) (fun a h => ?_)
            refine s_x h rfl rfl (by decide) (x_pick (u' := undef) h.k rfl rfl (fun _ => rfl) (fun hh => absurd (hB2.symm.trans hh) (by decide))) (fun a h => ?_)
            exact (h.mid 3 rfl).val (by first | rfl | (rw [hB2]; first | rfl | simp))
          · refine g_no h rfl rfl rfl rfl hB2 rfl (by decide) (fun a h => ?_)
            refine g_no h rfl rfl rfl rfl hB2 rfl (by decide) (fun a h => ?_)
            refine g_no h rfl rfl rfl rfl hB2 rfl (by decide) (fun a h => ?_)
            refine s_x h rfl rfl (by decide) (x_pick (u' := undef) h.k rfl rfl (fun hh => absurd (hB2.symm.trans hh) (by decide)) (fun _ => rfl)) (fun a h => ?_)
            exact (h.mid 3 rfl).val (by first | rfl | (rw [hB2]; first | rfl | simp))
          refine s_assign h rfl _ rfl rfl (by decide) rfl (fun a h => ?_)
          refine l_end ?_
          refine wp_ret ?_
          refine e_blkR ?_
          refine e_thenR ?_
          obtain rfl := Option.some.inj hf
          exact r_ret1 h rfl (rv_tmp h rfl) ⟨_, [], _, rfl, ⟨rfl, rfl, trivial⟩, rfl, up10, h.m⟩
        · rw [if_neg (by rw [hb]; decide)] at hf
          refine c_rs ?_ -- region 10
          refine s_move h rfl _ rfl rfl (by decide) rfl (fun a h => ?_)
          refine s_x h rfl rfl (by decide) (x_bin h.k rfl rfl rfl ib_eql) (fun a h => ?_)
          refine s_assign h rfl _ rfl rfl (by decide) rfl (fun a h => ?_)
          refine l_end ?_
          refine c_cond h rfl (fun hb => ?_) (fun hb => ?_)
          · rw [if_pos (of_decide_eq_true hb)] at hf
            refine c_rs ?_ -- region 11
            refine s_move h rfl _ rfl rfl (by decide) rfl (fun a h => ?_)
            refine s_x h rfl rfl (by decide) (x_len h.k rfl Try.underlying22 rfl) (fun a h => ?_)
            refine s_x h rfl rfl (by decide) (x_bin h.k rfl rfl rfl ib_eql) (fun a h => ?_)
            refine s_assign h rfl _ rfl rfl (by decide) rfl (fun a h => ?_)
            refine l_end ?_
            refine wp_ret ?_
            refine e_blkR ?_
            refine e_thenR ?_
            obtain rfl := Option.some.inj hf
            exact r_ret1 h rfl (rv_tmp h rfl) ⟨_, [], _, rfl, ⟨rfl, rfl, trivial⟩, rfl, up10, h.m⟩
          · rw [if_neg (of_decide_eq_false hb)] at hf
            refine wp_skip ?_
            refine e_blkN ?_
            refine e_thenN ?_
            refine c_rs ?_ -- region 12
            refine s_move h rfl _ rfl rfl (by decide) rfl (fun a h => ?_)
            refine s_move h rfl _ rfl rfl (by decide) rfl (fun a h => ?_)
            obtain ⟨x26, h27, hf⟩ := bsome hf
            have hX := chatelaineref09_Wrap_ok Fu (S0 := snapAll _) Aa0 ca0 a0 ((hsa0.mono le11).mono (h.m.leAll (i := 0) rfl)) A12 c13 x6.1 (hs14.mono (h.m.leAll (i := 0) rfl)) _ h27 _ h.startAll
            refine q_callX hX h rfl rfl rfl (by decide) Try.func23 rfl rfl rfl (fun a w v L1 S1 hR hb1 h => ?_)
            obtain ⟨A29, c30, cs31, rfl, rfl, hq32, hr33, _⟩ := hR
            have hq34 := hq32.fl (S' := S9) fl_8
            refine s_move h rfl _ rfl rfl (by decide) rfl (fun a h => ?_)
            refine s_x h rfl rfl (by decide) (x_ext h.k rfl rfl rfl) (fun a h => ?_)
            refine s_x h rfl rfl (by decide) (x_ext h.k rfl rfl rfl) (fun a h => ?_)
            refine s_assign h rfl _ rfl rfl (by decide) rfl (fun a h => ?_)
            refine s_assign h rfl _ rfl rfl (by decide) rfl (fun a h => ?_)
            refine l_end ?_
            refine c_rs ?_ -- region 13
            refine s_move h rfl _ rfl rfl (by decide) rfl (fun a h => ?_)
            refine s_x h rfl rfl (by decide) (x_bin h.k rfl rfl rfl ib_eql) (fun a h => ?_)
            refine s_move h rfl _ rfl rfl (by decide) rfl (fun a h => ?_)
            refine q_grp h 3 (t := 77) 80 ((decide (x6.2 = 0)) && (decide (x26.2 = 0))) rfl (fun hB2 => ?_) (fun hB2 => ?_) (fun a w h => ?_)
            · refine g_yes h rfl rfl rfl rfl hB2 ?_
              refine s_move h rfl _ rfl rfl (by decide) rfl (fun a h => ?_)
              refine g_yes h rfl rfl rfl rfl hB2 ?_
              refine s_x h rfl rfl (by decide) (x_bin h.k rfl rfl rfl ib_eql) (fun a h => ?_)
              refine s_x h rfl rfl (by decide) (x_pick (u' := undef) h.k rfl rfl (fun _ => rfl) (fun hh => absurd (hB2.symm.trans hh) (by decide))) (fun a h => ?_)
              exact (h.mid 2 rfl).val (by first | rfl | (rw [hB2]; first | rfl | simp))
            · refine g_no h rfl rfl rfl rfl hB2 rfl (by decide) (fun a h => ?_)
              refine g_no h rfl rfl rfl rfl hB2 rfl (by decide) (fun a h => ?_)
              refine s_x h rfl rfl (by decide) (x_pick (u' := undef) h.k rfl rfl (fun hh => absurd (hB2.symm.trans hh) (by decide)) (fun _ => rfl)) (fun a h => ?_)
              exact (h.mid 2 rfl).val (by first | rfl | (rw [hB2]; first | rfl | simp))
            refine s_move h rfl _ rfl rfl (by decide) rfl (fun a h => ?_)
            obtain ⟨z38, hz37, hf⟩ := bsome hf
            refine q_grp h 4 (t := 81) 85 z38 rfl (fun hB6 => ?_) (fun hB6 => ?_) (fun a w h => ?_)
            · rw [if_pos hB6] at hz37
              refine g_yes h rfl rfl rfl rfl hB6 ?_
              refine s_move h rfl _ rfl rfl (by decide) rfl (fun a h => ?_)
              refine g_yes h rfl rfl rfl rfl hB6 ?_
              refine s_move h rfl _ rfl rfl (by decide) rfl (fun a h => ?_)
              refine g_yes h rfl rfl rfl rfl hB6 ?_
              obtain ⟨x40, h41, hz37⟩ := bsome hz37
              have hX := chatelaineref01_Same_ok Fu (S0 := snapAll _) A29 c30 x26.1 (h.m.rowAll (i := 0) rfl (j := 1) rfl hq34) Aa1 ca1 a1 ((hsa1.mono le11).mono (h.m.leAll (i := 1) rfl)) _ h41 _ h.startAll
              refine q_callX hX h rfl rfl rfl (by decide) Try.func25 rfl rfl rfl (fun a w v L1 S1 hR hb1 h => ?_)
              obtain ⟨rfl, rfl, _⟩ := hR
              refine s_x h rfl rfl (by decide) (x_pick (u' := undef) h.k rfl rfl (fun _ => rfl) (fun hh => absurd (hB6.symm.trans hh) (by decide))) (fun a h => ?_)
              exact (h.mid 3 rfl).val (by rw [Option.some.inj hz37])
            · refine g_no h rfl rfl rfl rfl hB6 rfl (by decide) (fun a h => ?_)
              refine g_no h rfl rfl rfl rfl hB6 rfl (by decide) (fun a h => ?_)
              refine g_no h rfl rfl rfl rfl hB6 rfl (by decide) (fun a h => ?_)
              rw [if_neg (by rw [hB6]; decide)] at hz37
              refine s_x h rfl rfl (by decide) (x_pick (u' := undef) h.k rfl rfl (fun hh => absurd (hB6.symm.trans hh) (by decide)) (fun _ => rfl)) (fun a h => ?_)
              exact (h.mid 3 rfl).val (by rw [Option.some.inj hz37])
            refine s_assign h rfl _ rfl rfl (by decide) rfl (fun a h => ?_)
            refine l_end ?_
            refine wp_ret ?_
            rw [← Option.some.inj hf]
            exact r_ret1 h rfl (rv_tmp h rfl) ⟨_, [], _, rfl, ⟨rfl, rfl, trivial⟩, rfl, up10, (h.m.pick [1] _ (by decide) rfl)⟩
def chatelainelaw09_WrapBack (Fu : Nat) (a0 : List UInt8) (a1 : List UInt8) (a2 : List UInt8) : Option Bool :=
  (chatelainelaw09_awake Fu).bind fun x1 => if (!x1) = true then (some false) else (if (((decide (100 < (a0.length : Int))) || (decide (100 < (a1.length : Int)))) || (decide (100 < (a2.length : Int)))) = true then (some true) else ((wrap_Wrap Fu a0 a2).bind fun x8 => if x8.2 ≠ 0 then (some (decide ((x8.1.length : Int) = 0))) else ((wrap_Unwrap Fu a0 x8.1).bind fun x22 => (if x22.2 ≠ 0 then some true else (chatelaineref01_Same Fu x22.1 a2).bind fun x35 => some (!x35)).bind fun z33 => if z33 = true then (some false) else ((wrap_Again Fu a0 a1 x8.1).bind fun x38 => if ((decide ((a1.length : Int) ≠ 16)) && (decide ((a1.length : Int) ≠ 32))) = true then (some ((decide (x38.2 = 20)) && (decide ((x38.1.length : Int) = 0)))) else ((wrap_Unwrap Fu a1 x38.1).bind fun x56 => (wrap_Again Fu a1 a0 x8.1).bind fun x66 => (wrap_Unwrap Fu a1 x8.1).bind fun x75 => (if ((decide (x38.2 = 0)) && (decide (x56.2 = 0))) = true then (chatelaineref01_Same Fu x56.1 a2).bind fun x90 => some x90 else some false).bind fun z88 => some ((z88 && ((decide (x75.2 = 0)) == (decide (x66.2 = 0)))) && ((decide (x75.2 = 0)) || ((decide (x75.2 = 21)) && (decide ((x75.1.length : Int) = 0))))))))))
set_option maxRecDepth 100000 in
set_option maxHeartbeats 2000000 in
theorem chatelainelaw09_WrapBack_ok (Fu : Nat) {S0 : Snap} (Aa0 : Option Addr) (ca0 : Nat) (a0 : List UInt8) (hsa0 : slS ty8 S0 Aa0 ca0 a0) (Aa1 : Option Addr) (ca1 : Nat) (a1 : List UInt8) (hsa1 : slS ty8 S0 Aa1 ca1 a1) (Aa2 : Option Addr) (ca2 : Nat) (a2 : List UInt8) (hsa2 : slS ty8 S0 Aa2 ca2 a2) (r : Bool) (hf : chatelainelaw09_WrapBack Fu a0 a1 a2 = some r) (w0 : World) (hm : Mem w0 (ownL ([] ++ [.sn S0])) ([] ++ [.sn S0]) w0) :
    Calls Try.prog 8 #[.slice Aa0 a0.length ca0, .slice Aa1 a1.length ca1, .slice Aa2 a2.length ca2] w0 (Ret w0 S0 [] (fun v L1 S1 => v = .bool r ∧ L1 = [] ∧ True)) := by
  unfold chatelainelaw09_WrapBack at hf
  refine c_enterM Try.func8 rfl 131 rfl (by simp) _ hm _ rfl (fun a h => ?_)
  refine c_rs ?_ -- region 0
  refine s_assign h rfl _ rfl rfl (by decide) rfl (fun a h => ?_)
  refine l_end ?_
  refine wp_seq ?_
  refine c_rs ?_ -- region 1
  obtain ⟨x1, h2, hf⟩ := bsome hf
  have hX := chatelainelaw09_awake_ok Fu (S0 := snapAll _)  _ h2 _ h.startAll
  refine q_callX hX h rfl rfl rfl (by decide) Try.func21 rfl rfl rfl (fun a w v L1 S1 hR hb1 h => ?_)
  obtain ⟨rfl, rfl, _⟩ := hR
  refine s_x h rfl rfl (by decide) (x_not h.k rfl rfl) (fun a h => ?_)
  refine l_end ?_
  refine c_cond h rfl (fun hb => ?_) (fun hb => ?_)
  · rw [if_pos hb] at hf
    refine c_rs ?_ -- region 2
    refine s_assign h rfl _ rfl rfl (by decide) rfl (fun a h => ?_)
    refine l_end ?_
    refine wp_ret ?_
    refine e_thenR ?_
    rw [← Option.some.inj hf]
    exact r_ret1 h rfl (rv_tmp h rfl) ⟨_, [], _, rfl, ⟨rfl, rfl, trivial⟩, rfl, (Up.refl _ _ _), h.m⟩
  · rw [if_neg (by rw [hb]; decide)] at hf
    refine wp_skip ?_
    refine e_thenN ?_
    refine wp_seq ?_
    refine c_rs ?_ -- region 3
    refine s_move h rfl _ rfl rfl (by decide) rfl (fun a h => ?_)
    refine s_x h rfl rfl (by decide) (x_len h.k rfl Try.underlying22 rfl) (fun a h => ?_)
    refine s_x h rfl rfl (by decide) (x_bin h.k rfl rfl rfl ib_gtr) (fun a h => ?_)
    refine s_move h rfl _ rfl rfl (by decide) rfl (fun a h => ?_)
    refine q_grp h 4 (t := 24) 28 ((decide (100 < (a0.length : Int))) || (decide (100 < (a1.length : Int)))) rfl (fun hB3 => ?_) (fun hB3 => ?_) (fun a w h => ?_)
    · refine g_no h rfl rfl rfl rfl hB3 rfl (by decide) (fun a h => ?_)
      refine g_no h rfl rfl rfl rfl hB3 rfl (by decide) (fun a h => ?_)
      refine g_no h rfl rfl rfl rfl hB3 rfl (by decide) (fun a h => ?_)
      refine s_x h rfl rfl (by decide) (x_pick (u' := undef) h.k rfl rfl (fun _ => rfl) (fun hh => absurd (hB3.symm.trans hh) (by decide))) (fun a h => ?_)
      exact (h.mid 3 rfl).val (by first | rfl | (rw [hB3]; first | rfl | simp))
    · refine g_yes h rfl rfl rfl rfl hB3 ?_
      refine s_move h rfl _ rfl rfl (by decide) rfl (fun a h => ?_)
      refine g_yes h rfl rfl rfl rfl hB3 ?_
      refine s_x h rfl rfl (by decide) (x_len h.k rfl Try.underlying22 rfl) (fun a h => ?_)
      refine g_yes h rfl rfl rfl rfl hB3 ?_
      refine s_x h rfl rfl (by decide) (x_bin h.k rfl rfl rfl ib_gtr) (fun a h => ?_)
      refine s_x h rfl rfl (by decide) (x_pick (u' := undef) h.k rfl rfl (fun hh => absurd (hB3.symm.trans hh) (by decide)) (fun _ => rfl)) (fun a h => ?_)
      exact (h.mid 3 rfl).val (by first | rfl | (rw [hB3]; first | rfl | simp))
    refine s_move h rfl _ rfl rfl (by decide) rfl (fun a h => ?_)
    refine q_grp h 4 (t := 29) 33 (((decide (100 < (a0.length : Int))) || (decide (100 < (a1.length : Int)))) || (decide (100 < (a2.length : Int)))) rfl (fun hB8 => ?_) (fun hB8 => ?_) (fun a w h => ?_)
    · refine g_no h rfl rfl rfl rfl hB8 rfl (by decide) (fun a h => ?_)
      refine g_no h rfl rfl rfl rfl hB8 rfl (by decide) (fun a h => ?_)
      refine g_no h rfl rfl rfl rfl hB8 rfl (by decide) (fun a h => ?_)
      refine s_x h rfl rfl (by decide) (x_pick (u' := undef) h.k rfl rfl (fun _ => rfl) (fun hh => absurd (hB8.symm.trans hh) (by decide))) (fun a h => ?_)
      exact (h.mid 3 rfl).val (by first | rfl | (rw [hB8]; first | rfl | simp))
    · refine g_yes h rfl rfl rfl rfl hB8 ?_
      refine s_move h rfl _ rfl rfl (by decide) rfl (fun a h => ?_)
      refine g_yes h rfl rfl rfl rfl hB8 ?_
      refine s_x h rfl rfl (by decide) (x_len h.k rfl Try.underlying22 rfl) (fun a h => ?_)
      refine g_yes h rfl rfl rfl rfl hB8 ?_
      refine s_x h rfl rfl (by decide) (x_bin h.k rfl rfl rfl ib_gtr) (fun a h => ?_)
      refine s_x h rfl rfl (by decide) (x_pick (u' := undef) h.k rfl rfl (fun hh => absurd (hB8.symm.trans hh) (by decide)) (fun _ => rfl)) (fun a h => ?_)
      exact (h.mid 3 rfl).val (by first | rfl | (rw [hB8]; first | rfl | simp))
    refine l_end ?_
    refine c_cond h rfl (fun hb => ?_) (fun hb => ?_)
    · rw [if_pos hb] at hf
      refine c_rs ?_ -- region 4
      refine s_assign h rfl _ rfl rfl (by decide) rfl (fun a h => ?_)
      refine l_end ?_
      refine wp_ret ?_
      refine e_thenR ?_
      rw [← Option.some.inj hf]
      exact r_ret1 h rfl (rv_tmp h rfl) ⟨_, [], _, rfl, ⟨rfl, rfl, trivial⟩, rfl, (Up.refl _ _ _), h.m⟩
    · rw [if_neg (by rw [hb]; decide)] at hf
      refine wp_skip ?_
      refine e_thenN ?_
      refine c_rs ?_ -- region 5
      refine s_move h rfl _ rfl rfl (by decide) rfl (fun a h => ?_)
      refine s_move h rfl _ rfl rfl (by decide) rfl (fun a h => ?_)
      obtain ⟨x8, h9, hf⟩ := bsome hf
      have hX := wrap_Wrap_ok Fu (S0 := snapAll _) Aa0 ca0 a0 (hsa0.mono (h.m.leAll (i := 0) rfl)) Aa2 ca2 a2 (hsa2.mono (h.m.leAll (i := 0) rfl)) _ h9 _ h.startAll
      refine q_callX hX h rfl rfl rfl (by decide) Try.func22 rfl rfl rfl (fun a w v L1 S1 hR hb1 h => ?_)
      obtain ⟨A11, c12, cs13, rfl, rfl, hq14, hr15, _⟩ := hR
      have hq16 := hq14.fl (S' := S0) fl_8
      refine s_move h rfl _ rfl rfl (by decide) rfl (fun a h => ?_)
      refine s_x h rfl rfl (by decide) (x_ext h.k rfl rfl rfl) (fun a h => ?_)
      refine s_x h rfl rfl (by decide) (x_ext h.k rfl rfl rfl) (fun a h => ?_)
      refine s_assign h rfl _ rfl rfl (by decide) rfl (fun a h => ?_)
      refine s_assign h rfl _ rfl rfl (by decide) rfl (fun a h => ?_)
      refine l_end ?_
      refine wp_seq ?_
      refine c_rs ?_ -- region 6
      refine s_move h rfl _ rfl rfl (by decide) rfl (fun a h => ?_)
      refine s_x h rfl rfl (by decide) (x_bin h.k rfl rfl rfl ib_neq) (fun a h => ?_)
      refine l_end ?_
      refine c_cond h rfl (fun hb => ?_) (fun hb => ?_)
      · rw [if_pos (of_decide_eq_true hb)] at hf
        refine c_rs ?_ -- region 7
        refine s_move h rfl _ rfl rfl (by decide) rfl (fun a h => ?_)
        have hr17 : r64 (x8.1.length : Int) := len_r (h.m.rowLen (i := 0) rfl)
        refine s_x h rfl rfl (by decide) (x_len h.k rfl Try.underlying22 rfl) (fun a h => ?_)
        refine s_x h rfl rfl (by decide) (x_bin h.k rfl rfl rfl ib_eql) (fun a h => ?_)
        refine s_assign h rfl _ rfl rfl (by decide) rfl (fun a h => ?_)
        refine l_end ?_
        refine wp_ret ?_
        refine e_thenR ?_
        obtain rfl := Option.some.inj hf
        exact r_ret1 h rfl (rv_tmp h rfl) ⟨_, [], _, rfl, ⟨rfl, rfl, trivial⟩, rfl, (Up.refl _ _ _), (h.m.pick [1] _ (by decide) rfl)⟩
      · rw [if_neg (of_decide_eq_false hb)] at hf
        refine wp_skip ?_
        refine e_thenN ?_
        refine c_rs ?_ -- region 8
        refine s_move h rfl _ rfl rfl (by decide) rfl (fun a h => ?_)
        refine s_move h rfl _ rfl rfl (by decide) rfl (fun a h => ?_)
        obtain ⟨S18, le19, up20, hs21, h⟩ := q_freeze (T := ty8) h (Up.refl _ _ _) hq16
        obtain ⟨x22, h23, hf⟩ := bsome hf
        have hX := wrap_Unwrap_ok Fu (S0 := S18) Aa0 ca0 a0 (hsa0.mono le19) A11 c12 x8.1 hs21 _ h23 _ (h.sub (Ls := []))
        refine q_callY (Ls := []) hX h up20 rfl rfl rfl (by decide) Try.func26 rfl rfl rfl (fun a w v L1 S25 hR le27 up26 h => ?_)
        obtain ⟨A28, c29, rfl, rfl, hs30, hr31, _⟩ := hR
        refine s_move h rfl _ rfl rfl (by decide) rfl (fun a h => ?_)
        refine s_x h rfl rfl (by decide) (x_ext h.k rfl rfl rfl) (fun a h => ?_)
        refine s_x h rfl rfl (by decide) (x_ext h.k rfl rfl rfl) (fun a h => ?_)
        refine s_assign h rfl _ rfl rfl (by decide) rfl (fun a h => ?_)
        refine s_assign h rfl _ rfl rfl (by decide) rfl (fun a h => ?_)
        refine l_end ?_
        refine wp_seq ?_
        refine c_rs ?_ -- region 9
        refine s_move h rfl _ rfl rfl (by decide) rfl (fun a h => ?_)
        refine s_x h rfl rfl (by decide) (x_bin h.k rfl rfl rfl ib_neq) (fun a h => ?_)
        refine s_move h rfl _ rfl rfl (by decide) rfl (fun a h => ?_)
        obtain ⟨z33, hz32, hf⟩ := bsome hf
        refine q_grp h 5 (t := 53) 58 z33 rfl (fun hB2 => ?_) (fun hB2 => ?_) (fun a w h => ?_)
        · refine g_no h rfl rfl rfl rfl hB2 rfl (by decide) (fun a h => ?_)
          refine g_no h rfl rfl rfl rfl hB2 rfl (by decide) (fun a h => ?_)
          refine g_no h rfl rfl rfl rfl hB2 rfl (by decide) (fun a h => ?_)
          refine g_no h rfl rfl rfl rfl hB2 rfl (by decide) (fun a h => ?_)
          rw [if_pos (of_decide_eq_true hB2)] at hz32
          refine s_x h rfl rfl (by decide) (x_pick (u' := undef) h.k rfl rfl (fun _ => rfl) (fun hh => absurd (hB2.symm.trans hh) (by decide))) (fun a h => ?_)
          exact (h.mid 4 rfl).val (by rw [Option.some.inj hz32])
        · rw [if_neg (of_decide_eq_false hB2)] at hz32
          refine g_yes h rfl rfl rfl rfl hB2 ?_
          refine s_move h rfl _ rfl rfl (by decide) rfl (fun a h => ?_)
          refine g_yes h rfl rfl rfl rfl hB2 ?_
          refine s_move h rfl _ rfl rfl (by decide) rfl (fun a h => ?_)
          refine g_yes h rfl rfl rfl rfl hB2 ?_
          obtain ⟨x35, h36, hz32⟩ := bsome hz32
          have hX := chatelaineref01_Same_ok Fu (S0 := snapAll _) A28 c29 x22.1 (hs30.mono (h.m.leAll (i := 0) rfl)) Aa2 ca2 a2 ((hsa2.mono (le19.trans le27)).mono (h.m.leAll (i := 0) rfl)) _ h36 _ h.startAll
          refine q_callX hX h rfl rfl rfl (by decide) Try.func25 rfl rfl rfl (fun a w v L1 S1 hR hb1 h => ?_)
          obtain ⟨rfl, rfl, _⟩ := hR
          refine g_yes h rfl rfl rfl rfl hB2 ?_
          refine s_x h rfl rfl (by decide) (x_not h.k rfl rfl) (fun a h => ?_)
          refine s_x h rfl rfl (by decide) (x_pick (u' := undef) h.k rfl rfl (fun hh => absurd (hB2.symm.trans hh) (by decide)) (fun _ => rfl)) (fun a h => ?_)
          exact (h.mid 4 rfl).val (by rw [Option.some.inj hz32])
        refine l_end ?_
        refine c_cond h rfl (fun hb => ?_) (fun hb => ?_)
        · rw [if_pos hb] at hf
          refine c_rs ?_ -- region 10
          refine s_assign h rfl _ rfl rfl (by decide) rfl (fun a h => ?_)
          refine l_end ?_
          refine wp_ret ?_
          refine e_thenR ?_
          rw [← Option.some.inj hf]
          exact r_ret1 h rfl (rv_tmp h rfl) ⟨_, [], _, rfl, ⟨rfl, rfl, trivial⟩, rfl, up26, h.m⟩
        · rw [if_neg (by rw [hb]; decide)] at hf
          refine wp_skip ?_
          refine e_thenN ?_
          refine c_rs ?_ -- region 11
          refine s_move h rfl _ rfl rfl (by decide) rfl (fun a h => ?_)
          refine s_move h rfl _ rfl rfl (by decide) rfl (fun a h => ?_)
          refine s_move h rfl _ rfl rfl (by decide) rfl (fun a h => ?_)
          obtain ⟨x38, h39, hf⟩ := bsome hf
          have hX := wrap_Again_ok Fu (S0 := snapAll _) Aa0 ca0 a0 ((hsa0.mono (le19.trans le27)).mono (h.m.leAll (i := 0) rfl)) Aa1 ca1 a1 ((hsa1.mono (le19.trans le27)).mono (h.m.leAll (i := 0) rfl)) A11 c12 x8.1 ((hs21.mono le27).mono (h.m.leAll (i := 0) rfl)) _ h39 _ h.startAll
          refine q_callX hX h rfl rfl rfl (by decide) Try.func27 rfl rfl rfl (fun a w v L1 S1 hR hb1 h => ?_)
          obtain ⟨A41, c42, cs43, rfl, rfl, hq44, hr45, _⟩ := hR
          have hq46 := hq44.fl (S' := S25) fl_8
          refine s_move h rfl _ rfl rfl (by decide) rfl (fun a h => ?_)
          refine s_x h rfl rfl (by decide) (x_ext h.k rfl rfl rfl) (fun a h => ?_)
          refine s_x h rfl rfl (by decide) (x_ext h.k rfl rfl rfl) (fun a h => ?_)
          refine s_assign h rfl _ rfl rfl (by decide) rfl (fun a h => ?_)
          refine s_assign h rfl _ rfl rfl (by decide) rfl (fun a h => ?_)
          refine l_end ?_
          refine wp_seq ?_
          refine c_rs ?_ -- region 12
          refine s_move h rfl _ rfl rfl (by decide) rfl (fun a h => ?_)
          refine s_x h rfl rfl (by decide) (x_len h.k rfl Try.underlying22 rfl) (fun a h => ?_)
          refine s_x h rfl rfl (by decide) (x_bin h.k rfl rfl rfl ib_neq) (fun a h => ?_)
          refine s_move h rfl _ rfl rfl (by decide) rfl (fun a h => ?_)
          refine q_grp h 4 (t := 69) 73 ((decide ((a1.length : Int) ≠ 16)) && (decide ((a1.length : Int) ≠ 32))) rfl (fun hB3 => ?_) (fun hB3 => ?_) (fun a w h => ?_)
          · refine g_yes h rfl rfl rfl rfl hB3 ?_
            refine s_move h rfl _ rfl rfl (by decide) rfl (fun a h => ?_)
            refine g_yes h rfl rfl rfl rfl hB3 ?_
            refine s_x h rfl rfl (by decide) (x_len h.k rfl Try.underlying22 rfl) (fun a h => ?_)
            refine g_yes h rfl rfl rfl rfl hB3 ?_
            refine s_x h rfl rfl (by decide) (x_bin h.k rfl rfl rfl ib_neq) (fun a h => ?_)
            refine s_x h rfl rfl (by decide) (x_pick (u' := undef) h.k rfl rfl (fun _ => rfl) (fun hh => absurd (hB3.symm.trans hh) (by decide))) (fun a h => ?_)
            exact (h.mid 3 rfl).val (by first | rfl | (rw [hB3]; first | rfl | simp))
          · refine g_no h rfl rfl rfl rfl hB3 rfl (by decide) (fun a h => ?_)
            refine g_no h rfl rfl rfl rfl hB3 rfl (by decide) (fun a h => ?_)
            refine g_no h rfl rfl rfl rfl hB3 rfl (by decide) (fun a h => ?_)
            refine s_x h rfl rfl (by decide) (x_pick (u' := undef) h.k rfl rfl (fun hh => absurd (hB3.symm.trans hh) (by decide)) (fun _ => rfl)) (fun a h => ?_)
            exact (h.mid 3 rfl).val (by first | rfl | (rw [hB3]; first | rfl | simp))
          refine l_end ?_
          refine c_cond h rfl (fun hb => ?_) (fun hb => ?_)
          · rw [if_pos hb] at hf
            refine c_rs ?_ -- region 13
            refine s_move h rfl _ rfl rfl (by decide) rfl (fun a h => ?_)
            refine s_x h rfl rfl (by decide) (x_bin h.k rfl rfl rfl ib_eql) (fun a h => ?_)
            refine s_move h rfl _ rfl rfl (by decide) rfl (fun a h => ?_)
            refine q_grp h 4 (t := 76) 80 ((decide (x38.2 = 20)) && (decide ((x38.1.length : Int) = 0))) rfl (fun hB2 => ?_) (fun hB2 => ?_) (fun a w h => ?_)
            · refine g_yes h rfl rfl rfl rfl hB2 ?_
              refine s_move h rfl _ rfl rfl (by decide) rfl (fun a h => ?_)
              refine g_yes h rfl rfl rfl rfl hB2 ?_
              have hr51 : r64 (x38.1.length : Int) := len_r (h.m.rowLen (i := 0) rfl)
              refine s_x h rfl rfl (by decide) (x_len h.k rfl Try.underlying22 rfl) (fun a h => ?_)
              refine g_yes h rfl rfl rfl rfl hB2 ?_
              refine s_x h rfl rfl (by decide) (x_bin h.k rfl rfl rfl ib_eql) (fun a h => ?_)
              refine s_x h rfl rfl (by decide) (x_pick (u' := undef) h.k rfl rfl (fun _ => rfl) (fun hh => absurd (hB2.symm.trans hh) (by decide))) (fun a h => ?_)
              exact (h.mid 3 rfl).val (by first | rfl | (rw [hB2]; first | rfl | simp))
            · refine g_no h rfl rfl rfl rfl hB2 rfl (by decide) (fun a h => ?_)
              refine g_no h rfl rfl rfl rfl hB2 rfl (by decide) (fun a h => ?_)
              refine g_no h rfl rfl rfl rfl hB2 rfl (by decide) (fun a h => ?_)
              refine s_x h rfl rfl (by decide) (x_pick (u' := undef) h.k rfl rfl (fun hh => absurd (hB2.symm.trans hh) (by decide)) (fun _ => rfl)) (fun a h => ?_)
              exact (h.mid 3 rfl).val (by first | rfl | (rw [hB2]; first | rfl | simp))
            refine s_assign h rfl _ rfl rfl (by decide) rfl (fun a h => ?_)
            refine l_end ?_
            refine wp_ret ?_
            refine e_thenR ?_
            obtain rfl := Option.some.inj hf
            exact r_ret1 h rfl (rv_tmp h rfl) ⟨_, [], _, rfl, ⟨rfl, rfl, trivial⟩, rfl, up26, (h.m.pick [1] _ (by decide) rfl)⟩
          · rw [if_neg (by rw [hb]; decide)] at hf
            refine wp_skip ?_
            refine e_thenN ?_
            refine c_rs ?_ -- region 14
            refine s_move h rfl _ rfl rfl (by decide) rfl (fun a h => ?_)
            refine s_move h rfl _ rfl rfl (by decide) rfl (fun a h => ?_)
            obtain ⟨S52, le53, up54, hs55, h⟩ := q_freeze (T := ty8) h up26 hq46
            obtain ⟨x56, h57, hf⟩ := bsome hf
            have hX := wrap_Unwrap_ok Fu (S0 := S52) Aa1 ca1 a1 (hsa1.mono ((le19.trans le27).trans le53)) A41 c42 x38.1 hs55 _ h57 _ (h.sub (Ls := []))
            refine q_callY (Ls := []) hX h up54 rfl rfl rfl (by decide) Try.func26 rfl rfl rfl (fun a w v L1 S59 hR le61 up60 h => ?_)
            obtain ⟨A62, c63, rfl, rfl, hs64, hr65, _⟩ := hR
            refine s_move h rfl _ rfl rfl (by decide) rfl (fun a h => ?_)
            refine s_x h rfl rfl (by decide) (x_ext h.k rfl rfl rfl) (fun a h => ?_)
            refine s_x h rfl rfl (by decide) (x_ext h.k rfl rfl rfl) (fun a h => ?_)
            refine s_assign h rfl _ rfl rfl (by decide) rfl (fun a h => ?_)
            refine s_assign h rfl _ rfl rfl (by decide) rfl (fun a h => ?_)
            refine l_end ?_
            refine c_rs ?_ -- region 15
            refine s_move h rfl _ rfl rfl (by decide) rfl (fun a h => ?_)
            refine s_move h rfl _ rfl rfl (by decide) rfl (fun a h => ?_)
            refine s_move h rfl _ rfl rfl (by decide) rfl (fun a h => ?_)
            obtain ⟨x66, h67, hf⟩ := bsome hf
            have hX := wrap_Again_ok Fu (S0 := snapAll _) Aa1 ca1 a1 ((hsa1.mono (((le19.trans le27).trans le53).trans le61)).mono (h.m.leAll (i := 0) rfl)) Aa0 ca0 a0 ((hsa0.mono (((le19.trans le27).trans le53).trans le61)).mono (h.m.leAll (i := 0) rfl)) A11 c12 x8.1 ((hs21.mono ((le27.trans le53).trans le61)).mono (h.m.leAll (i := 0) rfl)) _ h67 _ h.startAll
            refine q_callX hX h rfl rfl rfl (by decide) Try.func27 rfl rfl rfl (fun a w v L1 S1 hR hb1 h => ?_)
            obtain ⟨A69, c70, cs71, rfl, rfl, hq72, hr73, _⟩ := hR
            have hq74 := hq72.fl (S' := S59) fl_8
            refine s_move h rfl _ rfl rfl (by decide) rfl (fun a h => ?_)
            refine s_x h rfl rfl (by decide) (x_ext h.k rfl rfl rfl) (fun a h => ?_)
            refine s_x h rfl rfl (by decide) (x_ext h.k rfl rfl rfl) (fun a h => ?_)
            refine s_assign h rfl _ rfl rfl (by decide) rfl (fun a h => ?_)
            refine s_assign h rfl _ rfl rfl (by decide) rfl (fun a h => ?_)
            refine l_end ?_
            refine c_rs ?_ -- region 16
            refine s_move h rfl _ rfl rfl (by decide) rfl (fun a h => ?_)
            refine s_move h rfl _ rfl rfl (by decide) rfl (fun a h => ?_)
            obtain ⟨x75, h76, hf⟩ := bsome hf
            have h := h.pick [1, 0] (by decide) rfl
            have hX := wrap_Unwrap_ok Fu (S0 := S59) Aa1 ca1 a1 (hsa1.mono (((le19.trans le27).trans le53).trans le61)) A11 c12 x8.1 (hs21.mono ((le27.trans le53).trans le61)) _ h76 _ (h.sub (Ls := []))
            refine q_callY (Ls := []) hX h up60 rfl rfl rfl (by decide) Try.func26 rfl rfl rfl (fun a w v L1 S78 hR le80 up79 h => ?_)
            obtain ⟨A81, c82, rfl, rfl, hs83, hr84, _⟩ := hR
            refine s_move h rfl _ rfl rfl (by decide) rfl (fun a h => ?_)
            refine s_x h rfl rfl (by decide) (x_ext h.k rfl rfl rfl) (fun a h => ?_)
            refine s_x h rfl rfl (by decide) (x_ext h.k rfl rfl rfl) (fun a h => ?_)
            refine s_assign h rfl _ rfl rfl (by decide) rfl (fun a h => ?_)
            refine s_assign h rfl _ rfl rfl (by decide) rfl (fun a h => ?_)
            refine l_end ?_
            refine c_rs ?_ -- region 17
            refine s_move h rfl _ rfl rfl (by decide) rfl (fun a h => ?_)
            refine s_x h rfl rfl (by decide) (x_bin h.k rfl rfl rfl ib_eql) (fun a h => ?_)
            refine s_move h rfl _ rfl rfl (by decide) rfl (fun a h => ?_)
            refine q_grp h 3 (t := 102) 105 ((decide (x38.2 = 0)) && (decide (x56.2 = 0))) rfl (fun hB2 => ?_) (fun hB2 => ?_) (fun a w h => ?_)
            · refine g_yes h rfl rfl rfl rfl hB2 ?_
              refine s_move h rfl _ rfl rfl (by decide) rfl (fun a h => ?_)
              refine g_yes h rfl rfl rfl rfl hB2 ?_
              refine s_x h rfl rfl (by decide) (x_bin h.k rfl rfl rfl ib_eql) (fun a h => ?_)
              refine s_x h rfl rfl (by decide) (x_pick (u' := undef) h.k rfl rfl (fun _ => rfl) (fun hh => absurd (hB2.symm.trans hh) (by decide))) (fun a h => ?_)
              exact (h.mid 2 rfl).val (by first | rfl | (rw [hB2]; first | rfl | simp))
            · refine g_no h rfl rfl rfl rfl hB2 rfl (by decide) (fun a h => ?_)
              refine g_no h rfl rfl rfl rfl hB2 rfl (by decide) (fun a h => ?_)
              refine s_x h rfl rfl (by decide) (x_pick (u' := undef) h.k rfl rfl (fun hh => absurd (hB2.symm.trans hh) (by decide)) (fun _ => rfl)) (fun a h => ?_)
              exact (h.mid 2 rfl).val (by first | rfl | (rw [hB2]; first | rfl | simp))
            refine s_move h rfl _ rfl rfl (by decide) rfl (fun a h => ?_)
            obtain ⟨z88, hz87, hf⟩ := bsome hf
            refine q_grp h 4 (t := 106) 110 z88 rfl (fun hB6 => ?_) (fun hB6 => ?_) (fun a w h => ?_)
            · rw [if_pos hB6] at hz87
              refine g_yes h rfl rfl rfl rfl hB6 ?_
              refine s_move h rfl _ rfl rfl (by decide) rfl (fun a h => ?_)
              refine g_yes h rfl rfl rfl rfl hB6 ?_
              refine s_move h rfl _ rfl rfl (by decide) rfl (fun a h => ?_)
              refine g_yes h rfl rfl rfl rfl hB6 ?_
              obtain ⟨x90, h91, hz87⟩ := bsome hz87
              have hX := chatelaineref01_Same_ok Fu (S0 := snapAll _) A62 c63 x56.1 ((hs64.mono le80).mono (h.m.leAll (i := 0) rfl)) Aa2 ca2 a2 ((hsa2.mono ((((le19.trans le27).trans le53).trans le61).trans le80)).mono (h.m.leAll (i := 0) rfl)) _ h91 _ h.startAll
              refine q_callX hX h rfl rfl rfl (by decide) Try.func25 rfl rfl rfl (fun a w v L1 S1 hR hb1 h => ?_)
              obtain ⟨rfl, rfl, _⟩ := hR
              refine s_x h rfl rfl (by decide) (x_pick (u' := undef) h.k rfl rfl (fun _ => rfl) (fun hh => absurd (hB6.symm.trans hh) (by decide))) (fun a h => ?_)
              exact (h.mid 3 rfl).val (by rw [Option.some.inj hz87])
            · refine g_no h rfl rfl rfl rfl hB6 rfl (by decide) (fun a h => ?_)
              refine g_no h rfl rfl rfl rfl hB6 rfl (by decide) (fun a h => ?_)
              refine g_no h rfl rfl rfl rfl hB6 rfl (by decide) (fun a h => ?_)
              rw [if_neg (by rw [hB6]; decide)] at hz87
              refine s_x h rfl rfl (by decide) (x_pick (u' := undef) h.k rfl rfl (fun hh => absurd (hB6.symm.trans hh) (by decide)) (fun _ => rfl)) (fun a h => ?_)
              exact (h.mid 3 rfl).val (by rw [Option.some.inj hz87])
            refine s_move h rfl _ rfl rfl (by decide) rfl (fun a h => ?_)
            refine q_grp h 6 (t := 111) 117 (z88 && ((decide (x75.2 = 0)) == (decide (x66.2 = 0)))) rfl (fun hB11 => ?_) (fun hB11 => ?_) (fun a w h => ?_)
            · refine g_yes h rfl rfl rfl rfl hB11 ?_
              refine s_move h rfl _ rfl rfl (by decide) rfl (fun a h => ?_)
              refine g_yes h rfl rfl rfl rfl hB11 ?_
              refine s_x h rfl rfl (by decide) (x_bin h.k rfl rfl rfl ib_eql) (fun a h => ?_)
              refine g_yes h rfl rfl rfl rfl hB11 ?_
              refine s_move h rfl _ rfl rfl (by decide) rfl (fun a h => ?_)
              refine g_yes h rfl rfl rfl rfl hB11 ?_
              refine s_x h rfl rfl (by decide) (x_bin h.k rfl rfl rfl ib_eql) (fun a h => ?_)
              refine g_yes h rfl rfl rfl rfl hB11 ?_
              refine s_x h rfl rfl (by decide) (x_eqlB h.k rfl Try.underlying4 rfl rfl) (fun a h => ?_)
              refine s_x h rfl rfl (by decide) (x_pick (u' := undef) h.k rfl rfl (fun _ => rfl) (fun hh => absurd (hB11.symm.trans hh) (by decide))) (fun a h => ?_)
              exact (h.mid 5 rfl).val (by first | rfl | (rw [hB11]; first | rfl | simp))
            · refine g_no h rfl rfl rfl rfl hB11 rfl (by decide) (fun a h => ?_)
              refine g_no h rfl rfl rfl rfl hB11 rfl (by decide) (fun a h => ?_)
              refine g_no h rfl rfl rfl rfl hB11 rfl (by decide) (fun a h => ?_)
              refine g_no h rfl rfl rfl rfl hB11 rfl (by decide) (fun a h => ?_)
              refine g_no h rfl rfl rfl rfl hB11 rfl (by decide) (fun a h => ?_)
              refine s_x h rfl rfl (by decide) (x_pick (u' := undef) h.k rfl rfl (fun hh => absurd (hB11.symm.trans hh) (by decide)) (fun _ => rfl)) (fun a h => ?_)
              exact (h.mid 5 rfl).val (by first | rfl | (rw [hB11]; first | rfl | simp))
            refine s_move h rfl _ rfl rfl (by decide) rfl (fun a h => ?_)
            refine q_grp h 12 (t := 118) 130 ((z88 && ((decide (x75.2 = 0)) == (decide (x66.2 = 0)))) && ((decide (x75.2 = 0)) || ((decide (x75.2 = 21)) && (decide ((x75.1.length : Int) = 0))))) rfl (fun hB18 => ?_) (fun hB18 => ?_) (fun a w h => ?_)
            · refine g_yes h rfl rfl rfl rfl hB18 ?_
              refine s_move h rfl _ rfl rfl (by decide) rfl (fun a h => ?_)
              refine g_yes h rfl rfl rfl rfl hB18 ?_
              refine s_x h rfl rfl (by decide) (x_bin h.k rfl rfl rfl ib_eql) (fun a h => ?_)
              refine g_yes h rfl rfl rfl rfl hB18 ?_
              refine s_move h rfl _ rfl rfl (by decide) rfl (fun a h => ?_)
              refine q_grp h 8 (t := 121) 129 ((decide (x75.2 = 0)) || ((decide (x75.2 = 21)) && (decide ((x75.1.length : Int) = 0)))) rfl (fun hB21 => ?_) (fun hB21 => ?_) (fun a w h => ?_)
              · refine g_no h rfl rfl rfl rfl hB21 rfl (by decide) (fun a h => ?_)
                refine g_no h rfl rfl rfl rfl hB21 rfl (by decide) (fun a h => ?_)
                refine g_no h rfl rfl rfl rfl hB21 rfl (by decide) (fun a h => ?_)
                refine g_off h rfl rfl rfl rfl rfl (by decide) (fun a h => ?_)
                refine g_off h rfl rfl rfl rfl rfl (by decide) (fun a h => ?_)
                refine g_off h rfl rfl rfl rfl rfl (by decide) (fun a h => ?_)
                refine g_no h rfl rfl rfl rfl hB21 rfl (by decide) (fun a h => ?_)
                refine g_yes h rfl rfl rfl rfl hB18 ?_
                refine s_x h rfl rfl (by decide) (x_pick (u' := undef) h.k rfl rfl (fun _ => rfl) (fun hh => absurd (hB21.symm.trans hh) (by decide))) (fun a h => ?_)
                exact (h.mid 7 rfl).val (by first | rfl | (rw [hB21]; first | rfl | simp))
              · refine g_yes h rfl rfl rfl rfl hB21 ?_
                refine s_move h rfl _ rfl rfl (by decide) rfl (fun a h => ?_)
                refine g_yes h rfl rfl rfl rfl hB21 ?_
                refine s_x h rfl rfl (by decide) (x_bin h.k rfl rfl rfl ib_eql) (fun a h => ?_)
                refine g_yes h rfl rfl rfl rfl hB21 ?_
                refine s_move h rfl _ rfl rfl (by decide) rfl (fun a h => ?_)
                refine q_grp h 4 (t := 124) 128 ((decide (x75.2 = 21)) && (decide ((x75.1.length : Int) = 0))) rfl (fun hB24 => ?_) (fun hB24 => ?_) (fun a w h => ?_)
                · refine g_yes h rfl rfl rfl rfl hB24 ?_
                  refine s_move h rfl _ rfl rfl (by decide) rfl (fun a h => ?_)
                  refine g_yes h rfl rfl rfl rfl hB24 ?_
                  refine s_x h rfl rfl (by decide) (x_len h.k rfl Try.underlying22 rfl) (fun a h => ?_)
                  refine g_yes h rfl rfl rfl rfl hB24 ?_
                  refine s_x h rfl rfl (by decide) (x_bin h.k rfl rfl rfl ib_eql) (fun a h => ?_)
                  refine g_yes h rfl rfl rfl rfl hB21 ?_
                  refine s_x h rfl rfl (by decide) (x_pick (u' := undef) h.k rfl rfl (fun _ => rfl) (fun hh => absurd (hB24.symm.trans hh) (by decide))) (fun a h => ?_)
                  exact (h.mid 3 rfl).val (by first | rfl | (rw [hB24]; first | rfl | simp))
                · refine g_no h rfl rfl rfl rfl hB24 rfl (by decide) (fun a h => ?_)
                  refine g_no h rfl rfl rfl rfl hB24 rfl (by decide) (fun a h => ?_)
                  refine g_no h rfl rfl rfl rfl hB24 rfl (by decide) (fun a h => ?_)
                  refine g_yes h rfl rfl rfl rfl hB21 ?_
                  refine s_x h rfl rfl (by decide) (x_pick (u' := undef) h.k rfl rfl (fun hh => absurd (hB24.symm.trans hh) (by decide)) (fun _ => rfl)) (fun a h => ?_)
                  exact (h.mid 3 rfl).val (by first | rfl | (rw [hB24]; first | rfl | simp))
                refine g_yes h rfl rfl rfl rfl hB18 ?_
                refine s_x h rfl rfl (by decide) (x_pick (u' := undef) h.k rfl rfl (fun hh => absurd (hB21.symm.trans hh) (by decide)) (fun _ => rfl)) (fun a h => ?_)
                exact (h.mid 4 rfl).val (by first | rfl | (rw [hB21]; first | rfl | simp))
              refine s_x h rfl rfl (by decide) (x_pick (u' := undef) h.k rfl rfl (fun _ => rfl) (fun hh => absurd (hB18.symm.trans hh) (by decide))) (fun a h => ?_)
              exact (h.mid 4 rfl).val (by first | rfl | (rw [hB18]; first | rfl | simp))
            · refine g_no h rfl rfl rfl rfl hB18 rfl (by decide) (fun a h => ?_)
              refine g_no h rfl rfl rfl rfl hB18 rfl (by decide) (fun a h => ?_)
              refine g_no h rfl rfl rfl rfl hB18 rfl (by decide) (fun a h => ?_)
              refine g_off h rfl rfl rfl rfl rfl (by decide) (fun a h => ?_)
              refine g_off h rfl rfl rfl rfl rfl (by decide) (fun a h => ?_)
              refine g_off h rfl rfl rfl rfl rfl (by decide) (fun a h => ?_)
              refine g_off h rfl rfl rfl rfl rfl (by decide) (fun a h => ?_)
              refine g_off h rfl rfl rfl rfl rfl (by decide) (fun a h => ?_)
              refine g_off h rfl rfl rfl rfl rfl (by decide) (fun a h => ?_)
              refine g_off h rfl rfl rfl rfl rfl (by decide) (fun a h => ?_)
              refine g_no h rfl rfl rfl rfl hB18 rfl (by decide) (fun a h => ?_)
              refine s_x h rfl rfl (by decide) (x_pick (u' := undef) h.k rfl rfl (fun hh => absurd (hB18.symm.trans hh) (by decide)) (fun _ => rfl)) (fun a h => ?_)
              exact (h.mid 11 rfl).val (by first | rfl | (rw [hB18]; first | rfl | simp))
            refine s_assign h rfl _ rfl rfl (by decide) rfl (fun a h => ?_)
            refine l_end ?_
            refine wp_ret ?_
            obtain rfl := Option.some.inj hf
            exact r_ret1 h rfl (rv_tmp h rfl) ⟨_, [], _, rfl, ⟨rfl, rfl, trivial⟩, rfl, up79, (h.m.pick [0] _ (by decide) rfl)⟩
end Go.Proofs.Ytoimllmmlbehgaa
