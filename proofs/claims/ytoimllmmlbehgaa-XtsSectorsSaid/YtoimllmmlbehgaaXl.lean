/- Xl: Go functions as plain functions, and that they are so (written by xt.py). -/
import Derived.Test.YtoimllmmlbehgaaXk
import Derived.Test.YtoimllmmlbehgaaXr
set_option linter.unusedVariables false
set_option linter.unusedSimpArgs false
namespace Go.Proofs.Ytoimllmmlbehgaa
open Go.RowKit
def chatelainelaw10_XtsSectors (Fu : Nat) (a0 : List UInt8) (a1 : Int) (a2 : List UInt8) : Option Bool :=
  (chatelainelaw10_awake Fu).bind fun x1 => if (!x1) = true then (some false) else (if ((decide (100 < (a0.length : Int))) || (decide (200 < (a2.length : Int)))) = true then (some true) else ((xts_New Fu a0).bind fun x6 => (match x6 with | .inl x12 => ((chatelainelaw10_right Fu a0).bind fun x14 => if (!x14) = true then ((xts_Sector_Encrypt_nil0 Fu a1 a2).bind fun x17 => (xts_Sector_Decrypt_nil0 Fu a1 a2).bind fun x27 => some (((((decide (x12 = 20)) && true) && (decide (x17.2 = 1))) && (decide (x27.2 = 1))) && (decide (w64 ((x17.1.length : Int) + (x27.1.length : Int)) = 0)))) else (if x12 ≠ 0 then (some false) else ((xts_Sector_Encrypt_nil0 Fu a1 a2).bind fun x45 => (xts_Sector_Decrypt_nil0 Fu a1 a2).bind fun x55 => if ((((decide (a1 < 0)) || (decide (4611686018427387904 < a1))) || (decide ((a2.length : Int) = 0))) || (decide (Int.tmod (a2.length : Int) 16 ≠ 0))) = true then (some (((decide (x45.2 = 2)) && (decide (x55.2 = 2))) && (decide (w64 ((x45.1.length : Int) + (x55.1.length : Int)) = 0)))) else ((xts_Sector_Decrypt_nil0 Fu a1 x45.1).bind fun x75 => (if (((decide (x45.2 = 0)) && (decide (x55.2 = 0))) && (decide (x75.2 = 0))) = true then (chatelaineref10_Encrypt Fu a0 a1 a2).bind fun x91 => (chatelaineref01_Same Fu x45.1 x91).bind fun x99 => some x99 else some false).bind fun z89 => (if z89 = true then (chatelaineref01_Same Fu x75.1 a2).bind fun x105 => some x105 else some false).bind fun z103 => (if z103 = true then (chatelaineref10_Encrypt Fu a0 a1 x55.1).bind fun x111 => (chatelaineref01_Same Fu x111 a2).bind fun x119 => some x119 else some false).bind fun z109 => some z109)))) | .inr x122 => ((chatelainelaw10_right Fu a0).bind fun x126 => if (!x126) = true then ((xts_Sector_Encrypt Fu x122.1 a1 a2).bind fun x129 => (xts_Sector_Decrypt Fu x122.1 a1 a2).bind fun x139 => some false) else (if x122.2 ≠ 0 then (some false) else ((xts_Sector_Encrypt Fu x122.1 a1 a2).bind fun x156 => (xts_Sector_Decrypt Fu x122.1 a1 a2).bind fun x166 => if ((((decide (a1 < 0)) || (decide (4611686018427387904 < a1))) || (decide ((a2.length : Int) = 0))) || (decide (Int.tmod (a2.length : Int) 16 ≠ 0))) = true then (some (((decide (x156.2 = 2)) && (decide (x166.2 = 2))) && (decide (w64 ((x156.1.length : Int) + (x166.1.length : Int)) = 0)))) else ((xts_Sector_Decrypt Fu x122.1 a1 x156.1).bind fun x186 => (if (((decide (x156.2 = 0)) && (decide (x166.2 = 0))) && (decide (x186.2 = 0))) = true then (chatelaineref10_Encrypt Fu a0 a1 a2).bind fun x202 => (chatelaineref01_Same Fu x156.1 x202).bind fun x210 => some x210 else some false).bind fun z200 => (if z200 = true then (chatelaineref01_Same Fu x186.1 a2).bind fun x216 => some x216 else some false).bind fun z214 => (if z214 = true then (chatelaineref10_Encrypt Fu a0 a1 x166.1).bind fun x222 => (chatelaineref01_Same Fu x222 a2).bind fun x230 => some x230 else some false).bind fun z220 => some z220)))))))
set_option maxRecDepth 100000 in
set_option maxHeartbeats 2000000 in
theorem chatelainelaw10_XtsSectors_ok (Fu : Nat) {S0 : Snap} (Aa0 : Option Addr) (ca0 : Nat) (a0 : List UInt8) (hsa0 : slS ty8 S0 Aa0 ca0 a0) (a1 : Int) (hra1 : r64 a1) (Aa2 : Option Addr) (ca2 : Nat) (a2 : List UInt8) (hsa2 : slS ty8 S0 Aa2 ca2 a2) (r : Bool) (hf : chatelainelaw10_XtsSectors Fu a0 a1 a2 = some r) (w0 : World) (hm : Mem w0 (ownL ([] ++ [.sn S0])) ([] ++ [.sn S0]) w0) :
    Calls Try.prog 11 #[.slice Aa0 a0.length ca0, .int .i64 a1, .slice Aa2 a2.length ca2] w0 (Ret w0 S0 [] (fun v L1 S1 => v = .bool r ∧ L1 = [] ∧ True)) := by
  unfold chatelainelaw10_XtsSectors at hf
  refine c_enterM Try.func11 rfl 158 rfl (by simp) _ hm _ rfl (fun a h => ?_)
  refine c_rs ?_ -- region 0
  refine s_assign h rfl _ rfl rfl (by decide) rfl (fun a h => ?_)
  refine l_end ?_
  refine wp_seq ?_
  refine c_rs ?_ -- region 1
  obtain ⟨x1, h2, hf⟩ := bsome hf
  have hX := chatelainelaw10_awake_ok Fu (S0 := snapAll _)  _ h2 _ h.startAll
  refine q_callX hX h rfl rfl rfl (by decide) Try.func28 rfl rfl rfl (fun a w v L1 S1 hR hb1 h => ?_)
  obtain ⟨rfl, rfl, _⟩ := hR
  refine s_x h rfl rfl (by decide) (x_not h.k rfl rfl) (fun a h => ?_)
  refine l_end ?_
  refine c_cond h rfl (fun hb => ?_) (fun hb => ?_)
  · rw [if_pos hb] at hf
    refine c_rs ?_ -- region 2
    refine s_assign h rfl _ rfl rfl (by decide) rfl (fun a h => ?_)
    refine l_end ?_
    refine wp_ret ?_
    refine e_thenR ?_
    rw [← Option.some.inj hf]
    exact r_ret1 h rfl (rv_tmp h rfl) ⟨_, [], _, rfl, ⟨rfl, rfl, trivial⟩, rfl, (Up.refl _ _ _), h.m⟩
  · rw [if_neg (by rw [hb]; decide)] at hf
    refine wp_skip ?_
    refine e_thenN ?_
    refine wp_seq ?_
    refine c_rs ?_ -- region 3
    refine s_move h rfl _ rfl rfl (by decide) rfl (fun a h => ?_)
    refine s_x h rfl rfl (by decide) (x_len h.k rfl Try.underlying22 rfl) (fun a h => ?_)
    refine s_x h rfl rfl (by decide) (x_bin h.k rfl rfl rfl ib_gtr) (fun a h => ?_)
    refine s_move h rfl _ rfl rfl (by decide) rfl (fun a h => ?_)
    refine q_grp h 4 (t := 24) 28 ((decide (100 < (a0.length : Int))) || (decide (200 < (a2.length : Int)))) rfl (fun hB3 => ?_) (fun hB3 => ?_) (fun a w h => ?_)
    · refine g_no h rfl rfl rfl rfl hB3 rfl (by decide) (fun a h => ?_)
      refine g_no h rfl rfl rfl rfl hB3 rfl (by decide) (fun a h => ?_)
      refine g_no h rfl rfl rfl rfl hB3 rfl (by decide) (fun a h => ?_)
      refine s_x h rfl rfl (by decide) (x_pick (u' := undef) h.k rfl rfl (fun _ => rfl) (fun hh => absurd (hB3.symm.trans hh) (by decide))) (fun a h => ?_)
      exact (h.mid 3 rfl).val (by first | rfl | (rw [hB3]; first | rfl | simp))
    · refine g_yes h rfl rfl rfl rfl hB3 ?_
      refine s_move h rfl _ rfl rfl (by decide) rfl (fun a h => ?_)
      refine g_yes h rfl rfl rfl rfl hB3 ?_
      refine s_x h rfl rfl (by decide) (x_len h.k rfl Try.underlying22 rfl) (fun a h => ?_)
      refine g_yes h rfl rfl rfl rfl hB3 ?_
      refine s_x h rfl rfl (by decide) (x_bin h.k rfl rfl rfl ib_gtr) (fun a h => ?_)
      refine s_x h rfl rfl (by decide) (x_pick (u' := undef) h.k rfl rfl (fun hh => absurd (hB3.symm.trans hh) (by decide)) (fun _ => rfl)) (fun a h => ?_)
      exact (h.mid 3 rfl).val (by first | rfl | (rw [hB3]; first | rfl | simp))
    refine l_end ?_
    refine c_cond h rfl (fun hb => ?_) (fun hb => ?_)
    · rw [if_pos hb] at hf
      refine c_rs ?_ -- region 4
      refine s_assign h rfl _ rfl rfl (by decide) rfl (fun a h => ?_)
      refine l_end ?_
      refine wp_ret ?_
      refine e_thenR ?_
      rw [← Option.some.inj hf]
      exact r_ret1 h rfl (rv_tmp h rfl) ⟨_, [], _, rfl, ⟨rfl, rfl, trivial⟩, rfl, (Up.refl _ _ _), h.m⟩
    · rw [if_neg (by rw [hb]; decide)] at hf
      refine wp_skip ?_
      refine e_thenN ?_
      refine c_rs ?_ -- region 5
      refine s_move h rfl _ rfl rfl (by decide) rfl (fun a h => ?_)
      obtain ⟨x6, h7, hf⟩ := bsome hf
      have hX := xts_New_ok Fu (S0 := S0) Aa0 ca0 a0 hsa0 _ h7 _ (h.sub (Ls := []))
      refine q_callY (Ls := []) hX h (Up.refl _ _ _) rfl rfl rfl (by decide) Try.func29 rfl rfl rfl (fun a w v L1 S9 hR le11 up10 h => ?_)
      rcases hR with hR | hR
      · obtain ⟨x12, rfl, hR⟩ := hR
        dsimp only at hf
        obtain ⟨rfl, rfl, hr13, _⟩ := hR
        refine s_move h rfl _ rfl rfl (by decide) rfl (fun a h => ?_)
        refine s_x h rfl rfl (by decide) (x_ext h.k rfl rfl rfl) (fun a h => ?_)
        refine s_x h rfl rfl (by decide) (x_ext h.k rfl rfl rfl) (fun a h => ?_)
        refine s_assign h rfl _ rfl rfl (by decide) rfl (fun a h => ?_)
        refine s_assign h rfl _ rfl rfl (by decide) rfl (fun a h => ?_)
        refine l_end ?_
        refine wp_seq ?_
        refine c_rs ?_ -- region 6
        refine s_move h rfl _ rfl rfl (by decide) rfl (fun a h => ?_)
        obtain ⟨x14, h15, hf⟩ := bsome hf
        have hX := chatelainelaw10_right_ok Fu (S0 := snapAll _) Aa0 ca0 a0 ((hsa0.mono le11).mono (h.m.leAll (i := 0) rfl)) _ h15 _ h.startAll
        refine q_callX hX h rfl rfl rfl (by decide) Try.func32 rfl rfl rfl (fun a w v L1 S1 hR hb1 h => ?_)
        obtain ⟨rfl, rfl, _⟩ := hR
        refine s_x h rfl rfl (by decide) (x_not h.k rfl rfl) (fun a h => ?_)
        refine l_end ?_
        refine c_cond h rfl (fun hb => ?_) (fun hb => ?_)
        · rw [if_pos hb] at hf
          refine c_rs ?_ -- region 7
          refine s_move h rfl _ rfl rfl (by decide) rfl (fun a h => ?_)
          refine s_move h rfl _ rfl rfl (by decide) rfl (fun a h => ?_)
          refine s_move h rfl _ rfl rfl (by decide) rfl (fun a h => ?_)
          obtain ⟨x17, h18, hf⟩ := bsome hf
          have hX := xts_Sector_Encrypt_nil0_ok Fu (S0 := S9) a1 hra1 Aa2 ca2 a2 (hsa2.mono le11) _ h18 _ (h.sub (Ls := []))
          refine q_callY (Ls := []) hX h up10 rfl rfl rfl (by decide) Try.func31 rfl rfl rfl (fun a w v L1 S20 hR le22 up21 h => ?_)
          obtain ⟨A23, c24, rfl, rfl, hs25, hr26, _⟩ := hR
          refine s_move h rfl _ rfl rfl (by decide) rfl (fun a h => ?_)
          refine s_x h rfl rfl (by decide) (x_ext h.k rfl rfl rfl) (fun a h => ?_)
          refine s_x h rfl rfl (by decide) (x_ext h.k rfl rfl rfl) (fun a h => ?_)
          refine s_assign h rfl _ rfl rfl (by decide) rfl (fun a h => ?_)
          refine s_assign h rfl _ rfl rfl (by decide) rfl (fun a h => ?_)
          refine l_end ?_
          refine c_rs ?_ -- region 8
          refine s_move h rfl _ rfl rfl (by decide) rfl (fun a h => ?_)
          refine s_move h rfl _ rfl rfl (by decide) rfl (fun a h => ?_)
          refine s_move h rfl _ rfl rfl (by decide) rfl (fun a h => ?_)
          obtain ⟨x27, h28, hf⟩ := bsome hf
          have hX := xts_Sector_Decrypt_nil0_ok Fu (S0 := snapAll _) a1 hra1 Aa2 ca2 a2 ((hsa2.mono (le11.trans le22)).mono (h.m.leAll (i := 0) rfl)) _ h28 _ h.startAll
          refine q_callX hX h rfl rfl rfl (by decide) Try.func35 rfl rfl rfl (fun a w v L1 S1 hR hb1 h => ?_)
          obtain ⟨A30, c31, cs32, rfl, rfl, hq33, hr34, _⟩ := hR
          have hq35 := hq33.fl (S' := S20) fl_8
          refine s_move h rfl _ rfl rfl (by decide) rfl (fun a h => ?_)
          refine s_x h rfl rfl (by decide) (x_ext h.k rfl rfl rfl) (fun a h => ?_)
          refine s_x h rfl rfl (by decide) (x_ext h.k rfl rfl rfl) (fun a h => ?_)
          refine s_assign h rfl _ rfl rfl (by decide) rfl (fun a h => ?_)
          refine s_assign h rfl _ rfl rfl (by decide) rfl (fun a h => ?_)
          refine l_end ?_
          refine c_rs ?_ -- region 9
          refine s_move h rfl _ rfl rfl (by decide) rfl (fun a h => ?_)
          refine s_x h rfl rfl (by decide) (x_bin h.k rfl rfl rfl ib_eql) (fun a h => ?_)
          refine s_move h rfl _ rfl rfl (by decide) rfl (fun a h => ?_)
          refine q_grp h 3 (t := 53) 56 ((decide (x12 = 20)) && true) rfl (fun hB2 => ?_) (fun hB2 => ?_) (fun a w h => ?_)
          · refine g_yes h rfl rfl rfl rfl hB2 ?_
            refine s_move h rfl _ rfl rfl (by decide) rfl (fun a h => ?_)
            refine g_yes h rfl rfl rfl rfl hB2 ?_
            refine s_x h rfl rfl (by decide) (x_eql_nn h.k rfl Try.underlying54 rfl rfl) (fun a h => ?_)
            refine s_x h rfl rfl (by decide) (x_pick (u' := undef) h.k rfl rfl (fun _ => rfl) (fun hh => absurd (hB2.symm.trans hh) (by decide))) (fun a h => ?_)
            exact (h.mid 2 rfl).val (by first | rfl | (rw [hB2]; first | rfl | simp))
          · refine g_no h rfl rfl rfl rfl hB2 rfl (by decide) (fun a h => ?_)
            refine g_no h rfl rfl rfl rfl hB2 rfl (by decide) (fun a h => ?_)
            refine s_x h rfl rfl (by decide) (x_pick (u' := undef) h.k rfl rfl (fun hh => absurd (hB2.symm.trans hh) (by decide)) (fun _ => rfl)) (fun a h => ?_)
            exact (h.mid 2 rfl).val (by first | rfl | (rw [hB2]; first | rfl | simp))
          refine s_move h rfl _ rfl rfl (by decide) rfl (fun a h => ?_)
          refine q_grp h 3 (t := 57) 60 (((decide (x12 = 20)) && true) && (decide (x17.2 = 1))) rfl (fun hB6 => ?_) (fun hB6 => ?_) (fun a w h => ?_)
          · refine g_yes h rfl rfl rfl rfl hB6 ?_
            refine s_move h rfl _ rfl rfl (by decide) rfl (fun a h => ?_)
            refine g_yes h rfl rfl rfl rfl hB6 ?_
            refine s_x h rfl rfl (by decide) (x_bin h.k rfl rfl rfl ib_eql) (fun a h => ?_)
            refine s_x h rfl rfl (by decide) (x_pick (u' := undef) h.k rfl rfl (fun _ => rfl) (fun hh => absurd (hB6.symm.trans hh) (by decide))) (fun a h => ?_)
            exact (h.mid 2 rfl).val (by first | rfl | (rw [hB6]; first | rfl | simp))
          · refine g_no h rfl rfl rfl rfl hB6 rfl (by decide) (fun a h => ?_)
            refine g_no h rfl rfl rfl rfl hB6 rfl (by decide) (fun a h => ?_)
            refine s_x h rfl rfl (by decide) (x_pick (u' := undef) h.k rfl rfl (fun hh => absurd (hB6.symm.trans hh) (by decide)) (fun _ => rfl)) (fun a h => ?_)
            exact (h.mid 2 rfl).val (by first | rfl | (rw [hB6]; first | rfl | simp))
          refine s_move h rfl _ rfl rfl (by decide) rfl (fun a h => ?_)
          refine q_grp h 3 (t := 61) 64 ((((decide (x12 = 20)) && true) && (decide (x17.2 = 1))) && (decide (x27.2 = 1))) rfl (fun hB10 => ?_) (fun hB10 => ?_) (fun a w h => ?_)
          · refine g_yes h rfl rfl rfl rfl hB10 ?_
            refine s_move h rfl _ rfl rfl (by decide) rfl (fun a h => ?_)
            refine g_yes h rfl rfl rfl rfl hB10 ?_
            refine s_x h rfl rfl (by decide) (x_bin h.k rfl rfl rfl ib_eql) (fun a h => ?_)
            refine s_x h rfl rfl (by decide) (x_pick (u' := undef) h.k rfl rfl (fun _ => rfl) (fun hh => absurd (hB10.symm.trans hh) (by decide))) (fun a h => ?_)
            exact (h.mid 2 rfl).val (by first | rfl | (rw [hB10]; first | rfl | simp))
          · refine g_no h rfl rfl rfl rfl hB10 rfl (by decide) (fun a h => ?_)
            refine g_no h rfl rfl rfl rfl hB10 rfl (by decide) (fun a h => ?_)
            refine s_x h rfl rfl (by decide) (x_pick (u' := undef) h.k rfl rfl (fun hh => absurd (hB10.symm.trans hh) (by decide)) (fun _ => rfl)) (fun a h => ?_)
            exact (h.mid 2 rfl).val (by first | rfl | (rw [hB10]; first | rfl | simp))
          refine s_move h rfl _ rfl rfl (by decide) rfl (fun a h => ?_)
          refine q_grp h 7 (t := 65) 72 (((((decide (x12 = 20)) && true) && (decide (x17.2 = 1))) && (decide (x27.2 = 1))) && (decide (w64 ((x17.1.length : Int) + (x27.1.length : Int)) = 0))) rfl (fun hB14 => ?_) (fun hB14 => ?_) (fun a w h => ?_)
          · refine g_yes h rfl rfl rfl rfl hB14 ?_
            refine s_move h rfl _ rfl rfl (by decide) rfl (fun a h => ?_)
            refine g_yes h rfl rfl rfl rfl hB14 ?_
            refine s_x h rfl rfl (by decide) (x_len h.k rfl Try.underlying22 rfl) (fun a h => ?_)
            refine g_yes h rfl rfl rfl rfl hB14 ?_
            refine s_move h rfl _ rfl rfl (by decide) rfl (fun a h => ?_)
            refine g_yes h rfl rfl rfl rfl hB14 ?_
            have hr44 : r64 (x27.1.length : Int) := len_r (h.m.rowLen (i := 0) rfl)
            refine s_x h rfl rfl (by decide) (x_len h.k rfl Try.underlying22 rfl) (fun a h => ?_)
            refine g_yes h rfl rfl rfl rfl hB14 ?_
            refine s_x h rfl rfl (by decide) (x_bin h.k rfl rfl rfl (ib_add rfl)) (fun a h => ?_)
            refine g_yes h rfl rfl rfl rfl hB14 ?_
            refine s_x h rfl rfl (by decide) (x_bin h.k rfl rfl rfl ib_eql) (fun a h => ?_)
            refine s_x h rfl rfl (by decide) (x_pick (u' := undef) h.k rfl rfl (fun _ => rfl) (fun hh => absurd (hB14.symm.trans hh) (by decide))) (fun a h => ?_)
            exact (h.mid 6 rfl).val (by first | rfl | (rw [hB14]; first | rfl | simp))
          · refine g_no h rfl rfl rfl rfl hB14 rfl (by decide) (fun a h => ?_)
            refine g_no h rfl rfl rfl rfl hB14 rfl (by decide) (fun a h => ?_)
            refine g_no h rfl rfl rfl rfl hB14 rfl (by decide) (fun a h => ?_)
            refine g_no h rfl rfl rfl rfl hB14 rfl (by decide) (fun a h => ?_)
            refine g_no h rfl rfl rfl rfl hB14 rfl (by decide) (fun a h => ?_)
            refine g_no h rfl rfl rfl rfl hB14 rfl (by decide) (fun a h => ?_)
            refine s_x h rfl rfl (by decide) (x_pick (u' := undef) h.k rfl rfl (fun hh => absurd (hB14.symm.trans hh) (by decide)) (fun _ => rfl)) (fun a h => ?_)
            exact (h.mid 6 rfl).val (by first | rfl | (rw [hB14]; first | rfl | simp))
          refine s_assign h rfl _ rfl rfl (by decide) rfl (fun a h => ?_)
          refine l_end ?_
          refine wp_ret ?_
          refine e_thenR ?_
          obtain rfl := Option.some.inj hf
          exact r_ret1 h rfl (rv_tmp h rfl) ⟨_, [], _, rfl, ⟨rfl, rfl, trivial⟩, rfl, up21, (h.m.pick [1] _ (by decide) rfl)⟩
        · rw [if_neg (by rw [hb]; decide)] at hf
          refine wp_skip ?_
          refine e_thenN ?_
          refine wp_seq ?_
          refine c_rs ?_ -- region 10
          refine s_move h rfl _ rfl rfl (by decide) rfl (fun a h => ?_)
          refine s_x h rfl rfl (by decide) (x_bin h.k rfl rfl rfl ib_neq) (fun a h => ?_)
          refine l_end ?_
          refine c_cond h rfl (fun hb => ?_) (fun hb => ?_)
          · rw [if_pos (of_decide_eq_true hb)] at hf
            refine c_rs ?_ -- region 11
            refine s_assign h rfl _ rfl rfl (by decide) rfl (fun a h => ?_)
            refine l_end ?_
            refine wp_ret ?_
            refine e_thenR ?_
            rw [← Option.some.inj hf]
            exact r_ret1 h rfl (rv_tmp h rfl) ⟨_, [], _, rfl, ⟨rfl, rfl, trivial⟩, rfl, up10, h.m⟩
          · rw [if_neg (of_decide_eq_false hb)] at hf
            refine wp_skip ?_
            refine e_thenN ?_
            refine c_rs ?_ -- region 12
            refine s_move h rfl _ rfl rfl (by decide) rfl (fun a h => ?_)
            refine s_move h rfl _ rfl rfl (by decide) rfl (fun a h => ?_)
            refine s_move h rfl _ rfl rfl (by decide) rfl (fun a h => ?_)
            obtain ⟨x45, h46, hf⟩ := bsome hf
            have hX := xts_Sector_Encrypt_nil0_ok Fu (S0 := S9) a1 hra1 Aa2 ca2 a2 (hsa2.mono le11) _ h46 _ (h.sub (Ls := []))
            refine q_callY (Ls := []) hX h up10 rfl rfl rfl (by decide) Try.func31 rfl rfl rfl (fun a w v L1 S48 hR le50 up49 h => ?_)
            obtain ⟨A51, c52, rfl, rfl, hs53, hr54, _⟩ := hR
            refine s_move h rfl _ rfl rfl (by decide) rfl (fun a h => ?_)
            refine s_x h rfl rfl (by decide) (x_ext h.k rfl rfl rfl) (fun a h => ?_)
            refine s_x h rfl rfl (by decide) (x_ext h.k rfl rfl rfl) (fun a h => ?_)
            refine s_assign h rfl _ rfl rfl (by decide) rfl (fun a h => ?_)
            refine s_assign h rfl _ rfl rfl (by decide) rfl (fun a h => ?_)
            refine l_end ?_
            refine c_rs ?_ -- region 13
            refine s_move h rfl _ rfl rfl (by decide) rfl (fun a h => ?_)
            refine s_move h rfl _ rfl rfl (by decide) rfl (fun a h => ?_)
            refine s_move h rfl _ rfl rfl (by decide) rfl (fun a h => ?_)
            obtain ⟨x55, h56, hf⟩ := bsome hf
            have hX := xts_Sector_Decrypt_nil0_ok Fu (S0 := snapAll _) a1 hra1 Aa2 ca2 a2 ((hsa2.mono (le11.trans le50)).mono (h.m.leAll (i := 0) rfl)) _ h56 _ h.startAll
            refine q_callX hX h rfl rfl rfl (by decide) Try.func35 rfl rfl rfl (fun a w v L1 S1 hR hb1 h => ?_)
            obtain ⟨A58, c59, cs60, rfl, rfl, hq61, hr62, _⟩ := hR
            have hq63 := hq61.fl (S' := S48) fl_8
            refine s_move h rfl _ rfl rfl (by decide) rfl (fun a h => ?_)
            refine s_x h rfl rfl (by decide) (x_ext h.k rfl rfl rfl) (fun a h => ?_)
            refine s_x h rfl rfl (by decide) (x_ext h.k rfl rfl rfl) (fun a h => ?_)
            refine s_assign h rfl _ rfl rfl (by decide) rfl (fun a h => ?_)
            refine s_assign h rfl _ rfl rfl (by decide) rfl (fun a h => ?_)
            refine l_end ?_
            refine wp_seq ?_
            refine c_rs ?_ -- region 14
            refine s_move h rfl _ rfl rfl (by decide) rfl (fun a h => ?_)
            refine s_x h rfl rfl (by decide) (x_bin h.k rfl rfl rfl ib_lss) (fun a h => ?_)
            refine s_move h rfl _ rfl rfl (by decide) rfl (fun a h => ?_)
            refine q_grp h 3 (t := 91) 94 ((decide (a1 < 0)) || (decide (4611686018427387904 < a1))) rfl (fun hB2 => ?_) (fun hB2 => ?_) (fun a w h => ?_)
            · refine g_no h rfl rfl rfl rfl hB2 rfl (by decide) (fun a h => ?_)
              refine g_no h rfl rfl rfl rfl hB2 rfl (by decide) (fun a h => ?_)
              refine s_x h rfl rfl (by decide) (x_pick (u' := undef) h.k rfl rfl (fun _ => rfl) (fun hh => absurd (hB2.symm.trans hh) (by decide))) (fun a h => ?_)
              exact (h.mid 2 rfl).val (by first | rfl | (rw [hB2]; first | rfl | simp))
            · refine g_yes h rfl rfl rfl rfl hB2 ?_
              refine s_move h rfl _ rfl rfl (by decide) rfl (fun a h => ?_)
              refine g_yes h rfl rfl rfl rfl hB2 ?_
              refine s_x h rfl rfl (by decide) (x_bin h.k rfl rfl rfl ib_gtr) (fun a h => ?_)
              refine s_x h rfl rfl (by decide) (x_pick (u' := undef) h.k rfl rfl (fun hh => absurd (hB2.symm.trans hh) (by decide)) (fun _ => rfl)) (fun a h => ?_)
              exact (h.mid 2 rfl).val (by first | rfl | (rw [hB2]; first | rfl | simp))
            refine s_move h rfl _ rfl rfl (by decide) rfl (fun a h => ?_)
            refine q_grp h 4 (t := 95) 99 (((decide (a1 < 0)) || (decide (4611686018427387904 < a1))) || (decide ((a2.length : Int) = 0))) rfl (fun hB6 => ?_) (fun hB6 => ?_) (fun a w h => ?_)
            · refine g_no h rfl rfl rfl rfl hB6 rfl (by decide) (fun a h => ?_)
              refine g_no h rfl rfl rfl rfl hB6 rfl (by decide) (fun a h => ?_)
              refine g_no h rfl rfl rfl rfl hB6 rfl (by decide) (fun a h => ?_)
              refine s_x h rfl rfl (by decide) (x_pick (u' := undef) h.k rfl rfl (fun _ => rfl) (fun hh => absurd (hB6.symm.trans hh) (by decide))) (fun a h => ?_)
              exact (h.mid 3 rfl).val (by first | rfl | (rw [hB6]; first | rfl | simp))
            · refine g_yes h rfl rfl rfl rfl hB6 ?_
              refine s_move h rfl _ rfl rfl (by decide) rfl (fun a h => ?_)
              refine g_yes h rfl rfl rfl rfl hB6 ?_
              refine s_x h rfl rfl (by decide) (x_len h.k rfl Try.underlying22 rfl) (fun a h => ?_)
              refine g_yes h rfl rfl rfl rfl hB6 ?_
              refine s_x h rfl rfl (by decide) (x_bin h.k rfl rfl rfl ib_eql) (fun a h => ?_)
              refine s_x h rfl rfl (by decide) (x_pick (u' := undef) h.k rfl rfl (fun hh => absurd (hB6.symm.trans hh) (by decide)) (fun _ => rfl)) (fun a h => ?_)
              exact (h.mid 3 rfl).val (by first | rfl | (rw [hB6]; first | rfl | simp))
            refine s_move h rfl _ rfl rfl (by decide) rfl (fun a h => ?_)
            refine q_grp h 5 (t := 100) 105 ((((decide (a1 < 0)) || (decide (4611686018427387904 < a1))) || (decide ((a2.length : Int) = 0))) || (decide (Int.tmod (a2.length : Int) 16 ≠ 0))) rfl (fun hB11 => ?_) (fun hB11 => ?_) (fun a w h => ?_)
            · refine g_no h rfl rfl rfl rfl hB11 rfl (by decide) (fun a h => ?_)
              refine g_no h rfl rfl rfl rfl hB11 rfl (by decide) (fun a h => ?_)
              refine g_no h rfl rfl rfl rfl hB11 rfl (by decide) (fun a h => ?_)
              refine g_no h rfl rfl rfl rfl hB11 rfl (by decide) (fun a h => ?_)
              refine s_x h rfl rfl (by decide) (x_pick (u' := undef) h.k rfl rfl (fun _ => rfl) (fun hh => absurd (hB11.symm.trans hh) (by decide))) (fun a h => ?_)
              exact (h.mid 4 rfl).val (by first | rfl | (rw [hB11]; first | rfl | simp))
            · refine g_yes h rfl rfl rfl rfl hB11 ?_
              refine s_move h rfl _ rfl rfl (by decide) rfl (fun a h => ?_)
              refine g_yes h rfl rfl rfl rfl hB11 ?_
              refine s_x h rfl rfl (by decide) (x_len h.k rfl Try.underlying22 rfl) (fun a h => ?_)
              refine g_yes h rfl rfl rfl rfl hB11 ?_
              refine s_x h rfl rfl (by decide) (x_bin h.k rfl rfl rfl (ib_remw (by decide))) (fun a h => ?_)
              refine g_yes h rfl rfl rfl rfl hB11 ?_
              refine s_x h rfl rfl (by decide) (x_bin h.k rfl rfl rfl ib_neq) (fun a h => ?_)
              refine s_x h rfl rfl (by decide) (x_pick (u' := undef) h.k rfl rfl (fun hh => absurd (hB11.symm.trans hh) (by decide)) (fun _ => rfl)) (fun a h => ?_)
              exact (h.mid 4 rfl).val (by first | rfl | (rw [hB11]; first | rfl | simp))
            refine l_end ?_
            refine c_cond h rfl (fun hb => ?_) (fun hb => ?_)
            · rw [if_pos hb] at hf
              refine c_rs ?_ -- region 15
              refine s_move h rfl _ rfl rfl (by decide) rfl (fun a h => ?_)
              refine s_x h rfl rfl (by decide) (x_bin h.k rfl rfl rfl ib_eql) (fun a h => ?_)
              refine s_move h rfl _ rfl rfl (by decide) rfl (fun a h => ?_)
              refine q_grp h 3 (t := 108) 111 ((decide (x45.2 = 2)) && (decide (x55.2 = 2))) rfl (fun hB2 => ?_) (fun hB2 => ?_) (fun a w h => ?_)
              · refine g_yes h rfl rfl rfl rfl hB2 ?_
                refine s_move h rfl _ rfl rfl (by decide) rfl (fun a h => ?_)
                refine g_yes h rfl rfl rfl rfl hB2 ?_
                refine s_x h rfl rfl (by decide) (x_bin h.k rfl rfl rfl ib_eql) (fun a h => ?_)
                refine s_x h rfl rfl (by decide) (x_pick (u' := undef) h.k rfl rfl (fun _ => rfl) (fun hh => absurd (hB2.symm.trans hh) (by decide))) (fun a h => ?_)
                exact (h.mid 2 rfl).val (by first | rfl | (rw [hB2]; first | rfl | simp))
              · refine g_no h rfl rfl rfl rfl hB2 rfl (by decide) (fun a h => ?_)
                refine g_no h rfl rfl rfl rfl hB2 rfl (by decide) (fun a h => ?_)
                refine s_x h rfl rfl (by decide) (x_pick (u' := undef) h.k rfl rfl (fun hh => absurd (hB2.symm.trans hh) (by decide)) (fun _ => rfl)) (fun a h => ?_)
                exact (h.mid 2 rfl).val (by first | rfl | (rw [hB2]; first | rfl | simp))
              refine s_move h rfl _ rfl rfl (by decide) rfl (fun a h => ?_)
              refine q_grp h 7 (t := 112) 119 (((decide (x45.2 = 2)) && (decide (x55.2 = 2))) && (decide (w64 ((x45.1.length : Int) + (x55.1.length : Int)) = 0))) rfl (fun hB6 => ?_) (fun hB6 => ?_) (fun a w h => ?_)
              · refine g_yes h rfl rfl rfl rfl hB6 ?_
                refine s_move h rfl _ rfl rfl (by decide) rfl (fun a h => ?_)
                refine g_yes h rfl rfl rfl rfl hB6 ?_
                refine s_x h rfl rfl (by decide) (x_len h.k rfl Try.underlying22 rfl) (fun a h => ?_)
                refine g_yes h rfl rfl rfl rfl hB6 ?_
                refine s_move h rfl _ rfl rfl (by decide) rfl (fun a h => ?_)
                refine g_yes h rfl rfl rfl rfl hB6 ?_
                have hr74 : r64 (x55.1.length : Int) := len_r (h.m.rowLen (i := 0) rfl)
                refine s_x h rfl rfl (by decide) (x_len h.k rfl Try.underlying22 rfl) (fun a h => ?_)
                refine g_yes h rfl rfl rfl rfl hB6 ?_
                refine s_x h rfl rfl (by decide) (x_bin h.k rfl rfl rfl (ib_add rfl)) (fun a h => ?_)
                refine g_yes h rfl rfl rfl rfl hB6 ?_
                refine s_x h rfl rfl (by decide) (x_bin h.k rfl rfl rfl ib_eql) (fun a h => ?_)
                refine s_x h rfl rfl (by decide) (x_pick (u' := undef) h.k rfl rfl (fun _ => rfl) (fun hh => absurd (hB6.symm.trans hh) (by decide))) (fun a h => ?_)
                exact (h.mid 6 rfl).val (by first | rfl | (rw [hB6]; first | rfl | simp))
              · refine g_no h rfl rfl rfl rfl hB6 rfl (by decide) (fun a h => ?_)
                refine g_no h rfl rfl rfl rfl hB6 rfl (by decide) (fun a h => ?_)
                refine g_no h rfl rfl rfl rfl hB6 rfl (by decide) (fun a h => ?_)
                refine g_no h rfl rfl rfl rfl hB6 rfl (by decide) (fun a h => ?_)
                refine g_no h rfl rfl rfl rfl hB6 rfl (by decide) (fun a h => ?_)
                refine g_no h rfl rfl rfl rfl hB6 rfl (by decide) (fun a h => ?_)
                refine s_x h rfl rfl (by decide) (x_pick (u' := undef) h.k rfl rfl (fun hh => absurd (hB6.symm.trans hh) (by decide)) (fun _ => rfl)) (fun a h => ?_)
                exact (h.mid 6 rfl).val (by first | rfl | (rw [hB6]; first | rfl | simp))
              refine s_assign h rfl _ rfl rfl (by decide) rfl (fun a h => ?_)
              refine l_end ?_
              refine wp_ret ?_
              refine e_thenR ?_
              obtain rfl := Option.some.inj hf
              exact r_ret1 h rfl (rv_tmp h rfl) ⟨_, [], _, rfl, ⟨rfl, rfl, trivial⟩, rfl, up49, (h.m.pick [1] _ (by decide) rfl)⟩
            · rw [if_neg (by rw [hb]; decide)] at hf
              refine wp_skip ?_
              refine e_thenN ?_
              refine c_rs ?_ -- region 16
              refine s_move h rfl _ rfl rfl (by decide) rfl (fun a h => ?_)
              refine s_move h rfl _ rfl rfl (by decide) rfl (fun a h => ?_)
              refine s_move h rfl _ rfl rfl (by decide) rfl (fun a h => ?_)
              obtain ⟨x75, h76, hf⟩ := bsome hf
              have hX := xts_Sector_Decrypt_nil0_ok Fu (S0 := snapAll _) a1 hra1 A51 c52 x45.1 (hs53.mono (h.m.leAll (i := 1) rfl)) _ h76 _ h.startAll
              refine q_callX hX h rfl rfl rfl (by decide) Try.func35 rfl rfl rfl (fun a w v L1 S1 hR hb1 h => ?_)
              obtain ⟨A78, c79, cs80, rfl, rfl, hq81, hr82, _⟩ := hR
              have hq83 := hq81.fl (S' := S48) fl_8
              refine s_move h rfl _ rfl rfl (by decide) rfl (fun a h => ?_)
              refine s_x h rfl rfl (by decide) (x_ext h.k rfl rfl rfl) (fun a h => ?_)
              refine s_x h rfl rfl (by decide) (x_ext h.k rfl rfl rfl) (fun a h => ?_)
              refine s_assign h rfl _ rfl rfl (by decide) rfl (fun a h => ?_)
              refine s_assign h rfl _ rfl rfl (by decide) rfl (fun a h => ?_)
              refine l_end ?_
              refine c_rs ?_ -- region 17
              refine s_move h rfl _ rfl rfl (by decide) rfl (fun a h => ?_)
              refine s_x h rfl rfl (by decide) (x_bin h.k rfl rfl rfl ib_eql) (fun a h => ?_)
              refine s_move h rfl _ rfl rfl (by decide) rfl (fun a h => ?_)
              refine q_grp h 3 (t := 129) 132 ((decide (x45.2 = 0)) && (decide (x55.2 = 0))) rfl (fun hB2 => ?_) (fun hB2 => ?_) (fun a w h => ?_)
              · refine g_yes h rfl rfl rfl rfl hB2 ?_
                refine s_move h rfl _ rfl rfl (by decide) rfl (fun a h => ?_)
                refine g_yes h rfl rfl rfl rfl hB2 ?_
                refine s_x h rfl rfl (by decide) (x_bin h.k rfl rfl rfl ib_eql) (fun a h => ?_)
                refine s_x h rfl rfl (by decide) (x_pick (u' := undef) h.k rfl rfl (fun _ => rfl) (fun hh => absurd (hB2.symm.trans hh) (by decide))) (fun a h => ?_)
                exact (h.mid 2 rfl).val (by first | rfl | (rw [hB2]; first | rfl | simp))
              · refine g_no h rfl rfl rfl rfl hB2 rfl (by decide) (fun a h => ?_)
                refine g_no h rfl rfl rfl rfl hB2 rfl (by decide) (fun a h => ?_)
                refine s_x h rfl rfl (by decide) (x_pick (u' := undef) h.k rfl rfl (fun hh => absurd (hB2.symm.trans hh) (by decide)) (fun _ => rfl)) (fun a h => ?_)
                exact (h.mid 2 rfl).val (by first | rfl | (rw [hB2]; first | rfl | simp))
              refine s_move h rfl _ rfl rfl (by decide) rfl (fun a h => ?_)
              refine q_grp h 3 (t := 133) 136 (((decide (x45.2 = 0)) && (decide (x55.2 = 0))) && (decide (x75.2 = 0))) rfl (fun hB6 => ?_) (fun hB6 => ?_) (fun a w h => ?_)
              · refine g_yes h rfl rfl rfl rfl hB6 ?_
                refine s_move h rfl _ rfl rfl (by decide) rfl (fun a h => ?_)
                refine g_yes h rfl rfl rfl rfl hB6 ?_
                refine s_x h rfl rfl (by decide) (x_bin h.k rfl rfl rfl ib_eql) (fun a h => ?_)
                refine s_x h rfl rfl (by decide) (x_pick (u' := undef) h.k rfl rfl (fun _ => rfl) (fun hh => absurd (hB6.symm.trans hh) (by decide))) (fun a h => ?_)
                exact (h.mid 2 rfl).val (by first | rfl | (rw [hB6]; first | rfl | simp))
              · refine g_no h rfl rfl rfl rfl hB6 rfl (by decide) (fun a h => ?_)
                refine g_no h rfl rfl rfl rfl hB6 rfl (by decide) (fun a h => ?_)
                refine s_x h rfl rfl (by decide) (x_pick (u' := undef) h.k rfl rfl (fun hh => absurd (hB6.symm.trans hh) (by decide)) (fun _ => rfl)) (fun a h => ?_)
                exact (h.mid 2 rfl).val (by first | rfl | (rw [hB6]; first | rfl | simp))
              refine s_move h rfl _ rfl rfl (by decide) rfl (fun a h => ?_)
              obtain ⟨z89, hz88, hf⟩ := bsome hf
              refine q_grp h 7 (t := 137) 144 z89 rfl (fun hB10 => ?_) (fun hB10 => ?_) (fun a w h => ?_)
              · rw [if_pos hB10] at hz88
                refine g_yes h rfl rfl rfl rfl hB10 ?_
                refine s_move h rfl _ rfl rfl (by decide) rfl (fun a h => ?_)
                refine g_yes h rfl rfl rfl rfl hB10 ?_
                refine s_move h rfl _ rfl rfl (by decide) rfl (fun a h => ?_)
                refine g_yes h rfl rfl rfl rfl hB10 ?_
                refine s_move h rfl _ rfl rfl (by decide) rfl (fun a h => ?_)
                refine g_yes h rfl rfl rfl rfl hB10 ?_
                refine s_move h rfl _ rfl rfl (by decide) rfl (fun a h => ?_)
                refine g_yes h rfl rfl rfl rfl hB10 ?_
                obtain ⟨x91, h92, hz88⟩ := bsome hz88
                have hX := chatelaineref10_Encrypt_ok Fu (S0 := snapAll _) Aa0 ca0 a0 ((hsa0.mono (le11.trans le50)).mono (h.m.leAll (i := 2) rfl)) a1 hra1 Aa2 ca2 a2 ((hsa2.mono (le11.trans le50)).mono (h.m.leAll (i := 2) rfl)) _ h92 _ h.startAll
                refine q_callX hX h rfl rfl rfl (by decide) Try.func36 rfl rfl rfl (fun a w v L1 S1 hR hb1 h => ?_)
                obtain ⟨A94, c95, cs96, rfl, rfl, hq97, _⟩ := hR
                have hq98 := hq97.fl (S' := S48) fl_8
                refine g_yes h rfl rfl rfl rfl hB10 ?_
                obtain ⟨x99, h100, hz88⟩ := bsome hz88
                have hX := chatelaineref01_Same_ok Fu (S0 := snapAll _) A51 c52 x45.1 (hs53.mono (h.m.leAll (i := 3) rfl)) A94 c95 x91 (h.m.rowAll (i := 0) rfl (j := 3) rfl hq98) _ h100 _ h.startAll
                refine q_callX hX h rfl rfl rfl (by decide) Try.func25 rfl rfl rfl (fun a w v L1 S1 hR hb1 h => ?_)
                obtain ⟨rfl, rfl, _⟩ := hR
                refine s_x h rfl rfl (by decide) (x_pick (u' := undef) h.k rfl rfl (fun _ => rfl) (fun hh => absurd (hB10.symm.trans hh) (by decide))) (fun a h => ?_)
                have h := h.pick [1, 2, 3] (by decide) rfl
                exact (h.mid 6 rfl).val (by rw [Option.some.inj hz88])
              · refine g_no h rfl rfl rfl rfl hB10 rfl (by decide) (fun a h => ?_)
                refine g_no h rfl rfl rfl rfl hB10 rfl (by decide) (fun a h => ?_)
                refine g_no h rfl rfl rfl rfl hB10 rfl (by decide) (fun a h => ?_)
                refine g_no h rfl rfl rfl rfl hB10 rfl (by decide) (fun a h => ?_)
                refine g_no h rfl rfl rfl rfl hB10 rfl (by decide) (fun a h => ?_)
                refine g_no h rfl rfl rfl rfl hB10 rfl (by decide) (fun a h => ?_)
                rw [if_neg (by rw [hB10]; decide)] at hz88
                refine s_x h rfl rfl (by decide) (x_pick (u' := undef) h.k rfl rfl (fun hh => absurd (hB10.symm.trans hh) (by decide)) (fun _ => rfl)) (fun a h => ?_)
                exact (h.mid 6 rfl).val (by rw [Option.some.inj hz88])
              refine s_move h rfl _ rfl rfl (by decide) rfl (fun a h => ?_)
              obtain ⟨z103, hz102, hf⟩ := bsome hf
              refine q_grp h 4 (t := 145) 149 z103 rfl (fun hB18 => ?_) (fun hB18 => ?_) (fun a w h => ?_)
              · rw [if_pos hB18] at hz102
                refine g_yes h rfl rfl rfl rfl hB18 ?_
                refine s_move h rfl _ rfl rfl (by decide) rfl (fun a h => ?_)
                refine g_yes h rfl rfl rfl rfl hB18 ?_
                refine s_move h rfl _ rfl rfl (by decide) rfl (fun a h => ?_)
                refine g_yes h rfl rfl rfl rfl hB18 ?_
                obtain ⟨x105, h106, hz102⟩ := bsome hz102
                have hX := chatelaineref01_Same_ok Fu (S0 := snapAll _) A78 c79 x75.1 (h.m.rowAll (i := 0) rfl (j := 2) rfl hq83) Aa2 ca2 a2 ((hsa2.mono (le11.trans le50)).mono (h.m.leAll (i := 2) rfl)) _ h106 _ h.startAll
                refine q_callX hX h rfl rfl rfl (by decide) Try.func25 rfl rfl rfl (fun a w v L1 S1 hR hb1 h => ?_)
                obtain ⟨rfl, rfl, _⟩ := hR
                refine s_x h rfl rfl (by decide) (x_pick (u' := undef) h.k rfl rfl (fun _ => rfl) (fun hh => absurd (hB18.symm.trans hh) (by decide))) (fun a h => ?_)
                exact (h.mid 3 rfl).val (by rw [Option.some.inj hz102])
              · refine g_no h rfl rfl rfl rfl hB18 rfl (by decide) (fun a h => ?_)
                refine g_no h rfl rfl rfl rfl hB18 rfl (by decide) (fun a h => ?_)
                refine g_no h rfl rfl rfl rfl hB18 rfl (by decide) (fun a h => ?_)
                rw [if_neg (by rw [hB18]; decide)] at hz102
                refine s_x h rfl rfl (by decide) (x_pick (u' := undef) h.k rfl rfl (fun hh => absurd (hB18.symm.trans hh) (by decide)) (fun _ => rfl)) (fun a h => ?_)
                exact (h.mid 3 rfl).val (by rw [Option.some.inj hz102])
              refine s_move h rfl _ rfl rfl (by decide) rfl (fun a h => ?_)
              obtain ⟨z109, hz108, hf⟩ := bsome hf
              refine q_grp h 7 (t := 150) 157 z109 rfl (fun hB23 => ?_) (fun hB23 => ?_) (fun a w h => ?_)
              · rw [if_pos hB23] at hz108
                refine g_yes h rfl rfl rfl rfl hB23 ?_
                refine s_move h rfl _ rfl rfl (by decide) rfl (fun a h => ?_)
                refine g_yes h rfl rfl rfl rfl hB23 ?_
                refine s_move h rfl _ rfl rfl (by decide) rfl (fun a h => ?_)
                refine g_yes h rfl rfl rfl rfl hB23 ?_
                refine s_move h rfl _ rfl rfl (by decide) rfl (fun a h => ?_)
                refine g_yes h rfl rfl rfl rfl hB23 ?_
                obtain ⟨x111, h112, hz108⟩ := bsome hz108
                have hX := chatelaineref10_Encrypt_ok Fu (S0 := snapAll _) Aa0 ca0 a0 ((hsa0.mono (le11.trans le50)).mono (h.m.leAll (i := 2) rfl)) a1 hra1 A58 c59 x55.1 (h.m.rowAll (i := 1) rfl (j := 2) rfl hq63) _ h112 _ h.startAll
                refine q_callX hX h rfl rfl rfl (by decide) Try.func36 rfl rfl rfl (fun a w v L1 S1 hR hb1 h => ?_)
                obtain ⟨A114, c115, cs116, rfl, rfl, hq117, _⟩ := hR
                have hq118 := hq117.fl (S' := S48) fl_8
                refine g_yes h rfl rfl rfl rfl hB23 ?_
                refine s_move h rfl _ rfl rfl (by decide) rfl (fun a h => ?_)
                refine g_yes h rfl rfl rfl rfl hB23 ?_
                obtain ⟨x119, h120, hz108⟩ := bsome hz108
                have hX := chatelaineref01_Same_ok Fu (S0 := snapAll _) A114 c115 x111 (h.m.rowAll (i := 0) rfl (j := 3) rfl hq118) Aa2 ca2 a2 ((hsa2.mono (le11.trans le50)).mono (h.m.leAll (i := 3) rfl)) _ h120 _ h.startAll
                refine q_callX hX h rfl rfl rfl (by decide) Try.func25 rfl rfl rfl (fun a w v L1 S1 hR hb1 h => ?_)
                obtain ⟨rfl, rfl, _⟩ := hR
                refine s_x h rfl rfl (by decide) (x_pick (u' := undef) h.k rfl rfl (fun _ => rfl) (fun hh => absurd (hB23.symm.trans hh) (by decide))) (fun a h => ?_)
                have h := h.pick [1, 2, 3] (by decide) rfl
                exact (h.mid 6 rfl).val (by rw [Option.some.inj hz108])
              · refine g_no h rfl rfl rfl rfl hB23 rfl (by decide) (fun a h => ?_)
                refine g_no h rfl rfl rfl rfl hB23 rfl (by decide) (fun a h => ?_)
                refine g_no h rfl rfl rfl rfl hB23 rfl (by decide) (fun a h => ?_)
                refine g_no h rfl rfl rfl rfl hB23 rfl (by decide) (fun a h => ?_)
                refine g_no h rfl rfl rfl rfl hB23 rfl (by decide) (fun a h => ?_)
                refine g_no h rfl rfl rfl rfl hB23 rfl (by decide) (fun a h => ?_)
                rw [if_neg (by rw [hB23]; decide)] at hz108
                refine s_x h rfl rfl (by decide) (x_pick (u' := undef) h.k rfl rfl (fun hh => absurd (hB23.symm.trans hh) (by decide)) (fun _ => rfl)) (fun a h => ?_)
                exact (h.mid 6 rfl).val (by rw [Option.some.inj hz108])
              refine s_assign h rfl _ rfl rfl (by decide) rfl (fun a h => ?_)
              refine l_end ?_
              refine wp_ret ?_
              rw [← Option.some.inj hf]
              exact r_ret1 h rfl (rv_tmp h rfl) ⟨_, [], _, rfl, ⟨rfl, rfl, trivial⟩, rfl, up49, (h.m.pick [2] _ (by decide) rfl)⟩
      · obtain ⟨x122, rfl, hR⟩ := hR
        dsimp only at hf
        obtain ⟨g123, rfl, rfl, hp124, hr125, _⟩ := hR
        refine s_move h rfl _ rfl rfl (by decide) rfl (fun a h => ?_)
        refine s_x h rfl rfl (by decide) (x_ext h.k rfl rfl rfl) (fun a h => ?_)
        refine s_x h rfl rfl (by decide) (x_ext h.k rfl rfl rfl) (fun a h => ?_)
        refine s_assign h rfl _ rfl rfl (by decide) rfl (fun a h => ?_)
        refine s_assign h rfl _ rfl rfl (by decide) rfl (fun a h => ?_)
        refine l_end ?_
        refine wp_seq ?_
        refine c_rs ?_ -- region 6
        refine s_move h rfl _ rfl rfl (by decide) rfl (fun a h => ?_)
        obtain ⟨x126, h127, hf⟩ := bsome hf
        have hX := chatelainelaw10_right_ok Fu (S0 := snapAll _) Aa0 ca0 a0 ((hsa0.mono le11).mono (h.m.leAll (i := 0) rfl)) _ h127 _ h.startAll
        refine q_callX hX h rfl rfl rfl (by decide) Try.func32 rfl rfl rfl (fun a w v L1 S1 hR hb1 h => ?_)
        obtain ⟨rfl, rfl, _⟩ := hR
        refine s_x h rfl rfl (by decide) (x_not h.k rfl rfl) (fun a h => ?_)
        refine l_end ?_
        refine c_cond h rfl (fun hb => ?_) (fun hb => ?_)
        · rw [if_pos hb] at hf
          refine c_rs ?_ -- region 7
          refine s_move h rfl _ rfl rfl (by decide) rfl (fun a h => ?_)
          refine s_move h rfl _ rfl rfl (by decide) rfl (fun a h => ?_)
          refine s_move h rfl _ rfl rfl (by decide) rfl (fun a h => ?_)
          obtain ⟨x129, h130, hf⟩ := bsome hf
          have hX := xts_Sector_Encrypt_ok Fu (S0 := S9) g123 x122.1 hp124 a1 hra1 Aa2 ca2 a2 (hsa2.mono le11) _ h130 _ (h.sub (Ls := []))
          refine q_callY (Ls := []) hX h up10 rfl rfl rfl (by decide) Try.func31 rfl rfl rfl (fun a w v L1 S132 hR le134 up133 h => ?_)
          obtain ⟨A135, c136, rfl, rfl, hs137, hr138, _⟩ := hR
          refine s_move h rfl _ rfl rfl (by decide) rfl (fun a h => ?_)
          refine s_x h rfl rfl (by decide) (x_ext h.k rfl rfl rfl) (fun a h => ?_)
          refine s_x h rfl rfl (by decide) (x_ext h.k rfl rfl rfl) (fun a h => ?_)
          refine s_assign h rfl _ rfl rfl (by decide) rfl (fun a h => ?_)
          refine s_assign h rfl _ rfl rfl (by decide) rfl (fun a h => ?_)
          refine l_end ?_
          refine c_rs ?_ -- region 8
          refine s_move h rfl _ rfl rfl (by decide) rfl (fun a h => ?_)
          refine s_move h rfl _ rfl rfl (by decide) rfl (fun a h => ?_)
          refine s_move h rfl _ rfl rfl (by decide) rfl (fun a h => ?_)
          obtain ⟨x139, h140, hf⟩ := bsome hf
          have hX := xts_Sector_Decrypt_ok Fu (S0 := snapAll _) g123 x122.1 ((hp124.mono le134).mono (h.m.leAll (i := 0) rfl)) a1 hra1 Aa2 ca2 a2 ((hsa2.mono (le11.trans le134)).mono (h.m.leAll (i := 0) rfl)) _ h140 _ h.startAll
          refine q_callX hX h rfl rfl rfl (by decide) Try.func35 rfl rfl rfl (fun a w v L1 S1 hR hb1 h => ?_)
          obtain ⟨A142, c143, cs144, rfl, rfl, hq145, hr146, _⟩ := hR
          have hq147 := hq145.fl (S' := S132) fl_8
          refine s_move h rfl _ rfl rfl (by decide) rfl (fun a h => ?_)
          refine s_x h rfl rfl (by decide) (x_ext h.k rfl rfl rfl) (fun a h => ?_)
          refine s_x h rfl rfl (by decide) (x_ext h.k rfl rfl rfl) (fun a h => ?_)
          refine s_assign h rfl _ rfl rfl (by decide) rfl (fun a h => ?_)
          refine s_assign h rfl _ rfl rfl (by decide) rfl (fun a h => ?_)
          refine l_end ?_
          refine c_rs ?_ -- region 9
          refine s_move h rfl _ rfl rfl (by decide) rfl (fun a h => ?_)
          refine s_x h rfl rfl (by decide) (x_bin h.k rfl rfl rfl ib_eql) (fun a h => ?_)
          refine s_move h rfl _ rfl rfl (by decide) rfl (fun a h => ?_)
          refine q_grp h 3 (t := 53) 56 false rfl (fun hB2 => ?_) (fun hB2 => ?_) (fun a w h => ?_)
          · refine g_yes h rfl rfl rfl rfl hB2 ?_
            refine s_move h rfl _ rfl rfl (by decide) rfl (fun a h => ?_)
            refine g_yes h rfl rfl rfl rfl hB2 ?_
            refine s_x h rfl rfl (by decide) (x_eql_pn h.k rfl Try.underlying54 rfl rfl) (fun a h => ?_)
            refine s_x h rfl rfl (by decide) (x_pick (u' := undef) h.k rfl rfl (fun _ => rfl) (fun hh => absurd (hB2.symm.trans hh) (by decide))) (fun a h => ?_)
            exact (h.mid 2 rfl).val (by first | rfl | (rw [hB2]; first | rfl | simp))
          · refine g_no h rfl rfl rfl rfl hB2 rfl (by decide) (fun a h => ?_)
            refine g_no h rfl rfl rfl rfl hB2 rfl (by decide) (fun a h => ?_)
            refine s_x h rfl rfl (by decide) (x_pick (u' := undef) h.k rfl rfl (fun hh => absurd (hB2.symm.trans hh) (by decide)) (fun _ => rfl)) (fun a h => ?_)
            exact (h.mid 2 rfl).val (by first | rfl | (rw [hB2]; first | rfl | simp))
          refine s_move h rfl _ rfl rfl (by decide) rfl (fun a h => ?_)
          refine q_grp h 3 (t := 57) 60 false rfl (fun hB6 => ?_) (fun hB6 => ?_) (fun a w h => ?_)
          · exact absurd hB6 (by decide)
          · refine g_no h rfl rfl rfl rfl hB6 rfl (by decide) (fun a h => ?_)
            refine g_no h rfl rfl rfl rfl hB6 rfl (by decide) (fun a h => ?_)
            refine s_x h rfl rfl (by decide) (x_pick (u' := undef) h.k rfl rfl (fun hh => absurd (hB6.symm.trans hh) (by decide)) (fun _ => rfl)) (fun a h => ?_)
            exact (h.mid 2 rfl).val (by first | rfl | (rw [hB6]; first | rfl | simp))
          refine s_move h rfl _ rfl rfl (by decide) rfl (fun a h => ?_)
          refine q_grp h 3 (t := 61) 64 false rfl (fun hB10 => ?_) (fun hB10 => ?_) (fun a w h => ?_)
          · exact absurd hB10 (by decide)
          · refine g_no h rfl rfl rfl rfl hB10 rfl (by decide) (fun a h => ?_)
            refine g_no h rfl rfl rfl rfl hB10 rfl (by decide) (fun a h => ?_)
            refine s_x h rfl rfl (by decide) (x_pick (u' := undef) h.k rfl rfl (fun hh => absurd (hB10.symm.trans hh) (by decide)) (fun _ => rfl)) (fun a h => ?_)
            exact (h.mid 2 rfl).val (by first | rfl | (rw [hB10]; first | rfl | simp))
          refine s_move h rfl _ rfl rfl (by decide) rfl (fun a h => ?_)
          refine q_grp h 7 (t := 65) 72 false rfl (fun hB14 => ?_) (fun hB14 => ?_) (fun a w h => ?_)
          · exact absurd hB14 (by decide)
          · refine g_no h rfl rfl rfl rfl hB14 rfl (by decide) (fun a h => ?_)
            refine g_no h rfl rfl rfl rfl hB14 rfl (by decide) (fun a h => ?_)
            refine g_no h rfl rfl rfl rfl hB14 rfl (by decide) (fun a h => ?_)
            refine g_no h rfl rfl rfl rfl hB14 rfl (by decide) (fun a h => ?_)
            refine g_no h rfl rfl rfl rfl hB14 rfl (by decide) (fun a h => ?_)
            refine g_no h rfl rfl rfl rfl hB14 rfl (by decide) (fun a h => ?_)
            refine s_x h rfl rfl (by decide) (x_pick (u' := undef) h.k rfl rfl (fun hh => absurd (hB14.symm.trans hh) (by decide)) (fun _ => rfl)) (fun a h => ?_)
            exact (h.mid 6 rfl).val (by first | rfl | (rw [hB14]; first | rfl | simp))
          refine s_assign h rfl _ rfl rfl (by decide) rfl (fun a h => ?_)
          refine l_end ?_
          refine wp_ret ?_
          refine e_thenR ?_
          rw [← Option.some.inj hf]
          exact r_ret1 h rfl (rv_tmp h rfl) ⟨_, [], _, rfl, ⟨rfl, rfl, trivial⟩, rfl, up133, (h.m.pick [1] _ (by decide) rfl)⟩
        · rw [if_neg (by rw [hb]; decide)] at hf
          refine wp_skip ?_
          refine e_thenN ?_
          refine wp_seq ?_
          refine c_rs ?_ -- region 10
          refine s_move h rfl _ rfl rfl (by decide) rfl (fun a h => ?_)
          refine s_x h rfl rfl (by decide) (x_bin h.k rfl rfl rfl ib_neq) (fun a h => ?_)
          refine l_end ?_
          refine c_cond h rfl (fun hb => ?_) (fun hb => ?_)
          · rw [if_pos (of_decide_eq_true hb)] at hf
            refine c_rs ?_ -- region 11
            refine s_assign h rfl _ rfl rfl (by decide) rfl (fun a h => ?_)
            refine l_end ?_
            refine wp_ret ?_
            refine e_thenR ?_
            rw [← Option.some.inj hf]
            exact r_ret1 h rfl (rv_tmp h rfl) ⟨_, [], _, rfl, ⟨rfl, rfl, trivial⟩, rfl, up10, h.m⟩
          · rw [if_neg (of_decide_eq_false hb)] at hf
            refine wp_skip ?_
            refine e_thenN ?_
            refine c_rs ?_ -- region 12
            refine s_move h rfl _ rfl rfl (by decide) rfl (fun a h => ?_)
            refine s_move h rfl _ rfl rfl (by decide) rfl (fun a h => ?_)
            refine s_move h rfl _ rfl rfl (by decide) rfl (fun a h => ?_)
            obtain ⟨x156, h157, hf⟩ := bsome hf
            have hX := xts_Sector_Encrypt_ok Fu (S0 := S9) g123 x122.1 hp124 a1 hra1 Aa2 ca2 a2 (hsa2.mono le11) _ h157 _ (h.sub (Ls := []))
            refine q_callY (Ls := []) hX h up10 rfl rfl rfl (by decide) Try.func31 rfl rfl rfl (fun a w v L1 S159 hR le161 up160 h => ?_)
            obtain ⟨A162, c163, rfl, rfl, hs164, hr165, _⟩ := hR
            refine s_move h rfl _ rfl rfl (by decide) rfl (fun a h => ?_)
            refine s_x h rfl rfl (by decide) (x_ext h.k rfl rfl rfl) (fun a h => ?_)
            refine s_x h rfl rfl (by decide) (x_ext h.k rfl rfl rfl) (fun a h => ?_)
            refine s_assign h rfl _ rfl rfl (by decide) rfl (fun a h => ?_)
            refine s_assign h rfl _ rfl rfl (by decide) rfl (fun a h => ?_)
            refine l_end ?_
            refine c_rs ?_ -- region 13
            refine s_move h rfl _ rfl rfl (by decide) rfl (fun a h => ?_)
            refine s_move h rfl _ rfl rfl (by decide) rfl (fun a h => ?_)
            refine s_move h rfl _ rfl rfl (by decide) rfl (fun a h => ?_)
            obtain ⟨x166, h167, hf⟩ := bsome hf
            have hX := xts_Sector_Decrypt_ok Fu (S0 := snapAll _) g123 x122.1 ((hp124.mono le161).mono (h.m.leAll (i := 0) rfl)) a1 hra1 Aa2 ca2 a2 ((hsa2.mono (le11.trans le161)).mono (h.m.leAll (i := 0) rfl)) _ h167 _ h.startAll
            refine q_callX hX h rfl rfl rfl (by decide) Try.func35 rfl rfl rfl (fun a w v L1 S1 hR hb1 h => ?_)
            obtain ⟨A169, c170, cs171, rfl, rfl, hq172, hr173, _⟩ := hR
            have hq174 := hq172.fl (S' := S159) fl_8
            refine s_move h rfl _ rfl rfl (by decide) rfl (fun a h => ?_)
            refine s_x h rfl rfl (by decide) (x_ext h.k rfl rfl rfl) (fun a h => ?_)
            refine s_x h rfl rfl (by decide) (x_ext h.k rfl rfl rfl) (fun a h => ?_)
            refine s_assign h rfl _ rfl rfl (by decide) rfl (fun a h => ?_)
            refine s_assign h rfl _ rfl rfl (by decide) rfl (fun a h => ?_)
            refine l_end ?_
            refine wp_seq ?_
            refine c_rs ?_ -- region 14
            refine s_move h rfl _ rfl rfl (by decide) rfl (fun a h => ?_)
            refine s_x h rfl rfl (by decide) (x_bin h.k rfl rfl rfl ib_lss) (fun a h => ?_)
            refine s_move h rfl _ rfl rfl (by decide) rfl (fun a h => ?_)
            refine q_grp h 3 (t := 91) 94 ((decide (a1 < 0)) || (decide (4611686018427387904 < a1))) rfl (fun hB2 => ?_) (fun hB2 => ?_) (fun a w h => ?_)
            · refine g_no h rfl rfl rfl rfl hB2 rfl (by decide) (fun a h => ?_)
              refine g_no h rfl rfl rfl rfl hB2 rfl (by decide) (fun a h => ?_)
              refine s_x h rfl rfl (by decide) (x_pick (u' := undef) h.k rfl rfl (fun _ => rfl) (fun hh => absurd (hB2.symm.trans hh) (by decide))) (fun a h => ?_)
              exact (h.mid 2 rfl).val (by first | rfl | (rw [hB2]; first | rfl | simp))
            · refine g_yes h rfl rfl rfl rfl hB2 ?_
              refine s_move h rfl _ rfl rfl (by decide) rfl (fun a h => ?_)
              refine g_yes h rfl rfl rfl rfl hB2 ?_
              refine s_x h rfl rfl (by decide) (x_bin h.k rfl rfl rfl ib_gtr) (fun a h => ?_)
              refine s_x h rfl rfl (by decide) (x_pick (u' := undef) h.k rfl rfl (fun hh => absurd (hB2.symm.trans hh) (by decide)) (fun _ => rfl)) (fun a h => ?_)
              exact (h.mid 2 rfl).val (by first | rfl | (rw [hB2]; first | rfl | simp))
            refine s_move h rfl _ rfl rfl (by decide) rfl (fun a h => ?_)
            refine q_grp h 4 (t := 95) 99 (((decide (a1 < 0)) || (decide (4611686018427387904 < a1))) || (decide ((a2.length : Int) = 0))) rfl (fun hB6 => ?_) (fun hB6 => ?_) (fun a w h => ?_)
            · refine g_no h rfl rfl rfl rfl hB6 rfl (by decide) (fun a h => ?_)
              refine g_no h rfl rfl rfl rfl hB6 rfl (by decide) (fun a h => ?_)
              refine g_no h rfl rfl rfl rfl hB6 rfl (by decide) (fun a h => ?_)
              refine s_x h rfl rfl (by decide) (x_pick (u' := undef) h.k rfl rfl (fun _ => rfl) (fun hh => absurd (hB6.symm.trans hh) (by decide))) (fun a h => ?_)
              exact (h.mid 3 rfl).val (by first | rfl | (rw [hB6]; first | rfl | simp))
            · refine g_yes h rfl rfl rfl rfl hB6 ?_
              refine s_move h rfl _ rfl rfl (by decide) rfl (fun a h => ?_)
              refine g_yes h rfl rfl rfl rfl hB6 ?_
              refine s_x h rfl rfl (by decide) (x_len h.k rfl Try.underlying22 rfl) (fun a h => ?_)
              refine g_yes h rfl rfl rfl rfl hB6 ?_
              refine s_x h rfl rfl (by decide) (x_bin h.k rfl rfl rfl ib_eql) (fun a h => ?_)
              refine s_x h rfl rfl (by decide) (x_pick (u' := undef) h.k rfl rfl (fun hh => absurd (hB6.symm.trans hh) (by decide)) (fun _ => rfl)) (fun a h => ?_)
              exact (h.mid 3 rfl).val (by first | rfl | (rw [hB6]; first | rfl | simp))
            refine s_move h rfl _ rfl rfl (by decide) rfl (fun a h => ?_)
            refine q_grp h 5 (t := 100) 105 ((((decide (a1 < 0)) || (decide (4611686018427387904 < a1))) || (decide ((a2.length : Int) = 0))) || (decide (Int.tmod (a2.length : Int) 16 ≠ 0))) rfl (fun hB11 => ?_) (fun hB11 => ?_) (fun a w h => ?_)
            · refine g_no h rfl rfl rfl rfl hB11 rfl (by decide) (fun a h => ?_)
              refine g_no h rfl rfl rfl rfl hB11 rfl (by decide) (fun a h => ?_)
              refine g_no h rfl rfl rfl rfl hB11 rfl (by decide) (fun a h => ?_)
              refine g_no h rfl rfl rfl rfl hB11 rfl (by decide) (fun a h => ?_)
              refine s_x h rfl rfl (by decide) (x_pick (u' := undef) h.k rfl rfl (fun _ => rfl) (fun hh => absurd (hB11.symm.trans hh) (by decide))) (fun a h => ?_)
              exact (h.mid 4 rfl).val (by first | rfl | (rw [hB11]; first | rfl | simp))
            · refine g_yes h rfl rfl rfl rfl hB11 ?_
              refine s_move h rfl _ rfl rfl (by decide) rfl (fun a h => ?_)
              refine g_yes h rfl rfl rfl rfl hB11 ?_
              refine s_x h rfl rfl (by decide) (x_len h.k rfl Try.underlying22 rfl) (fun a h => ?_)
              refine g_yes h rfl rfl rfl rfl hB11 ?_
              refine s_x h rfl rfl (by decide) (x_bin h.k rfl rfl rfl (ib_remw (by decide))) (fun a h => ?_)
              refine g_yes h rfl rfl rfl rfl hB11 ?_
              refine s_x h rfl rfl (by decide) (x_bin h.k rfl rfl rfl ib_neq) (fun a h => ?_)
              refine s_x h rfl rfl (by decide) (x_pick (u' := undef) h.k rfl rfl (fun hh => absurd (hB11.symm.trans hh) (by decide)) (fun _ => rfl)) (fun a h => ?_)
              exact (h.mid 4 rfl).val (by first | rfl | (rw [hB11]; first | rfl | simp))
            refine l_end ?_
            refine c_cond h rfl (fun hb => ?_) (fun hb => ?_)
            · rw [if_pos hb] at hf
              refine c_rs ?_ -- region 15
              refine s_move h rfl _ rfl rfl (by decide) rfl (fun a h => ?_)
              refine s_x h rfl rfl (by decide) (x_bin h.k rfl rfl rfl ib_eql) (fun a h => ?_)
              refine s_move h rfl _ rfl rfl (by decide) rfl (fun a h => ?_)
              refine q_grp h 3 (t := 108) 111 ((decide (x156.2 = 2)) && (decide (x166.2 = 2))) rfl (fun hB2 => ?_) (fun hB2 => ?_) (fun a w h => ?_)
              · refine g_yes h rfl rfl rfl rfl hB2 ?_
                refine s_move h rfl _ rfl rfl (by decide) rfl (fun a h => ?_)
                refine g_yes h rfl rfl rfl rfl hB2 ?_
                refine s_x h rfl rfl (by decide) (x_bin h.k rfl rfl rfl ib_eql) (fun a h => ?_)
                refine s_x h rfl rfl (by decide) (x_pick (u' := undef) h.k rfl rfl (fun _ => rfl) (fun hh => absurd (hB2.symm.trans hh) (by decide))) (fun a h => ?_)
                exact (h.mid 2 rfl).val (by first | rfl | (rw [hB2]; first | rfl | simp))
              · refine g_no h rfl rfl rfl rfl hB2 rfl (by decide) (fun a h => ?_)
                refine g_no h rfl rfl rfl rfl hB2 rfl (by decide) (fun a h => ?_)
                refine s_x h rfl rfl (by decide) (x_pick (u' := undef) h.k rfl rfl (fun hh => absurd (hB2.symm.trans hh) (by decide)) (fun _ => rfl)) (fun a h => ?_)
                exact (h.mid 2 rfl).val (by first | rfl | (rw [hB2]; first | rfl | simp))
              refine s_move h rfl _ rfl rfl (by decide) rfl (fun a h => ?_)
              refine q_grp h 7 (t := 112) 119 (((decide (x156.2 = 2)) && (decide (x166.2 = 2))) && (decide (w64 ((x156.1.length : Int) + (x166.1.length : Int)) = 0))) rfl (fun hB6 => ?_) (fun hB6 => ?_) (fun a w h => ?_)
              · refine g_yes h rfl rfl rfl rfl hB6 ?_
                refine s_move h rfl _ rfl rfl (by decide) rfl (fun a h => ?_)
                refine g_yes h rfl rfl rfl rfl hB6 ?_
                refine s_x h rfl rfl (by decide) (x_len h.k rfl Try.underlying22 rfl) (fun a h => ?_)
                refine g_yes h rfl rfl rfl rfl hB6 ?_
                refine s_move h rfl _ rfl rfl (by decide) rfl (fun a h => ?_)
                refine g_yes h rfl rfl rfl rfl hB6 ?_
                have hr185 : r64 (x166.1.length : Int) := len_r (h.m.rowLen (i := 0) rfl)
                refine s_x h rfl rfl (by decide) (x_len h.k rfl Try.underlying22 rfl) (fun a h => ?_)
                refine g_yes h rfl rfl rfl rfl hB6 ?_
                refine s_x h rfl rfl (by decide) (x_bin h.k rfl rfl rfl (ib_add rfl)) (fun a h => ?_)
                refine g_yes h rfl rfl rfl rfl hB6 ?_
                refine s_x h rfl rfl (by decide) (x_bin h.k rfl rfl rfl ib_eql) (fun a h => ?_)
                refine s_x h rfl rfl (by decide) (x_pick (u' := undef) h.k rfl rfl (fun _ => rfl) (fun hh => absurd (hB6.symm.trans hh) (by decide))) (fun a h => ?_)
                exact (h.mid 6 rfl).val (by first | rfl | (rw [hB6]; first | rfl | simp))
              · refine g_no h rfl rfl rfl rfl hB6 rfl (by decide) (fun a h => ?_)
                refine g_no h rfl rfl rfl rfl hB6 rfl (by decide) (fun a h => ?_)
                refine g_no h rfl rfl rfl rfl hB6 rfl (by decide) (fun a h => ?_)
                refine g_no h rfl rfl rfl rfl hB6 rfl (by decide) (fun a h => ?_)
                refine g_no h rfl rfl rfl rfl hB6 rfl (by decide) (fun a h => ?_)
                refine g_no h rfl rfl rfl rfl hB6 rfl (by decide) (fun a h => ?_)
                refine s_x h rfl rfl (by decide) (x_pick (u' := undef) h.k rfl rfl (fun hh => absurd (hB6.symm.trans hh) (by decide)) (fun _ => rfl)) (fun a h => ?_)
                exact (h.mid 6 rfl).val (by first | rfl | (rw [hB6]; first | rfl | simp))
              refine s_assign h rfl _ rfl rfl (by decide) rfl (fun a h => ?_)
              refine l_end ?_
              refine wp_ret ?_
              refine e_thenR ?_
              obtain rfl := Option.some.inj hf
              exact r_ret1 h rfl (rv_tmp h rfl) ⟨_, [], _, rfl, ⟨rfl, rfl, trivial⟩, rfl, up160, (h.m.pick [1] _ (by decide) rfl)⟩
            · rw [if_neg (by rw [hb]; decide)] at hf
              refine wp_skip ?_
              refine e_thenN ?_
              refine c_rs ?_ -- region 16
              refine s_move h rfl _ rfl rfl (by decide) rfl (fun a h => ?_)
              refine s_move h rfl _ rfl rfl (by decide) rfl (fun a h => ?_)
              refine s_move h rfl _ rfl rfl (by decide) rfl (fun a h => ?_)
              obtain ⟨x186, h187, hf⟩ := bsome hf
              have hX := xts_Sector_Decrypt_ok Fu (S0 := snapAll _) g123 x122.1 ((hp124.mono le161).mono (h.m.leAll (i := 1) rfl)) a1 hra1 A162 c163 x156.1 (hs164.mono (h.m.leAll (i := 1) rfl)) _ h187 _ h.startAll
              refine q_callX hX h rfl rfl rfl (by decide) Try.func35 rfl rfl rfl (fun a w v L1 S1 hR hb1 h => ?_)
              obtain ⟨A189, c190, cs191, rfl, rfl, hq192, hr193, _⟩ := hR
              have hq194 := hq192.fl (S' := S159) fl_8
              refine s_move h rfl _ rfl rfl (by decide) rfl (fun a h => ?_)
              refine s_x h rfl rfl (by decide) (x_ext h.k rfl rfl rfl) (fun a h => ?_)
              refine s_x h rfl rfl (by decide) (x_ext h.k rfl rfl rfl) (fun a h => ?_)
              refine s_assign h rfl _ rfl rfl (by decide) rfl (fun a h => ?_)
              refine s_assign h rfl _ rfl rfl (by decide) rfl (fun a h => ?_)
              refine l_end ?_
              refine c_rs ?_ -- region 17
              refine s_move h rfl _ rfl rfl (by decide) rfl (fun a h => ?_)
              refine s_x h rfl rfl (by decide) (x_bin h.k rfl rfl rfl ib_eql) (fun a h => ?_)
              refine s_move h rfl _ rfl rfl (by decide) rfl (fun a h => ?_)
              refine q_grp h 3 (t := 129) 132 ((decide (x156.2 = 0)) && (decide (x166.2 = 0))) rfl (fun hB2 => ?_) (fun hB2 => ?_) (fun a w h => ?_)
              · refine g_yes h rfl rfl rfl rfl hB2 ?_
                refine s_move h rfl _ rfl rfl (by decide) rfl (fun a h => ?_)
                refine g_yes h rfl rfl rfl rfl hB2 ?_
                refine s_x h rfl rfl (by decide) (x_bin h.k rfl rfl rfl ib_eql) (fun a h => ?_)
                refine s_x h rfl rfl (by decide) (x_pick (u' := undef) h.k rfl rfl (fun _ => rfl) (fun hh => absurd (hB2.symm.trans hh) (by decide))) (fun a h => ?_)
                exact (h.mid 2 rfl).val (by first | rfl | (rw [hB2]; first | rfl | simp))
              · refine g_no h rfl rfl rfl rfl hB2 rfl (by decide) (fun a h => ?_)
                refine g_no h rfl rfl rfl rfl hB2 rfl (by decide) (fun a h => ?_)
                refine s_x h rfl rfl (by decide) (x_pick (u' := undef) h.k rfl rfl (fun hh => absurd (hB2.symm.trans hh) (by decide)) (fun _ => rfl)) (fun a h => ?_)
                exact (h.mid 2 rfl).val (by first | rfl | (rw [hB2]; first | rfl | simp))
              refine s_move h rfl _ rfl rfl (by decide) rfl (fun a h => ?_)
              refine q_grp h 3 (t := 133) 136 (((decide (x156.2 = 0)) && (decide (x166.2 = 0))) && (decide (x186.2 = 0))) rfl (fun hB6 => ?_) (fun hB6 => ?_) (fun a w h => ?_)
              · refine g_yes h rfl rfl rfl rfl hB6 ?_
                refine s_move h rfl _ rfl rfl (by decide) rfl (fun a h => ?_)
                refine g_yes h rfl rfl rfl rfl hB6 ?_
                refine s_x h rfl rfl (by decide) (x_bin h.k rfl rfl rfl ib_eql) (fun a h => ?_)
                refine s_x h rfl rfl (by decide) (x_pick (u' := undef) h.k rfl rfl (fun _ => rfl) (fun hh => absurd (hB6.symm.trans hh) (by decide))) (fun a h => ?_)
                exact (h.mid 2 rfl).val (by first | rfl | (rw [hB6]; first | rfl | simp))
              · refine g_no h rfl rfl rfl rfl hB6 rfl (by decide) (fun a h => ?_)
                refine g_no h rfl rfl rfl rfl hB6 rfl (by decide) (fun a h => ?_)
                refine s_x h rfl rfl (by decide) (x_pick (u' := undef) h.k rfl rfl (fun hh => absurd (hB6.symm.trans hh) (by decide)) (fun _ => rfl)) (fun a h => ?_)
                exact (h.mid 2 rfl).val (by first | rfl | (rw [hB6]; first | rfl | simp))
              refine s_move h rfl _ rfl rfl (by decide) rfl (fun a h => ?_)
              obtain ⟨z200, hz199, hf⟩ := bsome hf
              refine q_grp h 7 (t := 137) 144 z200 rfl (fun hB10 => ?_) (fun hB10 => ?_) (fun a w h => ?_)
              · rw [if_pos hB10] at hz199
                refine g_yes h rfl rfl rfl rfl hB10 ?_
                refine s_move h rfl _ rfl rfl (by decide) rfl (fun a h => ?_)
                refine g_yes h rfl rfl rfl rfl hB10 ?_
                refine s_move h rfl _ rfl rfl (by decide) rfl (fun a h => ?_)
                refine g_yes h rfl rfl rfl rfl hB10 ?_
                refine s_move h rfl _ rfl rfl (by decide) rfl (fun a h => ?_)
                refine g_yes h rfl rfl rfl rfl hB10 ?_
                refine s_move h rfl _ rfl rfl (by decide) rfl (fun a h => ?_)
                refine g_yes h rfl rfl rfl rfl hB10 ?_
                obtain ⟨x202, h203, hz199⟩ := bsome hz199
                have hX := chatelaineref10_Encrypt_ok Fu (S0 := snapAll _) Aa0 ca0 a0 ((hsa0.mono (le11.trans le161)).mono (h.m.leAll (i := 2) rfl)) a1 hra1 Aa2 ca2 a2 ((hsa2.mono (le11.trans le161)).mono (h.m.leAll (i := 2) rfl)) _ h203 _ h.startAll
                refine q_callX hX h rfl rfl rfl (by decide) Try.func36 rfl rfl rfl (fun a w v L1 S1 hR hb1 h => ?_)
                obtain ⟨A205, c206, cs207, rfl, rfl, hq208, _⟩ := hR
                have hq209 := hq208.fl (S' := S159) fl_8
                refine g_yes h rfl rfl rfl rfl hB10 ?_
                obtain ⟨x210, h211, hz199⟩ := bsome hz199
                have hX := chatelaineref01_Same_ok Fu (S0 := snapAll _) A162 c163 x156.1 (hs164.mono (h.m.leAll (i := 3) rfl)) A205 c206 x202 (h.m.rowAll (i := 0) rfl (j := 3) rfl hq209) _ h211 _ h.startAll
                refine q_callX hX h rfl rfl rfl (by decide) Try.func25 rfl rfl rfl (fun a w v L1 S1 hR hb1 h => ?_)
                obtain ⟨rfl, rfl, _⟩ := hR
                refine s_x h rfl rfl (by decide) (x_pick (u' := undef) h.k rfl rfl (fun _ => rfl) (fun hh => absurd (hB10.symm.trans hh) (by decide))) (fun a h => ?_)
                have h := h.pick [1, 2, 3] (by decide) rfl
                exact (h.mid 6 rfl).val (by rw [Option.some.inj hz199])
              · refine g_no h rfl rfl rfl rfl hB10 rfl (by decide) (fun a h => ?_)
                refine g_no h rfl rfl rfl rfl hB10 rfl (by decide) (fun a h => ?_)
                refine g_no h rfl rfl rfl rfl hB10 rfl (by decide) (fun a h => ?_)
                refine g_no h rfl rfl rfl rfl hB10 rfl (by decide) (fun a h => ?_)
                refine g_no h rfl rfl rfl rfl hB10 rfl (by decide) (fun a h => ?_)
                refine g_no h rfl rfl rfl rfl hB10 rfl (by decide) (fun a h => ?_)
                rw [if_neg (by rw [hB10]; decide)] at hz199
                refine s_x h rfl rfl (by decide) (x_pick (u' := undef) h.k rfl rfl (fun hh => absurd (hB10.symm.trans hh) (by decide)) (fun _ => rfl)) (fun a h => ?_)
                exact (h.mid 6 rfl).val (by rw [Option.some.inj hz199])
              refine s_move h rfl _ rfl rfl (by decide) rfl (fun a h => ?_)
              obtain ⟨z214, hz213, hf⟩ := bsome hf
              refine q_grp h 4 (t := 145) 149 z214 rfl (fun hB18 => ?_) (fun hB18 => ?_) (fun a w h => ?_)
              · rw [if_pos hB18] at hz213
                refine g_yes h rfl rfl rfl rfl hB18 ?_
                refine s_move h rfl _ rfl rfl (by decide) rfl (fun a h => ?_)
                refine g_yes h rfl rfl rfl rfl hB18 ?_
                refine s_move h rfl _ rfl rfl (by decide) rfl (fun a h => ?_)
                refine g_yes h rfl rfl rfl rfl hB18 ?_
                obtain ⟨x216, h217, hz213⟩ := bsome hz213
                have hX := chatelaineref01_Same_ok Fu (S0 := snapAll _) A189 c190 x186.1 (h.m.rowAll (i := 0) rfl (j := 2) rfl hq194) Aa2 ca2 a2 ((hsa2.mono (le11.trans le161)).mono (h.m.leAll (i := 2) rfl)) _ h217 _ h.startAll
                refine q_callX hX h rfl rfl rfl (by decide) Try.func25 rfl rfl rfl (fun a w v L1 S1 hR hb1 h => ?_)
                obtain ⟨rfl, rfl, _⟩ := hR
                refine s_x h rfl rfl (by decide) (x_pick (u' := undef) h.k rfl rfl (fun _ => rfl) (fun hh => absurd (hB18.symm.trans hh) (by decide))) (fun a h => ?_)
                exact (h.mid 3 rfl).val (by rw [Option.some.inj hz213])
              · refine g_no h rfl rfl rfl rfl hB18 rfl (by decide) (fun a h => ?_)
                refine g_no h rfl rfl rfl rfl hB18 rfl (by decide) (fun a h => ?_)
                refine g_no h rfl rfl rfl rfl hB18 rfl (by decide) (fun a h => ?_)
                rw [if_neg (by rw [hB18]; decide)] at hz213
                refine s_x h rfl rfl (by decide) (x_pick (u' := undef) h.k rfl rfl (fun hh => absurd (hB18.symm.trans hh) (by decide)) (fun _ => rfl)) (fun a h => ?_)
                exact (h.mid 3 rfl).val (by rw [Option.some.inj hz213])
              refine s_move h rfl _ rfl rfl (by decide) rfl (fun a h => ?_)
              obtain ⟨z220, hz219, hf⟩ := bsome hf
              refine q_grp h 7 (t := 150) 157 z220 rfl (fun hB23 => ?_) (fun hB23 => ?_) (fun a w h => ?_)
              · rw [if_pos hB23] at hz219
                refine g_yes h rfl rfl rfl rfl hB23 ?_
                refine s_move h rfl _ rfl rfl (by decide) rfl (fun a h => ?_)
                refine g_yes h rfl rfl rfl rfl hB23 ?_
                refine s_move h rfl _ rfl rfl (by decide) rfl (fun a h => ?_)
                refine g_yes h rfl rfl rfl rfl hB23 ?_
                refine s_move h rfl _ rfl rfl (by decide) rfl (fun a h => ?_)
                refine g_yes h rfl rfl rfl rfl hB23 ?_
                obtain ⟨x222, h223, hz219⟩ := bsome hz219
                have hX := chatelaineref10_Encrypt_ok Fu (S0 := snapAll _) Aa0 ca0 a0 ((hsa0.mono (le11.trans le161)).mono (h.m.leAll (i := 2) rfl)) a1 hra1 A169 c170 x166.1 (h.m.rowAll (i := 1) rfl (j := 2) rfl hq174) _ h223 _ h.startAll
                refine q_callX hX h rfl rfl rfl (by decide) Try.func36 rfl rfl rfl (fun a w v L1 S1 hR hb1 h => ?_)
                obtain ⟨A225, c226, cs227, rfl, rfl, hq228, _⟩ := hR
                have hq229 := hq228.fl (S' := S159) fl_8
                refine g_yes h rfl rfl rfl rfl hB23 ?_
                refine s_move h rfl _ rfl rfl (by decide) rfl (fun a h => ?_)
                refine g_yes h rfl rfl rfl rfl hB23 ?_
                obtain ⟨x230, h231, hz219⟩ := bsome hz219
                have hX := chatelaineref01_Same_ok Fu (S0 := snapAll _) A225 c226 x222 (h.m.rowAll (i := 0) rfl (j := 3) rfl hq229) Aa2 ca2 a2 ((hsa2.mono (le11.trans le161)).mono (h.m.leAll (i := 3) rfl)) _ h231 _ h.startAll
                refine q_callX hX h rfl rfl rfl (by decide) Try.func25 rfl rfl rfl (fun a w v L1 S1 hR hb1 h => ?_)
                obtain ⟨rfl, rfl, _⟩ := hR
                refine s_x h rfl rfl (by decide) (x_pick (u' := undef) h.k rfl rfl (fun _ => rfl) (fun hh => absurd (hB23.symm.trans hh) (by decide))) (fun a h => ?_)
                have h := h.pick [1, 2, 3] (by decide) rfl
                exact (h.mid 6 rfl).val (by rw [Option.some.inj hz219])
              · refine g_no h rfl rfl rfl rfl hB23 rfl (by decide) (fun a h => ?_)
                refine g_no h rfl rfl rfl rfl hB23 rfl (by decide) (fun a h => ?_)
                refine g_no h rfl rfl rfl rfl hB23 rfl (by decide) (fun a h => ?_)
                refine g_no h rfl rfl rfl rfl hB23 rfl (by decide) (fun a h => ?_)
                refine g_no h rfl rfl rfl rfl hB23 rfl (by decide) (fun a h => ?_)
                refine g_no h rfl rfl rfl rfl hB23 rfl (by decide) (fun a h => ?_)
                rw [if_neg (by rw [hB23]; decide)] at hz219
                refine s_x h rfl rfl (by decide) (x_pick (u' := undef) h.k rfl rfl (fun hh => absurd (hB23.symm.trans hh) (by decide)) (fun _ => rfl)) (fun a h => ?_)
                exact (h.mid 6 rfl).val (by rw [Option.some.inj hz219])
              refine s_assign h rfl _ rfl rfl (by decide) rfl (fun a h => ?_)
              refine l_end ?_
              refine wp_ret ?_
              rw [← Option.some.inj hf]
              exact r_ret1 h rfl (rv_tmp h rfl) ⟨_, [], _, rfl, ⟨rfl, rfl, trivial⟩, rfl, up160, (h.m.pick [2] _ (by decide) rfl)⟩
end Go.Proofs.Ytoimllmmlbehgaa
