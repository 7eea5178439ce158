/- Ct: Go functions as plain functions, and that they are so (written by xt.py). -/
import Derived.Test.YtcjleeclpmgbjaaDoorCc
import Derived.Test.YtcjleeclpmgbjaaDoorRp
import Derived.Test.YtcjleeclpmgbjaaDoorCb
set_option linter.unusedVariables false
set_option linter.unusedSimpArgs false
namespace Go.Proofs.YtcjleeclpmgbjaaDoor
open Go.RowKit
def code_Take (Fu : Nat) (a0 : List UInt8) : Option ((List UInt8) × Int) :=
  if 200 < (a0.length : Int) then (some ([], 3)) else ((strings_ReplaceAll Fu a0 ([45] : List UInt8) ([] : List UInt8)).bind fun x1 => (code_Bytes Fu x1).bind fun x5 => (if (((decide (x5.2 ≠ 0)) || (decide (w64 ((x5.1.length : Int) - 1) < 1))) || (decide (64 < w64 ((x5.1.length : Int) - 1)))) = true then some true else (code_Groups Fu x1 5).bind fun x22 => (strings_Join Fu x22 ([45] : List UInt8)).bind fun x30 => some (!(decide (x30 = a0)))).bind fun z20 => if z20 = true then (some ([], 11)) else ((sub x5.1 0 (w64 ((x5.1.length : Int) - 1))).bind fun x38 => (code_check Fu x38).bind fun x48 => (idx x5.1 (w64 ((x5.1.length : Int) - 1))).bind fun x51 => if (x48.toNat : Int) ≠ (x51.toNat : Int) then (some ([], 21)) else ((sub x5.1 0 (w64 ((x5.1.length : Int) - 1))).bind fun x63 => some (x63, 0))))
set_option maxRecDepth 100000 in
set_option maxHeartbeats 2000000 in
theorem code_Take_ok (Fu : Nat) {S0 : Snap} (hGL : GL S0) (a0 : List UInt8) (hra0 : a0.length ≤ maxLen) (r : (List UInt8) × Int) (hf : code_Take Fu a0 = some r) (w0 : World) (hm : Mem w0 (ownL ([] ++ [.sn S0])) ([] ++ [.sn S0]) w0) :
    Calls Tryd.prog 16 #[.string (sb a0)] w0 (Ret w0 S0 [] (fun v L1 S1 => ∃ (A73 : Option Addr), ∃ (c74 : Nat), v = .tuple #[.slice A73 r.1.length c74, .int .i64 r.2] ∧ L1 = [] ∧ slS ty8 S1 A73 c74 r.1 ∧ r64 r.2 ∧ True)) := by
  unfold code_Take at hf
  refine c_enterM Tryd.func16 rfl 51 rfl (by simp) _ hm _ rfl (fun a h => ?_)
  refine c_rs ?_ -- region 0
  refine s_assign h rfl _ rfl rfl (by decide) rfl (fun a h => ?_)
  refine s_assign h rfl _ rfl rfl (by decide) rfl (fun a h => ?_)
  refine l_end ?_
  refine wp_seq ?_
  refine c_rs ?_ -- region 1
  refine s_move h rfl _ rfl rfl (by decide) rfl (fun a h => ?_)
  refine s_x h rfl rfl (by decide) (x_lenStr h.k rfl Tryd.underlying9 rfl) (fun a h => ?_)
  refine s_x h rfl rfl (by decide) (x_bin h.k rfl rfl rfl ib_gtr) (fun a h => ?_)
  refine l_end ?_
  refine c_cond h rfl (fun hb => ?_) (fun hb => ?_)
  · rw [if_pos (of_decide_eq_true hb)] at hf
    refine c_rs ?_ -- region 2
    refine s_assign h rfl _ rfl rfl (by decide) rfl (fun a h => ?_)
    refine s_assign h rfl _ rfl rfl (by decide) rfl (fun a h => ?_)
    refine l_end ?_
    refine wp_ret ?_
    refine e_thenR ?_
    obtain rfl := Option.some.inj hf
    exact r_ret2 h rfl (rv_tmp h rfl) (rv_tmp h rfl) ⟨_, [], _, rfl, ⟨none, 0, rfl, rfl, (slS.nil ty8 S0), (show r64 3 from ⟨by decide, by decide⟩), trivial⟩, rfl, (Up.refl _ _ _), h.m⟩
  · rw [if_neg (of_decide_eq_false hb)] at hf
    refine wp_skip ?_
    refine e_thenN ?_
    refine c_rs ?_ -- region 3
    refine s_move h rfl _ rfl rfl (by decide) rfl (fun a h => ?_)
    obtain ⟨x1, h2, hf⟩ := bsome hf
    have hX := strings_ReplaceAll_ok Fu (S0 := snapAll _) (hGL.mono (h.m.leAll (i := 0) rfl)) a0 hra0 ([45] : List UInt8) (by decide) ([] : List UInt8) (by decide) _ h2 _ h.startAll
    refine q_callX hX h rfl rfl rfl (by decide) Tryd.func38 rfl rfl rfl (fun a w v L1 S1 hR hb1 h => ?_)
    obtain ⟨rfl, rfl, hr4, _⟩ := hR
    refine s_assign h rfl _ rfl rfl (by decide) rfl (fun a h => ?_)
    refine l_end ?_
    refine c_rs ?_ -- region 4
    refine s_move h rfl _ rfl rfl (by decide) rfl (fun a h => ?_)
    obtain ⟨x5, h6, hf⟩ := bsome hf
    have hX := code_Bytes_ok Fu (S0 := snapAll _) x1 hr4 _ h6 _ h.startAll
    refine q_callX hX h rfl rfl rfl (by decide) Tryd.func39 rfl rfl rfl (fun a w v L1 S1 hR hb1 h => ?_)
    obtain ⟨A8, c9, cs10, rfl, rfl, hq11, hr12, _⟩ := hR
    have hq13 := hq11.fl (S' := S0) fl_8
    refine s_move h rfl _ rfl rfl (by decide) rfl (fun a h => ?_)
    refine s_x h rfl rfl (by decide) (x_ext h.k rfl rfl rfl) (fun a h => ?_)
    refine s_x h rfl rfl (by decide) (x_ext h.k rfl rfl rfl) (fun a h => ?_)
    refine s_assign h rfl _ rfl rfl (by decide) rfl (fun a h => ?_)
    refine s_assign h rfl _ rfl rfl (by decide) rfl (fun a h => ?_)
    refine l_end ?_
    refine c_rs ?_ -- region 5
    refine s_move h rfl _ rfl rfl (by decide) rfl (fun a h => ?_)
    have hr14 : r64 (x5.1.length : Int) := len_r (h.m.rowLen (i := 0) rfl)
    refine s_x h rfl rfl (by decide) (x_len h.k rfl Tryd.underlying23 rfl) (fun a h => ?_)
    refine s_x h rfl rfl (by decide) (x_bin h.k rfl rfl rfl (ib_sub rfl)) (fun a h => ?_)
    refine s_assign h rfl _ rfl rfl (by decide) rfl (fun a h => ?_)
    refine l_end ?_
    refine wp_seq ?_
    refine c_rs ?_ -- region 6
    refine s_move h rfl _ rfl rfl (by decide) rfl (fun a h => ?_)
    refine s_x h rfl rfl (by decide) (x_bin h.k rfl rfl rfl ib_neq) (fun a h => ?_)
    refine s_move h rfl _ rfl rfl (by decide) rfl (fun a h => ?_)
    refine q_grp h 3 (t := 23) 26 ((decide (x5.2 ≠ 0)) || (decide (w64 ((x5.1.length : Int) - 1) < 1))) rfl (fun hB2 => ?_) (fun hB2 => ?_) (fun a w h => ?_)
    · refine g_no h rfl rfl rfl rfl hB2 rfl (by decide) (fun a h => ?_)
      refine g_no h rfl rfl rfl rfl hB2 rfl (by decide) (fun a h => ?_)
      refine s_x h rfl rfl (by decide) (x_pick (u' := undef) h.k rfl rfl (fun _ => rfl) (fun hh => absurd (hB2.symm.trans hh) (by decide))) (fun a h => ?_)
      exact (h.mid 2 rfl).val (by first | rfl | (rw [hB2]; first | rfl | simp))
    · refine g_yes h rfl rfl rfl rfl hB2 ?_
      refine s_move h rfl _ rfl rfl (by decide) rfl (fun a h => ?_)
      refine g_yes h rfl rfl rfl rfl hB2 ?_
      refine s_x h rfl rfl (by decide) (x_bin h.k rfl rfl rfl ib_lss) (fun a h => ?_)
      refine s_x h rfl rfl (by decide) (x_pick (u' := undef) h.k rfl rfl (fun hh => absurd (hB2.symm.trans hh) (by decide)) (fun _ => rfl)) (fun a h => ?_)
      exact (h.mid 2 rfl).val (by first | rfl | (rw [hB2]; first | rfl | simp))
    refine s_move h rfl _ rfl rfl (by decide) rfl (fun a h => ?_)
    refine q_grp h 3 (t := 27) 30 (((decide (x5.2 ≠ 0)) || (decide (w64 ((x5.1.length : Int) - 1) < 1))) || (decide (64 < w64 ((x5.1.length : Int) - 1)))) rfl (fun hB6 => ?_) (fun hB6 => ?_) (fun a w h => ?_)
    · refine g_no h rfl rfl rfl rfl hB6 rfl (by decide) (fun a h => ?_)
      refine g_no h rfl rfl rfl rfl hB6 rfl (by decide) (fun a h => ?_)
      refine s_x h rfl rfl (by decide) (x_pick (u' := undef) h.k rfl rfl (fun _ => rfl) (fun hh => absurd (hB6.symm.trans hh) (by decide))) (fun a h => ?_)
      exact (h.mid 2 rfl).val (by first | rfl | (rw [hB6]; first | rfl | simp))
    · refine g_yes h rfl rfl rfl rfl hB6 ?_
      refine s_move h rfl _ rfl rfl (by decide) rfl (fun a h => ?_)
      refine g_yes h rfl rfl rfl rfl hB6 ?_
      refine s_x h rfl rfl (by decide) (x_bin h.k rfl rfl rfl ib_gtr) (fun a h => ?_)
      refine s_x h rfl rfl (by decide) (x_pick (u' := undef) h.k rfl rfl (fun hh => absurd (hB6.symm.trans hh) (by decide)) (fun _ => rfl)) (fun a h => ?_)
      exact (h.mid 2 rfl).val (by first | rfl | (rw [hB6]; first | rfl | simp))
    refine s_move h rfl _ rfl rfl (by decide) rfl (fun a h => ?_)
    obtain ⟨z20, hz19, hf⟩ := bsome hf
    refine q_grp h 6 (t := 31) 37 z20 rfl (fun hB10 => ?_) (fun hB10 => ?_) (fun a w h => ?_)
    · refine g_no h rfl rfl rfl rfl hB10 rfl (by decide) (fun a h => ?_)
      refine g_no h rfl rfl rfl rfl hB10 rfl (by decide) (fun a h => ?_)
      refine g_no h rfl rfl rfl rfl hB10 rfl (by decide) (fun a h => ?_)
      refine g_no h rfl rfl rfl rfl hB10 rfl (by decide) (fun a h => ?_)
      refine g_no h rfl rfl rfl rfl hB10 rfl (by decide) (fun a h => ?_)
      rw [if_pos hB10] at hz19
      refine s_x h rfl rfl (by decide) (x_pick (u' := undef) h.k rfl rfl (fun _ => rfl) (fun hh => absurd (hB10.symm.trans hh) (by decide))) (fun a h => ?_)
      exact (h.mid 5 rfl).val (by rw [Option.some.inj hz19])
    · rw [if_neg (by rw [hB10]; decide)] at hz19
      refine g_yes h rfl rfl rfl rfl hB10 ?_
      refine s_move h rfl _ rfl rfl (by decide) rfl (fun a h => ?_)
      refine g_yes h rfl rfl rfl rfl hB10 ?_
      obtain ⟨x22, h23, hz19⟩ := bsome hz19
      have hX := code_Groups_ok Fu (S0 := snapAll _) x1 hr4 5 (show r64 5 from ⟨by decide, by decide⟩) _ h23 _ h.startAll
      refine q_callX hX h rfl rfl rfl (by decide) Tryd.func34 rfl rfl rfl (fun a w v L1 S1 hR hb1 h => ?_)
      obtain ⟨A25, c26, cs27, rfl, rfl, hq28, _⟩ := hR
      have hq29 := hq28.fl (S' := S0) fl_S
      refine g_yes h rfl rfl rfl rfl hB10 ?_
      obtain ⟨x30, h31, hz19⟩ := bsome hz19
      have hX := strings_Join_ok Fu (S0 := snapAll _) A25 c26 x22 (h.m.rowAll (i := 0) rfl (j := 2) rfl hq29) ([45] : List UInt8) (by decide) _ h31 _ h.startAll
      refine q_callX hX h rfl rfl rfl (by decide) Tryd.func33 rfl rfl rfl (fun a w v L1 S1 hR hb1 h => ?_)
      obtain ⟨rfl, rfl, hr33, _⟩ := hR
      refine g_yes h rfl rfl rfl rfl hB10 ?_
      refine s_move h rfl _ rfl rfl (by decide) rfl (fun a h => ?_)
      refine g_yes h rfl rfl rfl rfl hB10 ?_
      refine s_x h rfl rfl (by decide) (x_neqStr h.k rfl rfl rfl) (fun a h => ?_)
      refine s_x h rfl rfl (by decide) (x_pick (u' := undef) h.k rfl rfl (fun hh => absurd (hB10.symm.trans hh) (by decide)) (fun _ => rfl)) (fun a h => ?_)
      have h := h.pick [1, 2] (by decide) rfl
      exact (h.mid 5 rfl).val (by rw [Option.some.inj hz19])
    refine l_end ?_
    refine c_cond h rfl (fun hb => ?_) (fun hb => ?_)
    · rw [if_pos hb] at hf
      refine c_rs ?_ -- region 7
      refine s_assign h rfl _ rfl rfl (by decide) rfl (fun a h => ?_)
      refine s_assign h rfl _ rfl rfl (by decide) rfl (fun a h => ?_)
      refine l_end ?_
      refine wp_ret ?_
      refine e_thenR ?_
      obtain rfl := Option.some.inj hf
      exact r_ret2 h rfl (rv_tmp h rfl) (rv_tmp h rfl) ⟨_, [], _, rfl, ⟨none, 0, rfl, rfl, (slS.nil ty8 S0), (show r64 11 from ⟨by decide, by decide⟩), trivial⟩, rfl, (Up.refl _ _ _), (h.m.pick [1] _ (by decide) rfl)⟩
    · rw [if_neg (by rw [hb]; decide)] at hf
      refine wp_skip ?_
      refine e_thenN ?_
      refine wp_seq ?_
      obtain ⟨S34, le35, up36, hs37, h⟩ := q_freeze (T := ty8) h (Up.refl _ _ _) hq13
      refine wp_seq ?_
      -- region 8 draws
      obtain ⟨x38, h39, hf⟩ := bsome hf
      obtain ⟨x48, h49, hf⟩ := bsome hf
      obtain ⟨x51, h55, hf⟩ := bsome hf
      refine d_start h (Mem _ _ _) 9 9 rfl (by kernel_rfl) (fun _ _ _ _ _ h => h) (fun _ h => h) (fun Q a w HE HN h HS => ?_)
      refine d_takeP h (fun _ => HS) HN 0 rfl (by kernel_rfl) (by kernel_rfl) (by kernel_rfl) (by decide) rfl rfl (by decide) (fun w' => x_move h.k _ rfl rfl) (fun a h => ?_)
      refine d_takeP h (fun _ => HS) HN 1 rfl (by kernel_rfl) (by kernel_rfl) (by kernel_rfl) (by decide) rfl rfl (by decide) (fun w' => x_move h.k _ rfl rfl) (fun a h => ?_)
      obtain ⟨m40, n41, hi42, hi43, hm44, hm45, hr46⟩ := sub_some h39
      have hs47 := slS.sub (hs37) hm44 hm45 (Nat.le_trans hm45 (hs37).1) (Nat.le_refl _) hr46
      refine d_takeP h (fun _ => HS) HN 2 rfl (by kernel_rfl) (by kernel_rfl) (by kernel_rfl) (by decide) rfl rfl (by decide) (fun w' => x_sliceE h.k rfl Tryd.underlying23 sz_uint8 rfl c9 hr46 (bd_none (by omega)) (bd_some rfl hi43) (bd_none rfl) (by intro hh; cases hh) hm44 hm45 (Nat.le_trans hm45 (hs37).1) (Nat.le_refl _)) (fun a h => ?_)
      refine d_takeP h (fun _ => HS) HN 4 rfl (by kernel_rfl) (by kernel_rfl) (by kernel_rfl) (by decide) rfl rfl (by decide) (fun w' => x_move h.k _ rfl rfl) (fun a h => ?_)
      refine d_takeP h (fun _ => HS) HN 5 rfl (by kernel_rfl) (by kernel_rfl) (by kernel_rfl) (by decide) rfl rfl (by decide) (fun w' => x_move h.k _ rfl rfl) (fun a h => ?_)
      obtain ⟨m52, hi56, hm57, hx58⟩ := idx_some h55
      obtain ⟨b53, off54, k59, hA60, hu61, hc62⟩ := (hs37).at1 rfl hx58 (h.m.snOK (i := 0) rfl)
      cases hu61
      refine d_takeP h (fun _ => HS) HN 6 rfl (by kernel_rfl) (by kernel_rfl) (by kernel_rfl) (by decide) rfl rfl (by decide) (fun w' => x_iaddrE h.k rfl Tryd.underlying23 sz_uint8 hA60 rfl rfl hi56 hm57) (fun a h => ?_)
      refine d_take h HS HN 7 rfl (by kernel_rfl) (by kernel_rfl) (by kernel_rfl) (by kernel_rfl) (by kernel_rfl) rfl rfl (by decide) (fun w' hw => x_ld h.k rfl Tryd.underlying5 rfl rfl (hc62 _ (hw.snOK (i := 0) rfl))) (fun a h => ?_)
      refine d_alone 3 rfl (by kernel_rfl) (fun K hK => ?_)
      have hX := code_check_ok Fu (S0 := snapAll _) (sA A8 c9 m40 1) (c9 - m40) x38 (hs47.mono (h.m.leAll (i := 0) rfl)) _ h49 _ h.startAll
      refine q_callX hX h rfl rfl rfl (by decide) Tryd.func32 rfl rfl rfl (fun a w v L1 S1 hR hb1 h => ?_)
      obtain ⟨rfl, rfl, _⟩ := hR
      refine hK _ _ (fun _ _ => HS.ext hb1) ?_
      replace HS := HS.ext hb1
      clear hK
      refine d_takeP h (fun _ => HS) HN 8 rfl (by kernel_rfl) (by kernel_rfl) (by kernel_rfl) (by decide) rfl rfl (by decide) (fun w' => x_bin h.k rfl rfl rfl ib_neq) (fun a h => ?_)
      refine d_done (by kernel_rfl) (HE _ _ ?_) _
      refine e_thenN ?_
      refine c_cond h rfl (fun hb => ?_) (fun hb => ?_)
      · rw [if_pos (of_decide_eq_true hb)] at hf
        refine c_rs ?_ -- region 9
        refine s_assign h rfl _ rfl rfl (by decide) rfl (fun a h => ?_)
        refine s_assign h rfl _ rfl rfl (by decide) rfl (fun a h => ?_)
        refine l_end ?_
        refine wp_ret ?_
        refine e_thenR ?_
        obtain rfl := Option.some.inj hf
        exact r_ret2 h rfl (rv_tmp h rfl) (rv_tmp h rfl) ⟨_, [], _, rfl, ⟨none, 0, rfl, rfl, (slS.nil ty8 S34), (show r64 21 from ⟨by decide, by decide⟩), trivial⟩, rfl, up36, h.m⟩
      · rw [if_neg (of_decide_eq_false hb)] at hf
        refine wp_skip ?_
        refine e_thenN ?_
        refine c_rs ?_ -- region 10
        refine s_move h rfl _ rfl rfl (by decide) rfl (fun a h => ?_)
        refine s_move h rfl _ rfl rfl (by decide) rfl (fun a h => ?_)
        refine s_move h rfl _ rfl rfl (by decide) rfl (fun a h => ?_)
        obtain ⟨x63, h64, hf⟩ := bsome hf
        obtain ⟨m65, n66, hi67, hi68, hm69, hm70, hr71⟩ := sub_some h64
        have hs72 := slS.sub (hs37) hm69 hm70 (Nat.le_refl _) (Nat.le_trans hm70 (hs37).1) hr71
        refine s_x h rfl rfl (by decide) (x_sliceE h.k rfl Tryd.underlying23 sz_uint8 rfl n66 hr71 (bd_none (by omega)) (bd_some rfl hi68) (bd_some rfl hi68) (by intro hh; cases hh) hm69 hm70 (Nat.le_refl _) (Nat.le_trans hm70 (hs37).1)) (fun a h => ?_)
        refine s_assign h rfl _ rfl rfl (by decide) rfl (fun a h => ?_)
        refine s_assign h rfl _ rfl rfl (by decide) rfl (fun a h => ?_)
        refine l_end ?_
        refine wp_ret ?_
        obtain rfl := Option.some.inj hf
        exact r_ret2 h rfl (rv_tmp h rfl) (rv_tmp h rfl) ⟨_, [], _, rfl, ⟨(sA A8 n66 m65 1), (n66 - m65), rfl, rfl, hs72, (show r64 0 from ⟨by decide, by decide⟩), trivial⟩, rfl, up36, h.m⟩
end Go.Proofs.YtcjleeclpmgbjaaDoor
