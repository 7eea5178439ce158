/- Cx: Go functions as plain functions, and that they are so (written by xt.py). -/
import Derived.Test.YtcjleeclpmgbjaaCc
import Derived.Test.YtcjleeclpmgbjaaEb
set_option linter.unusedVariables false
set_option linter.unusedSimpArgs false
namespace Go.Proofs.Ytcjleeclpmgbjaa
open Go.RowKit
def chatelainelaw46_CodeLetters_l0 (Fu : Nat) (a2 : Int) (x43 : (List (List UInt8))) : Nat → (List UInt8) → Int → Option (Sum Bool ((List UInt8)))
  | 0, _, _ => none
  | k + 1, x55, x57 => if x57 < (x43.length : Int) then ((ix x43.length x57).bind fun m63 => (x43[m63]?).bind fun x69 => if (((decide ((x69.length : Int) = 0)) || (decide (a2 < (x69.length : Int)))) || ((decide (x57 < w64 ((x43.length : Int) - 1))) && (decide ((x69.length : Int) ≠ a2)))) = true then (some (.inl false)) else ((sapp x55 x69).bind fun x83 => chatelainelaw46_CodeLetters_l0 Fu a2 x43 k x83 (w64 (x57 + 1)))) else (some (.inr x55))
def chatelainelaw46_CodeLetters (Fu : Nat) (a0 : List UInt8) (a1 : List UInt8) (a2 : Int) : Option Bool :=
  (chatelainelaw46_awake Fu).bind fun x1 => if (!x1) = true then (some false) else (if ((decide (200 < (a0.length : Int))) || (decide (300 < (a1.length : Int)))) = true then (some true) else ((code_Bytes Fu a1).bind fun x6 => (chatelaineref46_Bytes Fu a1).bind fun x15 => (code_Letters Fu a0).bind fun x23 => (chatelaineref46_Letters Fu a0).bind fun x27 => (if (((!(decide (x23 = x27))) || (!((decide (x6.2 = 0)) == x15.2))) || ((!x15.2) && (decide (x6.2 ≠ 11)))) = true then some true else (chatelaineref01_Same Fu x6.1 x15.1).bind fun x40 => some (!x40)).bind fun z38 => if z38 = true then (some false) else ((code_Groups Fu a1 a2).bind fun x43 => if a2 < 1 then (some (decide ((x43.length : Int) = 0))) else ((chatelainelaw46_CodeLetters_l0 Fu a2 x43 Fu ([] : List UInt8) 0).bind fun o => match o with | .inl r85 => some r85 | .inr x59 => some (decide (x59 = a1))))))
set_option maxRecDepth 100000 in
set_option maxHeartbeats 2000000 in
theorem chatelainelaw46_CodeLetters_ok (Fu : Nat) {S0 : Snap} (Aa0 : Option Addr) (ca0 : Nat) (a0 : List UInt8) (hsa0 : slS ty8 S0 Aa0 ca0 a0) (a1 : List UInt8) (hra1 : a1.length ≤ maxLen) (a2 : Int) (hra2 : r64 a2) (r : Bool) (hf : chatelainelaw46_CodeLetters Fu a0 a1 a2 = some r) (w0 : World) (hm : Mem w0 (ownL ([] ++ [.sn S0])) ([] ++ [.sn S0]) w0) :
    Calls Try.prog 5 #[.slice Aa0 a0.length ca0, .string (sb a1), .int .i64 a2] w0 (Ret w0 S0 [] (fun v L1 S1 => v = .bool r ∧ L1 = [] ∧ True)) := by
  unfold chatelainelaw46_CodeLetters at hf
  refine c_enterM Try.func5 rfl 104 rfl (by simp) _ hm _ rfl (fun a h => ?_)
  refine c_rs ?_ -- region 0
  refine s_assign h rfl _ rfl rfl (by decide) rfl (fun a h => ?_)
  refine l_end ?_
  refine wp_seq ?_
  refine c_rs ?_ -- region 1
  obtain ⟨x1, h2, hf⟩ := bsome hf
  have hX := chatelainelaw46_awake_ok Fu (S0 := snapAll _)  _ h2 _ h.startAll
  refine q_callX hX h rfl rfl rfl (by decide) Try.func24 rfl rfl rfl (fun a w v L1 S1 hR hb1 h => ?_)
  obtain ⟨rfl, rfl, _⟩ := hR
  refine s_x h rfl rfl (by decide) (x_not h.k rfl rfl) (fun a h => ?_)
  refine l_end ?_
  refine c_cond h rfl (fun hb => ?_) (fun hb => ?_)
  · rw [if_pos hb] at hf
    refine c_rs ?_ -- region 2
    refine s_assign h rfl _ rfl rfl (by decide) rfl (fun a h => ?_)
    refine l_end ?_
    refine wp_ret ?_
    refine e_thenR ?_
    rw [← Option.some.inj hf]
    exact r_ret1 h rfl (rv_tmp h rfl) ⟨_, [], _, rfl, ⟨rfl, rfl, trivial⟩, rfl, (Up.refl _ _ _), h.m⟩
  · rw [if_neg (by rw [hb]; decide)] at hf
    refine wp_skip ?_
    refine e_thenN ?_
    refine wp_seq ?_
    refine c_rs ?_ -- region 3
    refine s_move h rfl _ rfl rfl (by decide) rfl (fun a h => ?_)
    refine s_x h rfl rfl (by decide) (x_len h.k rfl Try.underlying22 rfl) (fun a h => ?_)
    refine s_x h rfl rfl (by decide) (x_bin h.k rfl rfl rfl ib_gtr) (fun a h => ?_)
    refine s_move h rfl _ rfl rfl (by decide) rfl (fun a h => ?_)
    refine q_grp h 4 (t := 20) 24 ((decide (200 < (a0.length : Int))) || (decide (300 < (a1.length : Int)))) rfl (fun hB3 => ?_) (fun hB3 => ?_) (fun a w h => ?_)
    · refine g_no h rfl rfl rfl rfl hB3 rfl (by decide) (fun a h => ?_)
      refine g_no h rfl rfl rfl rfl hB3 rfl (by decide) (fun a h => ?_)
      refine g_no h rfl rfl rfl rfl hB3 rfl (by decide) (fun a h => ?_)
      refine s_x h rfl rfl (by decide) (x_pick (u' := undef) h.k rfl rfl (fun _ => rfl) (fun hh => absurd (hB3.symm.trans hh) (by decide))) (fun a h => ?_)
      exact (h.mid 3 rfl).val (by first | rfl | (rw [hB3]; first | rfl | simp))
    · refine g_yes h rfl rfl rfl rfl hB3 ?_
      refine s_move h rfl _ rfl rfl (by decide) rfl (fun a h => ?_)
      refine g_yes h rfl rfl rfl rfl hB3 ?_
      refine s_x h rfl rfl (by decide) (x_lenStr h.k rfl Try.underlying9 rfl) (fun a h => ?_)
      refine g_yes h rfl rfl rfl rfl hB3 ?_
      refine s_x h rfl rfl (by decide) (x_bin h.k rfl rfl rfl ib_gtr) (fun a h => ?_)
      refine s_x h rfl rfl (by decide) (x_pick (u' := undef) h.k rfl rfl (fun hh => absurd (hB3.symm.trans hh) (by decide)) (fun _ => rfl)) (fun a h => ?_)
      exact (h.mid 3 rfl).val (by first | rfl | (rw [hB3]; first | rfl | simp))
    refine l_end ?_
    refine c_cond h rfl (fun hb => ?_) (fun hb => ?_)
    · rw [if_pos hb] at hf
      refine c_rs ?_ -- region 4
      refine s_assign h rfl _ rfl rfl (by decide) rfl (fun a h => ?_)
      refine l_end ?_
      refine wp_ret ?_
      refine e_thenR ?_
      rw [← Option.some.inj hf]
      exact r_ret1 h rfl (rv_tmp h rfl) ⟨_, [], _, rfl, ⟨rfl, rfl, trivial⟩, rfl, (Up.refl _ _ _), h.m⟩
    · rw [if_neg (by rw [hb]; decide)] at hf
      refine wp_skip ?_
      refine e_thenN ?_
      refine c_rs ?_ -- region 5
      refine s_move h rfl _ rfl rfl (by decide) rfl (fun a h => ?_)
      obtain ⟨x6, h7, hf⟩ := bsome hf
      have hX := code_Bytes_ok Fu (S0 := snapAll _) a1 hra1 _ h7 _ h.startAll
      refine q_callX hX h rfl rfl rfl (by decide) Try.func25 rfl rfl rfl (fun a w v L1 S1 hR hb1 h => ?_)
      obtain ⟨A9, c10, cs11, rfl, rfl, hq12, hr13, _⟩ := hR
      have hq14 := hq12.fl (S' := S0) fl_8
      refine s_move h rfl _ rfl rfl (by decide) rfl (fun a h => ?_)
      refine s_x h rfl rfl (by decide) (x_ext h.k rfl rfl rfl) (fun a h => ?_)
      refine s_x h rfl rfl (by decide) (x_ext h.k rfl rfl rfl) (fun a h => ?_)
      refine s_assign h rfl _ rfl rfl (by decide) rfl (fun a h => ?_)
      refine s_assign h rfl _ rfl rfl (by decide) rfl (fun a h => ?_)
      refine l_end ?_
      refine c_rs ?_ -- region 6
      refine s_move h rfl _ rfl rfl (by decide) rfl (fun a h => ?_)
      obtain ⟨x15, h16, hf⟩ := bsome hf
      have hX := chatelaineref46_Bytes_ok Fu (S0 := snapAll _) a1 hra1 _ h16 _ h.startAll
      refine q_callX hX h rfl rfl rfl (by decide) Try.func26 rfl rfl rfl (fun a w v L1 S1 hR hb1 h => ?_)
      obtain ⟨A18, c19, cs20, rfl, rfl, hq21, _⟩ := hR
      have hq22 := hq21.fl (S' := S0) fl_8
      refine s_move h rfl _ rfl rfl (by decide) rfl (fun a h => ?_)
      refine s_x h rfl rfl (by decide) (x_ext h.k rfl rfl rfl) (fun a h => ?_)
      refine s_x h rfl rfl (by decide) (x_ext h.k rfl rfl rfl) (fun a h => ?_)
      refine s_assign h rfl _ rfl rfl (by decide) rfl (fun a h => ?_)
      refine s_assign h rfl _ rfl rfl (by decide) rfl (fun a h => ?_)
      refine l_end ?_
      refine wp_seq ?_
      refine c_rs ?_ -- region 7
      refine s_move h rfl _ rfl rfl (by decide) rfl (fun a h => ?_)
      obtain ⟨x23, h24, hf⟩ := bsome hf
      have hX := code_Letters_ok Fu (S0 := snapAll _) Aa0 ca0 a0 (hsa0.mono (h.m.leAll (i := 2) rfl)) _ h24 _ h.startAll
      refine q_callX hX h rfl rfl rfl (by decide) Try.func27 rfl rfl rfl (fun a w v L1 S1 hR hb1 h => ?_)
      obtain ⟨rfl, rfl, hr26, _⟩ := hR
      refine s_move h rfl _ rfl rfl (by decide) rfl (fun a h => ?_)
      obtain ⟨x27, h28, hf⟩ := bsome hf
      have hX := chatelaineref46_Letters_ok Fu (S0 := snapAll _) Aa0 ca0 a0 (hsa0.mono (h.m.leAll (i := 2) rfl)) _ h28 _ h.startAll
      refine q_callX hX h rfl rfl rfl (by decide) Try.func28 rfl rfl rfl (fun a w v L1 S1 hR hb1 h => ?_)
      obtain ⟨rfl, rfl, hr30, _⟩ := hR
      refine s_x h rfl rfl (by decide) (x_neqStr h.k rfl rfl rfl) (fun a h => ?_)
      refine s_move h rfl _ rfl rfl (by decide) rfl (fun a h => ?_)
      refine q_grp h 5 (t := 40) 45 ((!(decide (x23 = x27))) || (!((decide (x6.2 = 0)) == x15.2))) rfl (fun hB5 => ?_) (fun hB5 => ?_) (fun a w h => ?_)
      · refine g_no h rfl rfl rfl rfl hB5 rfl (by decide) (fun a h => ?_)
        refine g_no h rfl rfl rfl rfl hB5 rfl (by decide) (fun a h => ?_)
        refine g_no h rfl rfl rfl rfl hB5 rfl (by decide) (fun a h => ?_)
        refine g_no h rfl rfl rfl rfl hB5 rfl (by decide) (fun a h => ?_)
        refine s_x h rfl rfl (by decide) (x_pick (u' := undef) h.k rfl rfl (fun _ => rfl) (fun hh => absurd (hB5.symm.trans hh) (by decide))) (fun a h => ?_)
        exact (h.mid 4 rfl).val (by first | rfl | (rw [hB5]; first | rfl | simp))
      · refine g_yes h rfl rfl rfl rfl hB5 ?_
        refine s_move h rfl _ rfl rfl (by decide) rfl (fun a h => ?_)
        refine g_yes h rfl rfl rfl rfl hB5 ?_
        refine s_x h rfl rfl (by decide) (x_bin h.k rfl rfl rfl ib_eql) (fun a h => ?_)
        refine g_yes h rfl rfl rfl rfl hB5 ?_
        refine s_move h rfl _ rfl rfl (by decide) rfl (fun a h => ?_)
        refine g_yes h rfl rfl rfl rfl hB5 ?_
        refine s_x h rfl rfl (by decide) (x_neqB h.k rfl Try.underlying4 rfl rfl) (fun a h => ?_)
        refine s_x h rfl rfl (by decide) (x_pick (u' := undef) h.k rfl rfl (fun hh => absurd (hB5.symm.trans hh) (by decide)) (fun _ => rfl)) (fun a h => ?_)
        exact (h.mid 4 rfl).val (by first | rfl | (rw [hB5]; first | rfl | simp))
      refine s_move h rfl _ rfl rfl (by decide) rfl (fun a h => ?_)
      refine q_grp h 7 (t := 46) 53 (((!(decide (x23 = x27))) || (!((decide (x6.2 = 0)) == x15.2))) || ((!x15.2) && (decide (x6.2 ≠ 11)))) rfl (fun hB11 => ?_) (fun hB11 => ?_) (fun a w h => ?_)
      · refine g_no h rfl rfl rfl rfl hB11 rfl (by decide) (fun a h => ?_)
        refine g_no h rfl rfl rfl rfl hB11 rfl (by decide) (fun a h => ?_)
        refine g_no h rfl rfl rfl rfl hB11 rfl (by decide) (fun a h => ?_)
        refine g_off h rfl rfl rfl rfl rfl (by decide) (fun a h => ?_)
        refine g_off h rfl rfl rfl rfl rfl (by decide) (fun a h => ?_)
        refine g_no h rfl rfl rfl rfl hB11 rfl (by decide) (fun a h => ?_)
        refine s_x h rfl rfl (by decide) (x_pick (u' := undef) h.k rfl rfl (fun _ => rfl) (fun hh => absurd (hB11.symm.trans hh) (by decide))) (fun a h => ?_)
        exact (h.mid 6 rfl).val (by first | rfl | (rw [hB11]; first | rfl | simp))
      · refine g_yes h rfl rfl rfl rfl hB11 ?_
        refine s_move h rfl _ rfl rfl (by decide) rfl (fun a h => ?_)
        refine g_yes h rfl rfl rfl rfl hB11 ?_
        refine s_x h rfl rfl (by decide) (x_not h.k rfl rfl) (fun a h => ?_)
        refine g_yes h rfl rfl rfl rfl hB11 ?_
        refine s_move h rfl _ rfl rfl (by decide) rfl (fun a h => ?_)
        refine q_grp h 3 (t := 49) 52 ((!x15.2) && (decide (x6.2 ≠ 11))) rfl (fun hB14 => ?_) (fun hB14 => ?_) (fun a w h => ?_)
        · refine g_yes h rfl rfl rfl rfl hB14 ?_
          refine s_move h rfl _ rfl rfl (by decide) rfl (fun a h => ?_)
          refine g_yes h rfl rfl rfl rfl hB14 ?_
          refine s_x h rfl rfl (by decide) (x_bin h.k rfl rfl rfl ib_neq) (fun a h => ?_)
          refine g_yes h rfl rfl rfl rfl hB11 ?_
          refine s_x h rfl rfl (by decide) (x_pick (u' := undef) h.k rfl rfl (fun _ => rfl) (fun hh => absurd (hB14.symm.trans hh) (by decide))) (fun a h => ?_)
          exact (h.mid 2 rfl).val (by first | rfl | (rw [hB14]; first | rfl | simp))
        · refine g_no h rfl rfl rfl rfl hB14 rfl (by decide) (fun a h => ?_)
          refine g_no h rfl rfl rfl rfl hB14 rfl (by decide) (fun a h => ?_)
          refine g_yes h rfl rfl rfl rfl hB11 ?_
          refine s_x h rfl rfl (by decide) (x_pick (u' := undef) h.k rfl rfl (fun hh => absurd (hB14.symm.trans hh) (by decide)) (fun _ => rfl)) (fun a h => ?_)
          exact (h.mid 2 rfl).val (by first | rfl | (rw [hB14]; first | rfl | simp))
        refine s_x h rfl rfl (by decide) (x_pick (u' := undef) h.k rfl rfl (fun hh => absurd (hB11.symm.trans hh) (by decide)) (fun _ => rfl)) (fun a h => ?_)
        exact (h.mid 4 rfl).val (by first | rfl | (rw [hB11]; first | rfl | simp))
      refine s_move h rfl _ rfl rfl (by decide) rfl (fun a h => ?_)
      obtain ⟨z38, hz37, hf⟩ := bsome hf
      refine q_grp h 5 (t := 54) 59 z38 rfl (fun hB19 => ?_) (fun hB19 => ?_) (fun a w h => ?_)
      · refine g_no h rfl rfl rfl rfl hB19 rfl (by decide) (fun a h => ?_)
        refine g_no h rfl rfl rfl rfl hB19 rfl (by decide) (fun a h => ?_)
        refine g_no h rfl rfl rfl rfl hB19 rfl (by decide) (fun a h => ?_)
        refine g_no h rfl rfl rfl rfl hB19 rfl (by decide) (fun a h => ?_)
        rw [if_pos hB19] at hz37
        refine s_x h rfl rfl (by decide) (x_pick (u' := undef) h.k rfl rfl (fun _ => rfl) (fun hh => absurd (hB19.symm.trans hh) (by decide))) (fun a h => ?_)
        exact (h.mid 4 rfl).val (by rw [Option.some.inj hz37])
      · rw [if_neg (by rw [hB19]; decide)] at hz37
        refine g_yes h rfl rfl rfl rfl hB19 ?_
        refine s_move h rfl _ rfl rfl (by decide) rfl (fun a h => ?_)
        refine g_yes h rfl rfl rfl rfl hB19 ?_
        refine s_move h rfl _ rfl rfl (by decide) rfl (fun a h => ?_)
        refine g_yes h rfl rfl rfl rfl hB19 ?_
        obtain ⟨x40, h41, hz37⟩ := bsome hz37
        have hX := chatelaineref01_Same_ok Fu (S0 := snapAll _) A9 c10 x6.1 (h.m.rowAll (i := 1) rfl (j := 2) rfl hq14) A18 c19 x15.1 (h.m.rowAll (i := 0) rfl (j := 2) rfl hq22) _ h41 _ h.startAll
        refine q_callX hX h rfl rfl rfl (by decide) Try.func12 rfl rfl rfl (fun a w v L1 S1 hR hb1 h => ?_)
        obtain ⟨rfl, rfl, _⟩ := hR
        refine g_yes h rfl rfl rfl rfl hB19 ?_
        refine s_x h rfl rfl (by decide) (x_not h.k rfl rfl) (fun a h => ?_)
        refine s_x h rfl rfl (by decide) (x_pick (u' := undef) h.k rfl rfl (fun hh => absurd (hB19.symm.trans hh) (by decide)) (fun _ => rfl)) (fun a h => ?_)
        exact (h.mid 4 rfl).val (by rw [Option.some.inj hz37])
      refine l_end ?_
      refine c_cond h rfl (fun hb => ?_) (fun hb => ?_)
      · rw [if_pos hb] at hf
        refine c_rs ?_ -- region 8
        refine s_assign h rfl _ rfl rfl (by decide) rfl (fun a h => ?_)
        refine l_end ?_
        refine wp_ret ?_
        refine e_thenR ?_
        rw [← Option.some.inj hf]
        exact r_ret1 h rfl (rv_tmp h rfl) ⟨_, [], _, rfl, ⟨rfl, rfl, trivial⟩, rfl, (Up.refl _ _ _), (h.m.pick [2] _ (by decide) rfl)⟩
      · rw [if_neg (by rw [hb]; decide)] at hf
        refine wp_skip ?_
        refine e_thenN ?_
        refine c_rs ?_ -- region 9
        refine s_move h rfl _ rfl rfl (by decide) rfl (fun a h => ?_)
        refine s_move h rfl _ rfl rfl (by decide) rfl (fun a h => ?_)
        obtain ⟨x43, h44, hf⟩ := bsome hf
        have hX := code_Groups_ok Fu (S0 := snapAll _) a1 hra1 a2 hra2 _ h44 _ h.startAll
        refine q_callX hX h rfl rfl rfl (by decide) Try.func29 rfl rfl rfl (fun a w v L1 S1 hR hb1 h => ?_)
        obtain ⟨A46, c47, cs48, rfl, rfl, hq49, _⟩ := hR
        have hq50 := hq49.fl (S' := S0) fl_S
        refine s_assign h rfl _ rfl rfl (by decide) rfl (fun a h => ?_)
        refine l_end ?_
        refine wp_seq ?_
        refine c_rs ?_ -- region 10
        refine s_move h rfl _ rfl rfl (by decide) rfl (fun a h => ?_)
        refine s_x h rfl rfl (by decide) (x_bin h.k rfl rfl rfl ib_lss) (fun a h => ?_)
        refine l_end ?_
        refine c_cond h rfl (fun hb => ?_) (fun hb => ?_)
        · rw [if_pos (of_decide_eq_true hb)] at hf
          refine c_rs ?_ -- region 11
          refine s_move h rfl _ rfl rfl (by decide) rfl (fun a h => ?_)
          have hr51 : r64 (x43.length : Int) := len_r (h.m.rowLen (i := 0) rfl)
          refine s_x h rfl rfl (by decide) (x_len h.k rfl Try.underlying60 rfl) (fun a h => ?_)
          refine s_x h rfl rfl (by decide) (x_bin h.k rfl rfl rfl ib_eql) (fun a h => ?_)
          refine s_assign h rfl _ rfl rfl (by decide) rfl (fun a h => ?_)
          refine l_end ?_
          refine wp_ret ?_
          refine e_thenR ?_
          obtain rfl := Option.some.inj hf
          exact r_ret1 h rfl (rv_tmp h rfl) ⟨_, [], _, rfl, ⟨rfl, rfl, trivial⟩, rfl, (Up.refl _ _ _), (h.m.pick [3] _ (by decide) rfl)⟩
        · rw [if_neg (of_decide_eq_false hb)] at hf
          refine wp_skip ?_
          refine e_thenN ?_
          refine c_rs ?_ -- region 12
          refine s_assign h rfl _ rfl rfl (by decide) rfl (fun a h => ?_)
          refine l_end ?_
          refine wp_seq ?_
          refine c_rs ?_ -- region 13
          refine s_move h rfl _ rfl rfl (by decide) rfl (fun a h => ?_)
          have hr52 : r64 (x43.length : Int) := len_r (h.m.rowLen (i := 0) rfl)
          refine s_x h rfl rfl (by decide) (x_len h.k rfl Try.underlying60 rfl) (fun a h => ?_)
          refine s_move h rfl _ rfl rfl (by decide) rfl (fun a h => ?_)
          refine l_end ?_
          obtain ⟨o53, hl54, hf⟩ := bsome hf
          refine c_fin (fun a w => ∃ (x59 : List UInt8), (.inr x59) = o53 ∧ x59.length ≤ maxLen ∧ St 104 w0 (ownL ([] ++ [.sn S0])) [(1, .string (sb a1)), (12, .string (sb x59))] [.sn S0] a w) ?_ ?_
          · refine wp_block ?_
            have h := h.pick [0, 3] (by decide) rfl
            refine c_loop (fun m62 a w => ∃ (x55 : List UInt8), ∃ (x57 : Int), chatelainelaw46_CodeLetters_l0 Fu a2 x43 m62 x55 x57 = some o53 ∧ x55.length ≤ maxLen ∧ r64 x57 ∧ St 104 w0 (ownL ([] ++ [.sn S0])) [(1, .string (sb a1)), (2, .int .i64 a2), (11, .slice A46 x43.length c47), (12, .string (sb x55)), (68, .slice A46 x43.length c47), (69, .int .i64 (x43.length : Int)), (70, .int .i64 x57)] [.row (.slice A46 x43.length c47) 9 1 x43.length cs48, .sn S0] a w) Fu ⟨([] : List UInt8), 0, hl54, (by decide), (show r64 0 from ⟨by decide, by decide⟩), h.has (by exact ⟨rfl, rfl, rfl, rfl, rfl, rfl, rfl, trivial⟩)⟩ (fun m62 a w hI => ?_)
            obtain ⟨x55, x57, hl61, hr56, hr58, h⟩ := hI
            obtain _ | m62 := m62
            · rw [chatelainelaw46_CodeLetters_l0] at hl61; cases hl61
            rw [chatelainelaw46_CodeLetters_l0] at hl61
            refine c_rs ?_ -- region 14
            refine s_x h rfl rfl (by decide) (x_bin h.k rfl rfl rfl ib_lss) (fun a h => ?_)
            refine l_end ?_
            refine c_cs h rfl (fun hb => ?_) (fun hb => ?_)
            · rw [if_pos (of_decide_eq_true hb)] at hl61
              refine wp_skip ?_
              refine e_thenN ?_
              refine wp_seq ?_
              refine wp_block ?_
              refine c_rs ?_ -- region 15
              refine s_move h rfl _ rfl rfl (by decide) rfl (fun a h => ?_)
              obtain ⟨m63, h64, hl61⟩ := bsome hl61
              obtain ⟨hi65, hm66⟩ := ix_some h64
              obtain ⟨g68, hA67⟩ := h.m.rowHead (i := 0) rfl (Nat.lt_of_le_of_lt (Nat.zero_le _) hm66)
              refine s_x h rfl rfl (by decide) (x_iaddrE h.k rfl Try.underlying60 sz_string hA67 rfl rfl hi65 hm66) (fun a h => ?_)
              obtain ⟨x69, h70, hl61⟩ := bsome hl61
              obtain ⟨u71, hv72, hu73⟩ := (hq50).cell rfl h70
              obtain ⟨e75, hr74⟩ := hu73
              cases e75
              refine s_x h rfl rfl (by decide) (x_ld h.k rfl Try.underlying9 rfl rfl (h.m.cellRowE (i := 0) rfl hA67 _ (by rw [Nat.mul_one]; exact hv72))) (fun a h => ?_)
              refine s_assign h rfl _ rfl rfl (by decide) rfl (fun a h => ?_)
              refine s_assign h rfl _ rfl rfl (by decide) rfl (fun a h => ?_)
              refine l_end ?_
              refine wp_seq ?_
              refine c_rs ?_ -- region 16
              refine s_move h rfl _ rfl rfl (by decide) rfl (fun a h => ?_)
              refine s_x h rfl rfl (by decide) (x_lenStr h.k rfl Try.underlying9 rfl) (fun a h => ?_)
              refine s_x h rfl rfl (by decide) (x_bin h.k rfl rfl rfl ib_eql) (fun a h => ?_)
              refine s_move h rfl _ rfl rfl (by decide) rfl (fun a h => ?_)
              refine q_grp h 5 (t := 78) 83 ((decide ((x69.length : Int) = 0)) || (decide (a2 < (x69.length : Int)))) rfl (fun hB3 => ?_) (fun hB3 => ?_) (fun a w h => ?_)
              · refine g_no h rfl rfl rfl rfl hB3 rfl (by decide) (fun a h => ?_)
                refine g_no h rfl rfl rfl rfl hB3 rfl (by decide) (fun a h => ?_)
                refine g_no h rfl rfl rfl rfl hB3 rfl (by decide) (fun a h => ?_)
                refine g_no h rfl rfl rfl rfl hB3 rfl (by decide) (fun a h => ?_)
                refine s_x h rfl rfl (by decide) (x_pick (u' := undef) h.k rfl rfl (fun _ => rfl) (fun hh => absurd (hB3.symm.trans hh) (by decide))) (fun a h => ?_)
                exact (h.mid 4 rfl).val (by first | rfl | (rw [hB3]; first | rfl | simp))
              · refine g_yes h rfl rfl rfl rfl hB3 ?_
                refine s_move h rfl _ rfl rfl (by decide) rfl (fun a h => ?_)
                refine g_yes h rfl rfl rfl rfl hB3 ?_
                refine s_x h rfl rfl (by decide) (x_lenStr h.k rfl Try.underlying9 rfl) (fun a h => ?_)
                refine g_yes h rfl rfl rfl rfl hB3 ?_
                refine s_move h rfl _ rfl rfl (by decide) rfl (fun a h => ?_)
                refine g_yes h rfl rfl rfl rfl hB3 ?_
                refine s_x h rfl rfl (by decide) (x_bin h.k rfl rfl rfl ib_gtr) (fun a h => ?_)
                refine s_x h rfl rfl (by decide) (x_pick (u' := undef) h.k rfl rfl (fun hh => absurd (hB3.symm.trans hh) (by decide)) (fun _ => rfl)) (fun a h => ?_)
                exact (h.mid 4 rfl).val (by first | rfl | (rw [hB3]; first | rfl | simp))
              refine s_move h rfl _ rfl rfl (by decide) rfl (fun a h => ?_)
              refine q_grp h 12 (t := 84) 96 (((decide ((x69.length : Int) = 0)) || (decide (a2 < (x69.length : Int)))) || ((decide (x57 < w64 ((x43.length : Int) - 1))) && (decide ((x69.length : Int) ≠ a2)))) rfl (fun hB9 => ?_) (fun hB9 => ?_) (fun a w h => ?_)
              · refine g_no h rfl rfl rfl rfl hB9 rfl (by decide) (fun a h => ?_)
                refine g_no h rfl rfl rfl rfl hB9 rfl (by decide) (fun a h => ?_)
                refine g_no h rfl rfl rfl rfl hB9 rfl (by decide) (fun a h => ?_)
                refine g_no h rfl rfl rfl rfl hB9 rfl (by decide) (fun a h => ?_)
                refine g_no h rfl rfl rfl rfl hB9 rfl (by decide) (fun a h => ?_)
                refine g_no h rfl rfl rfl rfl hB9 rfl (by decide) (fun a h => ?_)
                refine g_off h rfl rfl rfl rfl rfl (by decide) (fun a h => ?_)
                refine g_off h rfl rfl rfl rfl rfl (by decide) (fun a h => ?_)
                refine g_off h rfl rfl rfl rfl rfl (by decide) (fun a h => ?_)
                refine g_off h rfl rfl rfl rfl rfl (by decide) (fun a h => ?_)
                refine g_no h rfl rfl rfl rfl hB9 rfl (by decide) (fun a h => ?_)
                refine s_x h rfl rfl (by decide) (x_pick (u' := undef) h.k rfl rfl (fun _ => rfl) (fun hh => absurd (hB9.symm.trans hh) (by decide))) (fun a h => ?_)
                exact (h.mid 11 rfl).val (by first | rfl | (rw [hB9]; first | rfl | simp))
              · refine g_yes h rfl rfl rfl rfl hB9 ?_
                refine s_move h rfl _ rfl rfl (by decide) rfl (fun a h => ?_)
                refine g_yes h rfl rfl rfl rfl hB9 ?_
                refine s_move h rfl _ rfl rfl (by decide) rfl (fun a h => ?_)
                refine g_yes h rfl rfl rfl rfl hB9 ?_
                have hr80 : r64 (x43.length : Int) := len_r (h.m.rowLen (i := 0) rfl)
                refine s_x h rfl rfl (by decide) (x_len h.k rfl Try.underlying60 rfl) (fun a h => ?_)
                refine g_yes h rfl rfl rfl rfl hB9 ?_
                refine s_x h rfl rfl (by decide) (x_bin h.k rfl rfl rfl (ib_sub rfl)) (fun a h => ?_)
                refine g_yes h rfl rfl rfl rfl hB9 ?_
                refine s_x h rfl rfl (by decide) (x_bin h.k rfl rfl rfl ib_lss) (fun a h => ?_)
                refine g_yes h rfl rfl rfl rfl hB9 ?_
                refine s_move h rfl _ rfl rfl (by decide) rfl (fun a h => ?_)
                refine q_grp h 5 (t := 90) 95 ((decide (x57 < w64 ((x43.length : Int) - 1))) && (decide ((x69.length : Int) ≠ a2))) rfl (fun hB15 => ?_) (fun hB15 => ?_) (fun a w h => ?_)
                · refine g_yes h rfl rfl rfl rfl hB15 ?_
                  refine s_move h rfl _ rfl rfl (by decide) rfl (fun a h => ?_)
                  refine g_yes h rfl rfl rfl rfl hB15 ?_
                  refine s_x h rfl rfl (by decide) (x_lenStr h.k rfl Try.underlying9 rfl) (fun a h => ?_)
                  refine g_yes h rfl rfl rfl rfl hB15 ?_
                  refine s_move h rfl _ rfl rfl (by decide) rfl (fun a h => ?_)
                  refine g_yes h rfl rfl rfl rfl hB15 ?_
                  refine s_x h rfl rfl (by decide) (x_bin h.k rfl rfl rfl ib_neq) (fun a h => ?_)
                  refine g_yes h rfl rfl rfl rfl hB9 ?_
                  refine s_x h rfl rfl (by decide) (x_pick (u' := undef) h.k rfl rfl (fun _ => rfl) (fun hh => absurd (hB15.symm.trans hh) (by decide))) (fun a h => ?_)
                  exact (h.mid 4 rfl).val (by first | rfl | (rw [hB15]; first | rfl | simp))
                · refine g_no h rfl rfl rfl rfl hB15 rfl (by decide) (fun a h => ?_)
                  refine g_no h rfl rfl rfl rfl hB15 rfl (by decide) (fun a h => ?_)
                  refine g_no h rfl rfl rfl rfl hB15 rfl (by decide) (fun a h => ?_)
                  refine g_no h rfl rfl rfl rfl hB15 rfl (by decide) (fun a h => ?_)
                  refine g_yes h rfl rfl rfl rfl hB9 ?_
                  refine s_x h rfl rfl (by decide) (x_pick (u' := undef) h.k rfl rfl (fun hh => absurd (hB15.symm.trans hh) (by decide)) (fun _ => rfl)) (fun a h => ?_)
                  exact (h.mid 4 rfl).val (by first | rfl | (rw [hB15]; first | rfl | simp))
                refine s_x h rfl rfl (by decide) (x_pick (u' := undef) h.k rfl rfl (fun hh => absurd (hB9.symm.trans hh) (by decide)) (fun _ => rfl)) (fun a h => ?_)
                exact (h.mid 7 rfl).val (by first | rfl | (rw [hB9]; first | rfl | simp))
              refine l_end ?_
              refine c_cond h rfl (fun hb => ?_) (fun hb => ?_)
              · rw [if_pos hb] at hl61
                refine c_rs ?_ -- region 17
                refine s_assign h rfl _ rfl rfl (by decide) rfl (fun a h => ?_)
                refine l_end ?_
                refine wp_ret ?_
                refine e_thenR ?_
                refine e_blkR ?_
                refine e_thenR ?_
                refine e_thenR ?_
                refine e_blkR ?_
                refine e_thenR ?_
                cases hl61
                try dsimp only at hf
                refine e_thenR ?_
                rw [← Option.some.inj hf]
                exact r_ret1 h rfl (rv_tmp h rfl) ⟨_, [], _, rfl, ⟨rfl, rfl, trivial⟩, rfl, (Up.refl _ _ _), (h.m.pick [1] _ (by decide) rfl)⟩
              · rw [if_neg (by rw [hb]; decide)] at hl61
                refine wp_skip ?_
                refine e_thenN ?_
                refine c_r ?_ -- region 18
                refine s_move h rfl _ rfl rfl (by decide) rfl (fun a h => ?_)
                refine s_move h rfl _ rfl rfl (by decide) rfl (fun a h => ?_)
                obtain ⟨x83, h84, hl61⟩ := bsome hl61
                refine s_x h rfl rfl (by decide) (x_addS h.k rfl rfl rfl h84) (fun a h => ?_)
                refine s_assign h rfl _ rfl rfl (by decide) rfl (fun a h => ?_)
                refine l_nil ?_
                refine e_blkN ?_
                refine e_thenN ?_
                refine c_r ?_ -- region 19
                refine s_x h rfl rfl (by decide) (x_bin h.k rfl rfl rfl (ib_add rfl)) (fun a h => ?_)
                refine s_move h rfl _ rfl rfl (by decide) rfl (fun a h => ?_)
                refine l_nil ?_
                exact e_thenN ⟨m62, Nat.lt_succ_self _, x83, w64 (x57 + 1), hl61, (sapp_some h84).2, (w64_r _), h.has (by exact ⟨rfl, rfl, rfl, rfl, rfl, rfl, rfl, trivial⟩)⟩
            · rw [if_neg (of_decide_eq_false hb)] at hl61
              refine wp_exit ?_
              refine e_thenX ?_
              refine e_thenX ?_
              refine e_blkX ?_
              refine e_thenN ?_
              have h := h.pick [1] (by decide) rfl
              exact ⟨x55, (Option.some.inj hl61), hr56, h.has (by exact ⟨rfl, rfl, trivial⟩)⟩
          · rintro a w ⟨x59, rfl, hr60, h⟩
            try dsimp only at hf
            refine e_thenN ?_
            refine c_rs ?_ -- region 20
            refine s_move h rfl _ rfl rfl (by decide) rfl (fun a h => ?_)
            refine s_move h rfl _ rfl rfl (by decide) rfl (fun a h => ?_)
            refine s_x h rfl rfl (by decide) (x_eqlStr h.k rfl rfl rfl) (fun a h => ?_)
            refine s_assign h rfl _ rfl rfl (by decide) rfl (fun a h => ?_)
            refine l_end ?_
            refine wp_ret ?_
            obtain rfl := Option.some.inj hf
            exact r_ret1 h rfl (rv_tmp h rfl) ⟨_, [], _, rfl, ⟨rfl, rfl, trivial⟩, rfl, (Up.refl _ _ _), h.m⟩
end Go.Proofs.Ytcjleeclpmgbjaa
