/- Sf: Go functions as plain functions, and that they are so (written by xt.py). -/
import Derived.Test.YtnmeelkfpmodgaaDoorSe
import Derived.Test.YtnmeelkfpmodgaaDoorSb
set_option linter.unusedVariables false
set_option linter.unusedSimpArgs false
namespace Go.Proofs.YtnmeelkfpmodgaaDoor
open Go.RowKit
def chatelainelaw42_ShowParses_l0 (Fu : Nat) (x6 : (List (Int × Int)) × Bool) : Nat → Int → Option (Sum Bool Unit)
  | 0, _ => none
  | k + 1, x20 => if x20 < (x6.1.length : Int) then ((ix x6.1.length x20).bind fun m24 => (x6.1[m24]?).bind fun x30 => (chatelaineref42_May Fu x30).bind fun x40 => if (!x40) = true then (some (.inl false)) else (chatelainelaw42_ShowParses_l0 Fu x6 k (w64 (x20 + 1)))) else (some (.inr ()))
def chatelainelaw42_ShowParses_l1 (Fu : Nat) (a1 : List (Int × Int)) : Nat → (List (Int × Int)) → Int → Option ((List (Int × Int)))
  | 0, _, _ => none
  | k + 1, x52, x57 => if x57 < (a1.length : Int) then (((idx a1 x57).bind fun x74 => (chatelaineref42_May Fu x74).bind fun x91 => if x91 = true then ((app 16 x52 ([x74])).bind fun x96 => some x96) else (some x52)).bind fun x69 => chatelainelaw42_ShowParses_l1 Fu a1 k x69 (w64 (x57 + 1))) else (some x52)
def chatelainelaw42_ShowParses (Fu : Nat) (a0 : List UInt8) (a1 : List (Int × Int)) : Option Bool :=
  (chatelainelaw42_awake Fu).bind fun x1 => if (!x1) = true then (some false) else (if ((decide (300 < (a0.length : Int))) || (decide (40 < (a1.length : Int)))) = true then (some true) else ((show_Parse Fu a0).bind fun x6 => if ((!x6.2) && (decide (0 < (x6.1.length : Int)))) = true then (some false) else ((chatelainelaw42_ShowParses_l0 Fu x6 Fu 0).bind fun o => match o with | .inl r128 => some r128 | .inr _ => (if x6.2 = true then (chatelaineref42_Extents Fu x6.1).bind fun x46 => some (!(decide (x46 = a0))) else some false).bind fun z44 => if z44 = true then (some false) else ((chatelainelaw42_ShowParses_l1 Fu a1 Fu ([]) 0).bind fun x59 => (show_Extents Fu a1).bind fun x103 => (show_Parse Fu x103).bind fun x107 => (chatelaineref42_Extents Fu x59).bind fun x115 => (if ((decide (x103 = x115)) && x107.2) = true then (chatelaineref14_Same Fu x107.1 x59).bind fun x124 => some x124 else some false).bind fun z122 => some z122))))
set_option maxRecDepth 100000 in
set_option maxHeartbeats 2000000 in
theorem chatelainelaw42_ShowParses_ok (Fu : Nat) {S0 : Snap} (hGL : GL S0) (hGT : GT S0) (a0 : List UInt8) (hra0 : a0.length ≤ maxLen) (Aa1 : Option Addr) (ca1 : Nat) (a1 : List (Int × Int)) (hsa1 : slS (tyP tyI tyI) S0 Aa1 ca1 a1) (r : Bool) (hf : chatelainelaw42_ShowParses Fu a0 a1 = some r) (w0 : World) (hm : Mem w0 (ownL ([] ++ [.sn S0])) ([] ++ [.sn S0]) w0) :
    Calls Tryd.prog 5 #[.string (sb a0), .slice Aa1 a1.length ca1] w0 (Ret w0 S0 [] (fun v L1 S1 => v = .bool r ∧ L1 = [] ∧ True)) := by
  unfold chatelainelaw42_ShowParses at hf
  refine c_enterM Tryd.func5 rfl 86 rfl (by simp) _ hm _ rfl (fun a h => ?_)
  refine c_rs ?_ -- region 0
  refine s_assign h rfl _ rfl rfl (by decide) rfl (fun a h => ?_)
  refine l_end ?_
  refine wp_seq ?_
  refine c_rs ?_ -- region 1
  obtain ⟨x1, h2, hf⟩ := bsome hf
  have hX := chatelainelaw42_awake_ok Fu (S0 := snapAll _) (hGT.mono (h.m.leAll (i := 0) rfl)) _ h2 _ h.startAll
  refine q_callX hX h rfl rfl rfl (by decide) Tryd.func6 rfl rfl rfl (fun a w v L1 S1 hR hb1 h => ?_)
  obtain ⟨rfl, rfl, _⟩ := hR
  refine s_x h rfl rfl (by decide) (x_not h.k rfl rfl) (fun a h => ?_)
  refine l_end ?_
  refine c_cond h rfl (fun hb => ?_) (fun hb => ?_)
  · rw [if_pos hb] at hf
    refine c_rs ?_ -- region 2
    refine s_assign h rfl _ rfl rfl (by decide) rfl (fun a h => ?_)
    refine l_end ?_
    refine wp_ret ?_
    refine e_thenR ?_
    rw [← Option.some.inj hf]
    exact r_ret1 h rfl (rv_tmp h rfl) ⟨_, [], _, rfl, ⟨rfl, rfl, trivial⟩, rfl, (Up.refl _ _ _), h.m⟩
  · rw [if_neg (by rw [hb]; decide)] at hf
    refine wp_skip ?_
    refine e_thenN ?_
    refine wp_seq ?_
    refine c_rs ?_ -- region 3
    refine s_move h rfl _ rfl rfl (by decide) rfl (fun a h => ?_)
    refine s_x h rfl rfl (by decide) (x_lenStr h.k rfl Tryd.underlying9 rfl) (fun a h => ?_)
    refine s_x h rfl rfl (by decide) (x_bin h.k rfl rfl rfl ib_gtr) (fun a h => ?_)
    refine s_move h rfl _ rfl rfl (by decide) rfl (fun a h => ?_)
    refine q_grp h 4 (t := 20) 24 ((decide (300 < (a0.length : Int))) || (decide (40 < (a1.length : Int)))) rfl (fun hB3 => ?_) (fun hB3 => ?_) (fun a w h => ?_)
    · refine g_no h rfl rfl rfl rfl hB3 rfl (by decide) (fun a h => ?_)
      refine g_no h rfl rfl rfl rfl hB3 rfl (by decide) (fun a h => ?_)
      refine g_no h rfl rfl rfl rfl hB3 rfl (by decide) (fun a h => ?_)
      refine s_x h rfl rfl (by decide) (x_pick (u' := undef) h.k rfl rfl (fun _ => rfl) (fun hh => absurd (hB3.symm.trans hh) (by decide))) (fun a h => ?_)
      exact (h.mid 3 rfl).val (by first | rfl | (rw [hB3]; first | rfl | simp))
    · refine g_yes h rfl rfl rfl rfl hB3 ?_
      refine s_move h rfl _ rfl rfl (by decide) rfl (fun a h => ?_)
      refine g_yes h rfl rfl rfl rfl hB3 ?_
      refine s_x h rfl rfl (by decide) (x_len h.k rfl Tryd.underlying29 rfl) (fun a h => ?_)
      refine g_yes h rfl rfl rfl rfl hB3 ?_
      refine s_x h rfl rfl (by decide) (x_bin h.k rfl rfl rfl ib_gtr) (fun a h => ?_)
      refine s_x h rfl rfl (by decide) (x_pick (u' := undef) h.k rfl rfl (fun hh => absurd (hB3.symm.trans hh) (by decide)) (fun _ => rfl)) (fun a h => ?_)
      exact (h.mid 3 rfl).val (by first | rfl | (rw [hB3]; first | rfl | simp))
    refine l_end ?_
    refine c_cond h rfl (fun hb => ?_) (fun hb => ?_)
    · rw [if_pos hb] at hf
      refine c_rs ?_ -- region 4
      refine s_assign h rfl _ rfl rfl (by decide) rfl (fun a h => ?_)
      refine l_end ?_
      refine wp_ret ?_
      refine e_thenR ?_
      rw [← Option.some.inj hf]
      exact r_ret1 h rfl (rv_tmp h rfl) ⟨_, [], _, rfl, ⟨rfl, rfl, trivial⟩, rfl, (Up.refl _ _ _), h.m⟩
    · rw [if_neg (by rw [hb]; decide)] at hf
      refine wp_skip ?_
      refine e_thenN ?_
      refine c_rs ?_ -- region 5
      refine s_move h rfl _ rfl rfl (by decide) rfl (fun a h => ?_)
      obtain ⟨x6, h7, hf⟩ := bsome hf
      have hX := show_Parse_ok Fu (S0 := snapAll _) (hGL.mono (h.m.leAll (i := 0) rfl)) a0 hra0 _ h7 _ h.startAll
      refine q_callX hX h rfl rfl rfl (by decide) Tryd.func15 rfl rfl rfl (fun a w v L1 S1 hR hb1 h => ?_)
      obtain ⟨A9, c10, cs11, rfl, rfl, hq12, _⟩ := hR
      have hq13 := hq12.fl (S' := S0) (fl_P fl_I fl_I)
      refine s_move h rfl _ rfl rfl (by decide) rfl (fun a h => ?_)
      refine s_x h rfl rfl (by decide) (x_ext h.k rfl rfl rfl) (fun a h => ?_)
      refine s_x h rfl rfl (by decide) (x_ext h.k rfl rfl rfl) (fun a h => ?_)
      refine s_assign h rfl _ rfl rfl (by decide) rfl (fun a h => ?_)
      refine s_assign h rfl _ rfl rfl (by decide) rfl (fun a h => ?_)
      refine l_end ?_
      refine wp_seq ?_
      refine c_rs ?_ -- region 6
      refine s_move h rfl _ rfl rfl (by decide) rfl (fun a h => ?_)
      refine s_x h rfl rfl (by decide) (x_not h.k rfl rfl) (fun a h => ?_)
      refine s_move h rfl _ rfl rfl (by decide) rfl (fun a h => ?_)
      refine q_grp h 4 (t := 32) 36 ((!x6.2) && (decide (0 < (x6.1.length : Int)))) rfl (fun hB2 => ?_) (fun hB2 => ?_) (fun a w h => ?_)
      · refine g_yes h rfl rfl rfl rfl hB2 ?_
        refine s_move h rfl _ rfl rfl (by decide) rfl (fun a h => ?_)
        refine g_yes h rfl rfl rfl rfl hB2 ?_
        have hr16 : r64 (x6.1.length : Int) := len_r (h.m.rowLen (i := 0) rfl)
        refine s_x h rfl rfl (by decide) (x_len h.k rfl Tryd.underlying29 rfl) (fun a h => ?_)
        refine g_yes h rfl rfl rfl rfl hB2 ?_
        refine s_x h rfl rfl (by decide) (x_bin h.k rfl rfl rfl ib_gtr) (fun a h => ?_)
        refine s_x h rfl rfl (by decide) (x_pick (u' := undef) h.k rfl rfl (fun _ => rfl) (fun hh => absurd (hB2.symm.trans hh) (by decide))) (fun a h => ?_)
        exact (h.mid 3 rfl).val (by first | rfl | (rw [hB2]; first | rfl | simp))
      · refine g_no h rfl rfl rfl rfl hB2 rfl (by decide) (fun a h => ?_)
        refine g_no h rfl rfl rfl rfl hB2 rfl (by decide) (fun a h => ?_)
        refine g_no h rfl rfl rfl rfl hB2 rfl (by decide) (fun a h => ?_)
        refine s_x h rfl rfl (by decide) (x_pick (u' := undef) h.k rfl rfl (fun hh => absurd (hB2.symm.trans hh) (by decide)) (fun _ => rfl)) (fun a h => ?_)
        exact (h.mid 3 rfl).val (by first | rfl | (rw [hB2]; first | rfl | simp))
      refine l_end ?_
      refine c_cond h rfl (fun hb => ?_) (fun hb => ?_)
      · rw [if_pos hb] at hf
        refine c_rs ?_ -- region 7
        refine s_assign h rfl _ rfl rfl (by decide) rfl (fun a h => ?_)
        refine l_end ?_
        refine wp_ret ?_
        refine e_thenR ?_
        rw [← Option.some.inj hf]
        exact r_ret1 h rfl (rv_tmp h rfl) ⟨_, [], _, rfl, ⟨rfl, rfl, trivial⟩, rfl, (Up.refl _ _ _), (h.m.pick [1] _ (by decide) rfl)⟩
      · rw [if_neg (by rw [hb]; decide)] at hf
        refine wp_skip ?_
        refine e_thenN ?_
        refine wp_seq ?_
        refine c_rs ?_ -- region 8
        refine s_move h rfl _ rfl rfl (by decide) rfl (fun a h => ?_)
        have hr17 : r64 (x6.1.length : Int) := len_r (h.m.rowLen (i := 0) rfl)
        refine s_x h rfl rfl (by decide) (x_len h.k rfl Tryd.underlying29 rfl) (fun a h => ?_)
        refine s_move h rfl _ rfl rfl (by decide) rfl (fun a h => ?_)
        refine l_end ?_
        obtain ⟨o18, hl19, hf⟩ := bsome hf
        refine c_fin (fun a w => (.inr ()) = o18 ∧ St 86 w0 (ownL ([] ++ [.sn S0])) [(0, .string (sb a0)), (1, .slice Aa1 a1.length ca1), (5, .slice A9 x6.1.length c10), (6, .bool x6.2)] [.row (.slice A9 x6.1.length c10) 46 2 x6.1.length cs11, .sn S0] a w) ?_ ?_
        · refine wp_block ?_
          refine c_loop (fun m23 a w => ∃ (x20 : Int), chatelainelaw42_ShowParses_l0 Fu x6 m23 x20 = some o18 ∧ r64 x20 ∧ St 86 w0 (ownL ([] ++ [.sn S0])) [(0, .string (sb a0)), (1, .slice Aa1 a1.length ca1), (5, .slice A9 x6.1.length c10), (6, .bool x6.2), (37, .slice A9 x6.1.length c10), (38, .int .i64 (x6.1.length : Int)), (39, .int .i64 x20)] [.row (.slice A9 x6.1.length c10) 46 2 x6.1.length cs11, .sn S0] a w) Fu ⟨0, hl19, (show r64 0 from ⟨by decide, by decide⟩), h.has (by exact ⟨rfl, rfl, rfl, rfl, rfl, rfl, rfl, trivial⟩)⟩ (fun m23 a w hI => ?_)
          obtain ⟨x20, hl22, hr21, h⟩ := hI
          obtain _ | m23 := m23
          · rw [chatelainelaw42_ShowParses_l0] at hl22; cases hl22
          rw [chatelainelaw42_ShowParses_l0] at hl22
          refine c_rs ?_ -- region 9
          refine s_x h rfl rfl (by decide) (x_bin h.k rfl rfl rfl ib_lss) (fun a h => ?_)
          refine l_end ?_
          refine c_cs h rfl (fun hb => ?_) (fun hb => ?_)
          · rw [if_pos (of_decide_eq_true hb)] at hl22
            refine wp_skip ?_
            refine e_thenN ?_
            refine wp_seq ?_
            refine wp_block ?_
            refine c_rs ?_ -- region 10
            obtain ⟨m24, h25, hl22⟩ := bsome hl22
            obtain ⟨hi26, hm27⟩ := ix_some h25
            obtain ⟨g29, hA28⟩ := h.m.rowHead (i := 0) rfl (Nat.lt_of_le_of_lt (Nat.zero_le _) hm27)
            refine s_x h rfl rfl (by decide) (x_iaddrE h.k rfl Tryd.underlying29 sz_api_Extent hA28 rfl rfl hi26 hm27) (fun a h => ?_)
            obtain ⟨x30, h31, hl22⟩ := bsome hl22
            obtain ⟨k32, hk33, hu34⟩ : ∃ k, k = (cs11.drop (m24 * 2)).take 2 ∧ (tyP tyI tyI).rep S0 k x30 := ⟨_, rfl, reps.at hq13 h31⟩
            obtain ⟨k35, k36, rfl, ⟨rfl, hr37⟩, ⟨rfl, hr38⟩⟩ := hu34
            refine s_x h rfl rfl (by decide) (x_ldR h.k rfl ag_api_Extent rfl ([.int .i64 x30.1, .int .i64 x30.2]) rfl (by have hz := h.m.rangeRowE (i := 0) rfl hA28 (m24 * 2) 2; rw [← hk33] at hz; exact hz)) (fun a h => ?_)
            refine s_alloc h rfl rfl rfl (by decide) zi_api_Extent rfl (fun a w g39 h => ?_)
            refine s_stW h rfl rfl rfl ag_api_Extent rfl (es := [.int .i64 x30.1, .int .i64 x30.2]) rfl rfl (by simp [Value.oneCell']) 0 rfl rfl (fun a w h => ?_)
            refine l_end ?_
            refine c_rs ?_ -- region 11
            refine s_x h rfl rfl (by decide) (x_ldR h.k rfl ag_api_Extent rfl ([.int .i64 x30.1, .int .i64 x30.2]) rfl (h.m.range0 (i := 0) rfl)) (fun a h => ?_)
            obtain ⟨x40, h41, hl22⟩ := bsome hl22
            have hX := chatelaineref42_May_ok Fu (S0 := snapAll _) ([.int .i64 x30.1, .int .i64 x30.2]) x30 ((tyP tyI tyI).mono (h.m.leAll (i := 2) rfl) (show (tyP tyI tyI).rep S0 ([.int .i64 x30.1, .int .i64 x30.2]) x30 from ⟨[.int .i64 x30.1], [.int .i64 x30.2], rfl, ⟨rfl, hr37⟩, ⟨rfl, hr38⟩⟩)) _ h41 _ h.startAll
            refine q_callX hX h rfl rfl rfl (by decide) Tryd.func16 rfl rfl rfl (fun a w v L1 S1 hR hb1 h => ?_)
            obtain ⟨rfl, rfl, _⟩ := hR
            refine s_x h rfl rfl (by decide) (x_not h.k rfl rfl) (fun a h => ?_)
            refine l_end ?_
            refine c_cond h rfl (fun hb => ?_) (fun hb => ?_)
            · rw [if_pos hb] at hl22
              refine c_rs ?_ -- region 12
              refine s_assign h rfl _ rfl rfl (by decide) rfl (fun a h => ?_)
              refine l_end ?_
              refine wp_ret ?_
              refine e_blkR ?_
              refine e_thenR ?_
              refine e_thenR ?_
              refine e_blkR ?_
              refine e_thenR ?_
              cases hl22
              try dsimp only at hf
              refine e_thenR ?_
              rw [← Option.some.inj hf]
              exact r_ret1 h rfl (rv_tmp h rfl) ⟨_, [], _, rfl, ⟨rfl, rfl, trivial⟩, rfl, (Up.refl _ _ _), (h.m.pick [2] _ (by decide) rfl)⟩
            · rw [if_neg (by rw [hb]; decide)] at hl22
              refine wp_skip ?_
              refine e_blkN ?_
              refine e_thenN ?_
              refine c_r ?_ -- region 13
              refine s_x h rfl rfl (by decide) (x_bin h.k rfl rfl rfl (ib_add rfl)) (fun a h => ?_)
              refine s_move h rfl _ rfl rfl (by decide) rfl (fun a h => ?_)
              refine l_nil ?_
              have h := h.pick [1, 2] (by decide) rfl
              exact e_thenN ⟨m23, Nat.lt_succ_self _, w64 (x20 + 1), hl22, (w64_r _), h.has (by exact ⟨rfl, rfl, rfl, rfl, rfl, rfl, rfl, trivial⟩)⟩
          · rw [if_neg (of_decide_eq_false hb)] at hl22
            refine wp_exit ?_
            refine e_thenX ?_
            refine e_thenX ?_
            refine e_blkX ?_
            refine e_thenN ?_
            exact ⟨(Option.some.inj hl22), h.has (by exact ⟨rfl, rfl, rfl, rfl, trivial⟩)⟩
        · rintro a w ⟨rfl, h⟩
          try dsimp only at hf
          refine e_thenN ?_
          refine wp_seq ?_
          refine c_rs ?_ -- region 14
          refine s_move h rfl _ rfl rfl (by decide) rfl (fun a h => ?_)
          refine s_move h rfl _ rfl rfl (by decide) rfl (fun a h => ?_)
          obtain ⟨z44, hz43, hf⟩ := bsome hf
          refine q_grp h 5 (t := 48) 53 z44 rfl (fun hB1 => ?_) (fun hB1 => ?_) (fun a w h => ?_)
          · rw [if_pos hB1] at hz43
            refine g_yes h rfl rfl rfl rfl hB1 ?_
            refine s_move h rfl _ rfl rfl (by decide) rfl (fun a h => ?_)
            refine g_yes h rfl rfl rfl rfl hB1 ?_
            obtain ⟨x46, h47, hz43⟩ := bsome hz43
            have hX := chatelaineref42_Extents_ok Fu (S0 := snapAll _) A9 c10 x6.1 (h.m.rowAll (i := 0) rfl (j := 1) rfl hq13) _ h47 _ h.startAll
            refine q_callX hX h rfl rfl rfl (by decide) Tryd.func10 rfl rfl rfl (fun a w v L1 S1 hR hb1 h => ?_)
            obtain ⟨rfl, rfl, hr49, _⟩ := hR
            refine g_yes h rfl rfl rfl rfl hB1 ?_
            refine s_move h rfl _ rfl rfl (by decide) rfl (fun a h => ?_)
            refine g_yes h rfl rfl rfl rfl hB1 ?_
            refine s_x h rfl rfl (by decide) (x_neqStr h.k rfl rfl rfl) (fun a h => ?_)
            refine s_x h rfl rfl (by decide) (x_pick (u' := undef) h.k rfl rfl (fun _ => rfl) (fun hh => absurd (hB1.symm.trans hh) (by decide))) (fun a h => ?_)
            exact (h.mid 4 rfl).val (by rw [Option.some.inj hz43])
          · refine g_no h rfl rfl rfl rfl hB1 rfl (by decide) (fun a h => ?_)
            refine g_no h rfl rfl rfl rfl hB1 rfl (by decide) (fun a h => ?_)
            refine g_no h rfl rfl rfl rfl hB1 rfl (by decide) (fun a h => ?_)
            refine g_no h rfl rfl rfl rfl hB1 rfl (by decide) (fun a h => ?_)
            rw [if_neg (by rw [hB1]; decide)] at hz43
            refine s_x h rfl rfl (by decide) (x_pick (u' := undef) h.k rfl rfl (fun hh => absurd (hB1.symm.trans hh) (by decide)) (fun _ => rfl)) (fun a h => ?_)
            exact (h.mid 4 rfl).val (by rw [Option.some.inj hz43])
          refine l_end ?_
          refine c_cond h rfl (fun hb => ?_) (fun hb => ?_)
          · rw [if_pos hb] at hf
            refine c_rs ?_ -- region 15
            refine s_assign h rfl _ rfl rfl (by decide) rfl (fun a h => ?_)
            refine l_end ?_
            refine wp_ret ?_
            refine e_thenR ?_
            rw [← Option.some.inj hf]
            exact r_ret1 h rfl (rv_tmp h rfl) ⟨_, [], _, rfl, ⟨rfl, rfl, trivial⟩, rfl, (Up.refl _ _ _), (h.m.pick [1] _ (by decide) rfl)⟩
          · rw [if_neg (by rw [hb]; decide)] at hf
            refine wp_skip ?_
            refine e_thenN ?_
            refine c_rs ?_ -- region 16
            refine s_assign h rfl _ rfl rfl (by decide) rfl (fun a h => ?_)
            refine l_end ?_
            refine wp_seq ?_
            refine c_rs ?_ -- region 17
            refine s_move h rfl _ rfl rfl (by decide) rfl (fun a h => ?_)
            refine s_x h rfl rfl (by decide) (x_len h.k rfl Tryd.underlying29 rfl) (fun a h => ?_)
            refine s_move h rfl _ rfl rfl (by decide) rfl (fun a h => ?_)
            refine l_end ?_
            obtain ⟨o50, hl51, hf⟩ := bsome hf
            refine c_fin (fun a w => ∃ (x59 : List (Int × Int)), ∃ (A60 : Option Addr), ∃ (c61 : Nat), ∃ (cs62 : List Value), x59 = o50 ∧ reps (tyP tyI tyI) S0 cs62 x59 ∧ St 86 w0 (ownL ([] ++ [.sn S0])) [(1, .slice Aa1 a1.length ca1), (9, .slice A60 x59.length c61)] [.row (.slice A60 x59.length c61) 46 2 x59.length cs62, .sn S0] a w) ?_ ?_
            · refine wp_block ?_
              have h := h.mem (h.m.nilrow 46 2)
              have h := h.pick [0, 2] (by decide) rfl
              refine c_loop (fun m65 a w => ∃ (x52 : List (Int × Int)), ∃ (A53 : Option Addr), ∃ (c54 : Nat), ∃ (cs55 : List Value), ∃ (x57 : Int), chatelainelaw42_ShowParses_l1 Fu a1 m65 x52 x57 = some o50 ∧ reps (tyP tyI tyI) S0 cs55 x52 ∧ r64 x57 ∧ St 86 w0 (ownL ([] ++ [.sn S0])) [(1, .slice Aa1 a1.length ca1), (9, .slice A53 x52.length c54), (54, .slice Aa1 a1.length ca1), (55, .int .i64 (a1.length : Int)), (56, .int .i64 x57)] [.row (.slice A53 x52.length c54) 46 2 x52.length cs55, .sn S0] a w) Fu ⟨[], none, 0, [], 0, hl51, (show reps (tyP tyI tyI) S0 [] [] from rfl), (show r64 0 from ⟨by decide, by decide⟩), h.has (by exact ⟨rfl, rfl, rfl, rfl, rfl, trivial⟩)⟩ (fun m65 a w hI => ?_)
              obtain ⟨x52, A53, c54, cs55, x57, hl64, hq56, hr58, h⟩ := hI
              obtain _ | m65 := m65
              · rw [chatelainelaw42_ShowParses_l1] at hl64; cases hl64
              rw [chatelainelaw42_ShowParses_l1] at hl64
              refine c_rs ?_ -- region 18
              refine s_x h rfl rfl (by decide) (x_bin h.k rfl rfl rfl ib_lss) (fun a h => ?_)
              refine l_end ?_
              refine c_cs h rfl (fun hb => ?_) (fun hb => ?_)
              · rw [if_pos (of_decide_eq_true hb)] at hl64
                refine wp_skip ?_
                refine e_thenN ?_
                obtain ⟨o67, hc68, hl64⟩ := bsome hl64
                refine c_cut (fun a w => ∃ (x69 : List (Int × Int)), ∃ (A70 : Option Addr), ∃ (c71 : Nat), ∃ (cs72 : List Value), x69 = o67 ∧ reps (tyP tyI tyI) S0 cs72 x69 ∧ St 86 w0 (ownL ([] ++ [.sn S0])) [(1, .slice Aa1 a1.length ca1), (9, .slice A70 x69.length c71), (54, .slice Aa1 a1.length ca1), (55, .int .i64 (a1.length : Int)), (56, .int .i64 x57)] [.row (.slice A70 x69.length c71) 46 2 x69.length cs72, .sn S0] a w) ?_ ?_
                · refine wp_block ?_
                  refine c_rs ?_ -- region 19
                  obtain ⟨x74, h78, hc68⟩ := bsome hc68
                  obtain ⟨m75, hi79, hm80, hx81⟩ := idx_some h78
                  obtain ⟨b76, off77, k82, hA83, hu84, hc85⟩ := (hsa1).at (by decide) hx81 (h.m.snOK (i := 1) rfl)
                  obtain ⟨k86, k87, rfl, ⟨rfl, hr88⟩, ⟨rfl, hr89⟩⟩ := hu84
                  refine s_x h rfl rfl (by decide) (x_iaddrE h.k rfl Tryd.underlying29 sz_api_Extent hA83 rfl rfl hi79 hm80) (fun a h => ?_)
                  refine s_x h rfl rfl (by decide) (x_ldR h.k rfl ag_api_Extent rfl ([.int .i64 x74.1, .int .i64 x74.2]) rfl (hc85 _ (h.m.snOK (i := 1) rfl))) (fun a h => ?_)
                  refine s_alloc h rfl rfl rfl (by decide) zi_api_Extent rfl (fun a w g90 h => ?_)
                  refine s_stW h rfl rfl rfl ag_api_Extent rfl (es := [.int .i64 x74.1, .int .i64 x74.2]) rfl rfl (by simp [Value.oneCell']) 0 rfl rfl (fun a w h => ?_)
                  refine l_end ?_
                  refine c_rs ?_ -- region 20
                  refine s_x h rfl rfl (by decide) (x_ldR h.k rfl ag_api_Extent rfl ([.int .i64 x74.1, .int .i64 x74.2]) rfl (h.m.range0 (i := 0) rfl)) (fun a h => ?_)
                  obtain ⟨x91, h92, hc68⟩ := bsome hc68
                  have hX := chatelaineref42_May_ok Fu (S0 := snapAll _) ([.int .i64 x74.1, .int .i64 x74.2]) x74 ((tyP tyI tyI).mono (h.m.leAll (i := 2) rfl) (show (tyP tyI tyI).rep S0 ([.int .i64 x74.1, .int .i64 x74.2]) x74 from ⟨[.int .i64 x74.1], [.int .i64 x74.2], rfl, ⟨rfl, hr88⟩, ⟨rfl, hr89⟩⟩)) _ h92 _ h.startAll
                  refine q_callX hX h rfl rfl rfl (by decide) Tryd.func16 rfl rfl rfl (fun a w v L1 S1 hR hb1 h => ?_)
                  obtain ⟨rfl, rfl, _⟩ := hR
                  refine l_end ?_
                  refine c_cond h rfl (fun hb => ?_) (fun hb => ?_)
                  · rw [if_pos hb] at hc68
                    refine c_r ?_ -- region 21
                    refine s_move h rfl _ rfl rfl (by decide) rfl (fun a h => ?_)
                    refine s_x h rfl rfl (by decide) (x_ldR h.k rfl ag_api_Extent rfl ([.int .i64 x74.1, .int .i64 x74.2]) rfl (h.m.range0 (i := 0) rfl)) (fun a h => ?_)
                    refine q_bslice (T := tyP tyI tyI) (S := S0) h rfl rfl rfl (by decide) Tryd.underlying29 zi_api_Extent (by decide) (by decide) (by decide) (by decide) [.agg ([.int .i64 x74.1, .int .i64 x74.2]).toArray] rfl rfl (C := [[.int .i64 x74.1, .int .i64 x74.2]]) rfl (xs := [x74]) ⟨[.int .i64 x74.1, .int .i64 x74.2], _, rfl, ⟨[.int .i64 x74.1], [.int .i64 x74.2], rfl, ⟨rfl, hr88⟩, ⟨rfl, hr89⟩⟩, rfl⟩ (by intro c hc; simp only [List.mem_cons, List.not_mem_nil, or_false] at hc; subst hc; rfl) (fun a w A94 h => ?_)
                    have hb95 : reps (tyP tyI tyI) S0 ([[.int .i64 x74.1, .int .i64 x74.2]] : List (List Value)).flatten [x74] := ⟨[.int .i64 x74.1, .int .i64 x74.2], _, rfl, ⟨[.int .i64 x74.1], [.int .i64 x74.2], rfl, ⟨rfl, hr88⟩, ⟨rfl, hr89⟩⟩, rfl⟩
                    obtain ⟨x96, h97, hc68⟩ := bsome hc68
                    refine q_append (T := tyP tyI tyI) (S := S0) h rfl rfl rfl (by decide) Tryd.underlying29 zb_api_Extent rfl (by decide) rfl 2 rfl hq56 rfl hb95 (h.m.rdRowA (i := 0) rfl) h97 (fun a w A98 c99 cs100 hq101 h => ?_)
                    refine s_assign h rfl _ rfl rfl (by decide) rfl (fun a h => ?_)
                    refine l_nil ?_
                    refine e_blkN ?_
                    refine e_thenN ?_
                    have h := h.pick [2, 3] (by decide) rfl
                    exact ⟨x96, A98, c99, cs100, (Option.some.inj hc68), hq101, h.has (by exact ⟨rfl, rfl, rfl, rfl, rfl, trivial⟩)⟩
                  · rw [if_neg (by rw [hb]; decide)] at hc68
                    refine wp_skip ?_
                    refine e_blkN ?_
                    refine e_thenN ?_
                    have h := h.pick [1, 2] (by decide) rfl
                    exact ⟨x52, A53, c54, cs55, (Option.some.inj hc68), hq56, h.has (by exact ⟨rfl, rfl, rfl, rfl, rfl, trivial⟩)⟩
                · rintro a w ⟨x69, A70, c71, cs72, rfl, hq73, h⟩
                  refine c_r ?_ -- region 22
                  refine s_x h rfl rfl (by decide) (x_bin h.k rfl rfl rfl (ib_add rfl)) (fun a h => ?_)
                  refine s_move h rfl _ rfl rfl (by decide) rfl (fun a h => ?_)
                  refine l_nil ?_
                  exact e_thenN ⟨m65, Nat.lt_succ_self _, x69, A70, c71, cs72, w64 (x57 + 1), hl64, hq73, (w64_r _), h.has (by exact ⟨rfl, rfl, rfl, rfl, rfl, trivial⟩)⟩
              · rw [if_neg (of_decide_eq_false hb)] at hl64
                refine wp_exit ?_
                refine e_thenX ?_
                refine e_thenX ?_
                refine e_blkX ?_
                refine e_thenN ?_
                exact ⟨x52, A53, c54, cs55, (Option.some.inj hl64), hq56, h.has (by exact ⟨rfl, rfl, trivial⟩)⟩
            · rintro a w ⟨x59, A60, c61, cs62, rfl, hq63, h⟩
              refine e_thenN ?_
              refine c_rs ?_ -- region 23
              refine s_move h rfl _ rfl rfl (by decide) rfl (fun a h => ?_)
              obtain ⟨x103, h104, hf⟩ := bsome hf
              have hX := show_Extents_ok Fu (S0 := snapAll _) (hGT.mono (h.m.leAll (i := 1) rfl)) Aa1 ca1 a1 (hsa1.mono (h.m.leAll (i := 1) rfl)) _ h104 _ h.startAll
              refine q_callX hX h rfl rfl rfl (by decide) Tryd.func9 rfl rfl rfl (fun a w v L1 S1 hR hb1 h => ?_)
              obtain ⟨rfl, rfl, hr106, _⟩ := hR
              refine s_assign h rfl _ rfl rfl (by decide) rfl (fun a h => ?_)
              refine l_end ?_
              refine c_rs ?_ -- region 24
              refine s_move h rfl _ rfl rfl (by decide) rfl (fun a h => ?_)
              obtain ⟨x107, h108, hf⟩ := bsome hf
              have hX := show_Parse_ok Fu (S0 := snapAll _) (hGL.mono (h.m.leAll (i := 1) rfl)) x103 hr106 _ h108 _ h.startAll
              refine q_callX hX h rfl rfl rfl (by decide) Tryd.func15 rfl rfl rfl (fun a w v L1 S1 hR hb1 h => ?_)
              obtain ⟨A110, c111, cs112, rfl, rfl, hq113, _⟩ := hR
              have hq114 := hq113.fl (S' := S0) (fl_P fl_I fl_I)
              refine s_move h rfl _ rfl rfl (by decide) rfl (fun a h => ?_)
              refine s_x h rfl rfl (by decide) (x_ext h.k rfl rfl rfl) (fun a h => ?_)
              refine s_x h rfl rfl (by decide) (x_ext h.k rfl rfl rfl) (fun a h => ?_)
              refine s_assign h rfl _ rfl rfl (by decide) rfl (fun a h => ?_)
              refine s_assign h rfl _ rfl rfl (by decide) rfl (fun a h => ?_)
              refine l_end ?_
              refine c_rs ?_ -- region 25
              refine s_move h rfl _ rfl rfl (by decide) rfl (fun a h => ?_)
              refine s_move h rfl _ rfl rfl (by decide) rfl (fun a h => ?_)
              obtain ⟨x115, h116, hf⟩ := bsome hf
              have hX := chatelaineref42_Extents_ok Fu (S0 := snapAll _) A60 c61 x59 (h.m.rowAll (i := 1) rfl (j := 2) rfl hq63) _ h116 _ h.startAll
              refine q_callX hX h rfl rfl rfl (by decide) Tryd.func10 rfl rfl rfl (fun a w v L1 S1 hR hb1 h => ?_)
              obtain ⟨rfl, rfl, hr118, _⟩ := hR
              refine s_x h rfl rfl (by decide) (x_eqlStr h.k rfl rfl rfl) (fun a h => ?_)
              refine s_move h rfl _ rfl rfl (by decide) rfl (fun a h => ?_)
              refine q_grp h 2 (t := 78) 80 ((decide (x103 = x115)) && x107.2) rfl (fun hB4 => ?_) (fun hB4 => ?_) (fun a w h => ?_)
              · refine g_yes h rfl rfl rfl rfl hB4 ?_
                refine s_move h rfl _ rfl rfl (by decide) rfl (fun a h => ?_)
                refine s_x h rfl rfl (by decide) (x_pick (u' := undef) h.k rfl rfl (fun _ => rfl) (fun hh => absurd (hB4.symm.trans hh) (by decide))) (fun a h => ?_)
                exact (h.mid 1 rfl).val (by first | rfl | (rw [hB4]; first | rfl | simp))
              · refine g_no h rfl rfl rfl rfl hB4 rfl (by decide) (fun a h => ?_)
                refine s_x h rfl rfl (by decide) (x_pick (u' := undef) h.k rfl rfl (fun hh => absurd (hB4.symm.trans hh) (by decide)) (fun _ => rfl)) (fun a h => ?_)
                exact (h.mid 1 rfl).val (by first | rfl | (rw [hB4]; first | rfl | simp))
              refine s_move h rfl _ rfl rfl (by decide) rfl (fun a h => ?_)
              obtain ⟨z122, hz121, hf⟩ := bsome hf
              refine q_grp h 4 (t := 81) 85 z122 rfl (fun hB7 => ?_) (fun hB7 => ?_) (fun a w h => ?_)
              · rw [if_pos hB7] at hz121
                refine g_yes h rfl rfl rfl rfl hB7 ?_
                refine s_move h rfl _ rfl rfl (by decide) rfl (fun a h => ?_)
                refine g_yes h rfl rfl rfl rfl hB7 ?_
                refine s_move h rfl _ rfl rfl (by decide) rfl (fun a h => ?_)
                refine g_yes h rfl rfl rfl rfl hB7 ?_
                obtain ⟨x124, h125, hz121⟩ := bsome hz121
                have hX := chatelaineref14_Same_ok Fu (S0 := snapAll _) A110 c111 x107.1 (h.m.rowAll (i := 0) rfl (j := 2) rfl hq114) A60 c61 x59 (h.m.rowAll (i := 1) rfl (j := 2) rfl hq63) _ h125 _ h.startAll
                refine q_callX hX h rfl rfl rfl (by decide) Tryd.func17 rfl rfl rfl (fun a w v L1 S1 hR hb1 h => ?_)
                obtain ⟨rfl, rfl, _⟩ := hR
                refine s_x h rfl rfl (by decide) (x_pick (u' := undef) h.k rfl rfl (fun _ => rfl) (fun hh => absurd (hB7.symm.trans hh) (by decide))) (fun a h => ?_)
                exact (h.mid 3 rfl).val (by rw [Option.some.inj hz121])
              · refine g_no h rfl rfl rfl rfl hB7 rfl (by decide) (fun a h => ?_)
                refine g_no h rfl rfl rfl rfl hB7 rfl (by decide) (fun a h => ?_)
                refine g_no h rfl rfl rfl rfl hB7 rfl (by decide) (fun a h => ?_)
                rw [if_neg (by rw [hB7]; decide)] at hz121
                refine s_x h rfl rfl (by decide) (x_pick (u' := undef) h.k rfl rfl (fun hh => absurd (hB7.symm.trans hh) (by decide)) (fun _ => rfl)) (fun a h => ?_)
                exact (h.mid 3 rfl).val (by rw [Option.some.inj hz121])
              refine s_assign h rfl _ rfl rfl (by decide) rfl (fun a h => ?_)
              refine l_end ?_
              refine wp_ret ?_
              rw [← Option.some.inj hf]
              exact r_ret1 h rfl (rv_tmp h rfl) ⟨_, [], _, rfl, ⟨rfl, rfl, trivial⟩, rfl, (Up.refl _ _ _), (h.m.pick [2] _ (by decide) rfl)⟩
end Go.Proofs.YtnmeelkfpmodgaaDoor
